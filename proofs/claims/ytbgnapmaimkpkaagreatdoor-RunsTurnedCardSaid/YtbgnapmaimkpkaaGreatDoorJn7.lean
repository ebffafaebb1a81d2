/-
  WALK2. Package runs: states, Count, Reached. Conditions: the program lies in memory; block 0 holds the table of needs.
-/
import Derived.Test.YtbgnapmaimkpkaaGreatDoorJn6
import Derived.Test.YtbgnapmaimkpkaaGreatDoorJn4
import Derived.Test.YtbgnapmaimkpkaaGreatDoorJn5
set_option linter.unusedSimpArgs false
set_option linter.unusedVariables false
namespace Go.Proofs.YtbgnapmaimkpkaaGreatDoor
-- RnB
open Go.Proofs.Tryz
open Go.RowKit
set_option maxRecDepth 100000
def plainPr (p:Prg):Prg:={ p with name:=⟨#[97]⟩,ask:=1,cond:=.mk 0 0 0 0 [] }
theorem plain_movesN (p:Prg) (m:UInt8) (s:By):∀ n,movesN (plainPr p) m s n=movesN p m s n
 | 0=>rfl
 | n+1=>by rw [movesN,movesN,plain_movesN p m s n];rfl
theorem plain_movesM (p:Prg) (m:UInt8) (s:By):movesM (plainPr p) m s=movesM p m s:=plain_movesN p m s _
theorem plain_visit (p:Prg) (m:UInt8) (most k:Nat) (s:By):∀ r l q,visitR (plainPr p) m most k s r l q=visitR p m most k s r l q
 | [],_,_=>rfl
 | x :: r,l,q=>by
   rw [visitR,visitR,plain_visit p m most k s r,plain_visit p m most k s r]
   rfl
theorem plain_search (p:Prg) (m:UInt8) (most:Nat):∀ f k a,searchR (plainPr p) m most f k a=searchR p m most f k a
 | 0,_,_=>rfl
 | f+1,k,a=>by
   rw [searchR,searchR]
   cases a.list[k]? with
   | none=>rfl
   | some s=>
     simp only [plain_movesM,plain_visit]
     cases visitR p m most k s (movesM p m s) a.list a.links with
     | none=>rfl
     | some lq=>exact plain_search p m most f (k+1) _
theorem plain_reach (p:Prg) (m:UInt8) (most:Nat):reachR (plainPr p) m most=reachR p m most:=plain_search p m most _ _ _
theorem demands_right {p:Prg} (h:∀ i,i < 6→demandK p i=true):rightErr p=0:=by
 unfold rightErr
 simp [rightFrom,h]
theorem a_word:oneWord ⟨#[97]⟩=true:=by kernel_rfl
theorem plain_right {p:Prg} (h:rightErr p=0):rightErr (plainPr p)=0:=demands_right fun i hi=>by
 have h1:=right_demand h 1 (by omega)
 have h2:=right_demand h 2 (by omega)
 have h3:=right_demand h 3 (by omega)
 rcases (by omega:i=0∨i=1∨i=2∨i=3∨i=4∨i=5) with e | e | e | e | e | e <;> rw [e]
 · rw [demandK];exact a_word
 · rw [demandK] at h1 ⊢;exact h1
 · rw [demandK] at h2 ⊢;exact h2
 · rw [demandK] at h3 ⊢;exact h3
 · rw [demandK];rfl
 · rw [demandK];rfl
def statesC (p:Prg) (m:UInt8) (n:Int):Prop:=knownM m=true∧1≤n∧n≤65536∧rightErr p=0
instance (p:Prg) (m:UInt8) (n:Int):Decidable (statesC p m n):=by unfold statesC;infer_instance
def statesR (p:Prg) (m:UInt8) (n:Int):Option Fnd:=if statesC p m n then reachR p m n.toNat else none
def statesE (p:Prg) (m:UInt8) (n:Int):Int:=if statesC p m n then (if (reachR p m n.toNat).isSome=true then 0 else 5) else 2
theorem states_bad {p:Prg} {m:UInt8} {n:Int} (h:¬ statesC p m n) {w0 w:World} {rs:List Res} (H:Own w0 none w rs):ExpOut (statesR p m n) (.int .i64 (statesE p m n)) w0 (.returned (.tuple #[.agg #[.slice none 0 0,.slice none 0 0,.slice none 0 0],.int .i64 2])) w:=by
 rw [statesR,statesE,if_neg h,if_neg h]
 exact exp_none H
theorem grownOwn {w w':World} (hg:w.grownBy w' none):Own w none w' []:=⟨hg,fun i r h=>by simp at h,fun i r h=>by simp at h,fun i j r s h=>by simp at h⟩
theorem clos1_any (p:Prg) (mc:UInt8) (b3 b4:Nat) (c0 c1 c2 c3 c4 c5 c6 c7 c8 c9:Value) (w0:World) (h3:w0.rangeAt b3 0 [c0,c1,c2,c3,c4,c5,c6,c7,c8,c9]) (h4:w0.rangeAt b4 0 [Go.Proofs.YtbgnapmaimkpkaaGreatDoor.b8 mc]) (hP:ProgAt w0 [c0,c1,c2,c3,c4,c5,c6,c7,c8,c9] p) (hN:NeedsAt w0) (s:By) (hF:Fine p mc s) :
   CallsF Tryz.prog (.func (.func 95) #[] #[.pointer (some ⟨b3,0,none⟩),.pointer (some ⟨b4,0,none⟩)]) [.agg (bs 142 s).toArray] w0 (fun e w'=>∃ A c,e = .returned (.slice A (movesM p mc s).length c)∧Own w0 none w' [.rws 86 3 (.slice A (movesM p mc s).length c) ((movesM p mc s).map Pss.cells)]):=by
 refine ⟨_,[],[.pointer (some ⟨b3,0,none⟩),.pointer (some ⟨b4,0,none⟩)],rfl,call95,?_⟩
 have H:=Own.start w0 none
 have eR:movesR p mc s=movesM p mc s:=movesR_eq hF.r
 refine enterF func95 rfl ntmps95 rfl (fun a F=>?_);refine cSR fun K1 hK1=>?_;refine sBxB H F rfl rfl rfl ?_;clear F a H;intro b3 a w F H;refine sAs F rfl rfl rfl (qNK hK1 (qSR fun K2 hK2=>?_));clear hK1;clear F a;intro a F
 refine sLr underlying29 rfl ?si F rfl rfl rfl (H.argR (subR h3 0 10)) ?_
 case si=>exact info_size sizeOf29
 clear F a;intro a F;refine sLd isAgg5 F rfl rfl rfl (H.arg (h4 0 _ rfl)) (qLrB underlying70 rfl sizeOf70 rfl rfl rfl (H.whole 0 rfl) ?_);clear F a;intro a F;refine sCall call27 F rfl rfl rfl ((by have:=movesR_any _ p _ (hP.own H) (hN.own H) mc s;rw [eR] at this;exact this)) ?_;rintro e w ⟨A,c,rfl,H2⟩;replace H:=H.join H2;clear H2;refine ⟨_,rfl,?_⟩;clear F a;intro a F;refine sAs F rfl rfl rfl (qNK hK2 ?_);clear hK2;clear F a;intro a F;refine wp_ret ?_;refine bRet results95 F rfl ?_
 exact ⟨A,c,rfl,H.pick 0 rfl⟩
theorem clos2_any (p:Prg) (mc:UInt8) (b3 b4:Nat) (c0 c1 c2 c3 c4 c5 c6 c7 c8 c9:Value) (w0:World) (h3:w0.rangeAt b3 0 [c0,c1,c2,c3,c4,c5,c6,c7,c8,c9]) (h4:w0.rangeAt b4 0 [Go.Proofs.YtbgnapmaimkpkaaGreatDoor.b8 mc]) (hP:ProgAt w0 [c0,c1,c2,c3,c4,c5,c6,c7,c8,c9] p) (hN:NeedsAt w0) (s:By) (x:Pss) (hF:Fine p mc s) (hx:x ∈ movesM p mc s) :
   CallsF Tryz.prog (.func (.func 96) #[] #[.pointer (some ⟨b3,0,none⟩),.pointer (some ⟨b4,0,none⟩)]) [.agg (bs 142 s).toArray,.agg x.cells.toArray] w0 (fun e w'=>e = .returned (.agg (bs 142 (stepM p mc s x)).toArray)∧Below w0.heap.size w0 w'):=by
 refine ⟨_,[],[.pointer (some ⟨b3,0,none⟩),.pointer (some ⟨b4,0,none⟩)],rfl,call96,?_⟩
 have H:=Own.start w0 none
 have hxr:x ∈ movesR p mc s:=by rw [movesR_eq hF.r];exact hx
 have eS:moveSM p mc s x=stepM p mc s x:=if_pos hxr
 refine enterF func96 rfl ntmps96 rfl (fun a F=>?_);refine cSR fun K1 hK1=>?_;refine sBxB H F rfl rfl rfl ?_;clear F a H;intro b4 a w F H;refine sBx H F rfl rfl rfl ?_;clear F a H;intro b5 a w F H;refine sAlB H zB70 F rfl rfl ?_;clear F a H;intro b6 a w F H;refine nK hK1 (cSR fun K2 hK2=>?_);clear hK1
 refine sLr underlying29 rfl ?si F rfl rfl rfl (H.argR (subR h3 0 10)) ?_
 case si=>exact info_size sizeOf29
 clear F a;intro a F;refine sLd isAgg5 F rfl rfl rfl (H.arg (h4 0 _ rfl)) (qLrB underlying70 rfl sizeOf70 rfl rfl rfl (H.whole 2 rfl) ?_);clear F a;intro a F
 refine sLr underlying86 rfl ?si F rfl rfl rfl (H.whole 1 rfl) ?_
 case si=>exact info_size sizeOf86
 clear F a;intro a F;refine sCall call28 F rfl rfl rfl ((by have:=moveM_any _ p _ (hP.own H) (hN.own H) mc s x;rw [eS] at this;exact this)) ?_;rintro e w ⟨rfl,hb⟩;replace H:=H.grow hb;clear hb;refine ⟨_,rfl,?_⟩;clear F a;intro a F;refine sMv F rfl rfl rfl (qExt rfl rfl rfl rfl (qExt rfl rfl rfl rfl ?_));clear F a;intro a F;refine sAlB H zB70 F rfl rfl ?_;clear F a H;intro b7 a w F H;refine sSrB H 0 sizeOf70 F rfl rfl rfl rfl (by omega) ?_;clear H;intro w H;rw [lay_all] at H;refine sAs F rfl rfl rfl (qNK hK2 (qSR fun K3 hK3=>qLrB underlying70 rfl sizeOf70 rfl rfl rfl (H.whole 0 rfl) ?_));clear hK2;clear F a;intro a F;refine sSrB H 1 sizeOf70 F rfl rfl rfl rfl (by omega) ?_;clear H;intro w H;rw [lay_all] at H;refine nK hK3 ?_;clear hK3;refine wp_ret ?_;refine bRetB results96 F rfl underlying70 rfl sizeOf70 H 1 rfl ?_
 exact ⟨rfl,H.below⟩
theorem states_any (cs:List Value) (p:Prg) (w0:World) (hP:ProgAt w0 cs p) (hN:NeedsAt w0) (mc:UInt8) (n:Int) (hlo : -9223372036854775808≤n) (hhi:n≤9223372036854775807) :
   Calls Tryz.prog 46 #[.agg cs.toArray,Go.Proofs.YtbgnapmaimkpkaaGreatDoor.b8 mc,.int .i64 n] w0 fun e w'=>ExpOut (statesR p mc n) (.int .i64 (statesE p mc n)) w0 e w':=by
 have H:=Own.start w0 none
 have hP0:=hP
 obtain ⟨LA,LC,IA,IC,TA,TC,h,ccs,hp⟩:=hP
 obtain ⟨c1,c2,c3,c4,c5,rfl⟩:=len5 (condAt_len hp.cond)
 have hcs:=hp.cs
 subst hcs
 have hkn:knownM mc=true ↔ (1:UInt8)≤mc∧mc≤3:=by unfold knownM;simp
 refine enterF func46 rfl ntmps46 rfl (fun a F=>?_);refine cSR fun K1 hK1=>?_;refine sBx H F rfl rfl rfl ?_;clear F a H;intro b3 a w F H;refine sBx H F rfl rfl rfl ?_;clear F a H;intro b4 a w F H;refine sAl H zeroValue113 F rfl rfl ?_;clear F a H;intro b6 a w F H;refine sAs F rfl rfl rfl (qNK hK1 (qSR fun K2 hK2=>?_));clear hK1;clear F a;intro a F;refine sAl H zeroValue113 F rfl rfl ?_;clear F a H;intro b8 a w F H;refine nK hK2 ?_;clear hK2;refine cSeq (fun K3 hK3=>?_);refine cSR fun K4 hK4=>sLd isAgg5 F rfl rfl rfl (H.cell 2 rfl rfl) (qBin rfl rfl rfl rfl (bLssB (y:=1)) (qMv rfl rfl rfl ?_));clear F a;intro a F
 refine F.split 15 rfl ?_ ?_ <;> (clear F;intro h15 F)
 ·
  replace h15:=of_decide_eq_true h15;refine sSk F rfl rfl (qSk rfl rfl (qPk rfl rfl rfl rfl (qMv rfl rfl rfl (qSk rfl rfl (qSk rfl rfl (qPk rfl rfl rfl rfl (qMv rfl rfl rfl (qSk rfl rfl (qSk rfl rfl (qPk rfl rfl rfl rfl (qNK hK4 ?_)))))))))));clear hK4;clear F a;intro a F;refine cIfT F rfl ?_;refine cSR fun K5 hK5=>?_
  refine sLr underlying113 rfl ?si F rfl rfl rfl (H.whole 0 rfl) ?_
  case si=>exact info_size sizeOf113
  clear F a;intro a F
  refine sSr H 1 ?si F rfl rfl rfl ?s1 rfl rfl ?_
  case si=>exact info_size sizeOf113
  case s1=>first | rfl | (repeat (first | exact one_nil | (apply one_cons;· first | rfl | assumption | exact one_bif rfl rfl)))
  clear H;intro w H;refine sAs F rfl rfl rfl (qNK hK5 ?_);clear hK5;clear F a;intro a F;refine wp_ret ?_;simp only [Exit.then];refine bRetD1 results46 F rfl rfl underlying113 rfl H 1 rfl sizeOf113 rfl ?_
  first
  | (refine states_bad ?_ H
     intro hC
     obtain ⟨q1,q2,q3,q4⟩:=hC
     have q5:=hkn.1 q1
     first
     | exact absurd h15 (UInt8.not_lt.2 q5.1)
     | exact absurd h19 (UInt8.not_lt.2 q5.2)
     | exact absurd h23 (by omega)
     | exact absurd h26 (by omega)
     | exact hv q4)
  | (simp only [plain_reach] at h50
     have e:reachR p mc n.toNat=none:=Option.not_isSome_iff_eq_none.1 (by rw [h50];simp)
     rw [statesR,statesE,if_pos hC,if_pos hC,e]
     exact exp_none H)
  | (simp only [plain_reach] at h50 H ⊢
     rw [statesR,statesE,if_pos hC,if_pos hC,if_pos h50]
     exact ⟨_,_,_,_,_,_,rfl,H.sel [0,0,0] rfl rfl⟩)
 replace h15:=of_decide_eq_false h15;refine sLd isAgg5 F rfl rfl rfl (H.cell 2 rfl rfl) (qBin rfl rfl rfl rfl (bGtrB (y:=3)) (qPk rfl rfl rfl rfl (qMv rfl rfl rfl ?_)));clear F a;intro a F
 refine F.split 19 rfl ?_ ?_ <;> (clear F;intro h19 F)
 ·
  replace h19:=of_decide_eq_true h19;refine sSk F rfl rfl (qSk rfl rfl (qPk rfl rfl rfl rfl (qMv rfl rfl rfl (qSk rfl rfl (qSk rfl rfl (qPk rfl rfl rfl rfl (qNK hK4 ?_)))))));clear hK4;clear F a;intro a F;refine cIfT F rfl ?_;refine cSR fun K6 hK6=>?_
  refine sLr underlying113 rfl ?si F rfl rfl rfl (H.whole 0 rfl) ?_
  case si=>exact info_size sizeOf113
  clear F a;intro a F
  refine sSr H 1 ?si F rfl rfl rfl ?s1 rfl rfl ?_
  case si=>exact info_size sizeOf113
  case s1=>first | rfl | (repeat (first | exact one_nil | (apply one_cons;· first | rfl | assumption | exact one_bif rfl rfl)))
  clear H;intro w H;refine sAs F rfl rfl rfl (qNK hK6 ?_);clear hK6;clear F a;intro a F;refine wp_ret ?_;simp only [Exit.then];refine bRetD1 results46 F rfl rfl underlying113 rfl H 1 rfl sizeOf113 rfl ?_
  first
  | (refine states_bad ?_ H
     intro hC
     obtain ⟨q1,q2,q3,q4⟩:=hC
     have q5:=hkn.1 q1
     first
     | exact absurd h15 (UInt8.not_lt.2 q5.1)
     | exact absurd h19 (UInt8.not_lt.2 q5.2)
     | exact absurd h23 (by omega)
     | exact absurd h26 (by omega)
     | exact hv q4)
  | (simp only [plain_reach] at h50
     have e:reachR p mc n.toNat=none:=Option.not_isSome_iff_eq_none.1 (by rw [h50];simp)
     rw [statesR,statesE,if_pos hC,if_pos hC,e]
     exact exp_none H)
  | (simp only [plain_reach] at h50 H ⊢
     rw [statesR,statesE,if_pos hC,if_pos hC,if_pos h50]
     exact ⟨_,_,_,_,_,_,rfl,H.sel [0,0,0] rfl rfl⟩)
 replace h19:=of_decide_eq_false h19;refine sMv F rfl rfl rfl (qBin rfl rfl rfl rfl bLss (qPk rfl rfl rfl rfl (qMv rfl rfl rfl ?_)));clear F a;intro a F
 refine F.split 23 rfl ?_ ?_ <;> (clear F;intro h23 F)
 ·
  replace h23:=of_decide_eq_true h23;refine sSk F rfl rfl (qSk rfl rfl (qPk rfl rfl rfl rfl (qNK hK4 ?_)));clear hK4;clear F a;intro a F;refine cIfT F rfl ?_;refine cSR fun K7 hK7=>?_
  refine sLr underlying113 rfl ?si F rfl rfl rfl (H.whole 0 rfl) ?_
  case si=>exact info_size sizeOf113
  clear F a;intro a F
  refine sSr H 1 ?si F rfl rfl rfl ?s1 rfl rfl ?_
  case si=>exact info_size sizeOf113
  case s1=>first | rfl | (repeat (first | exact one_nil | (apply one_cons;· first | rfl | assumption | exact one_bif rfl rfl)))
  clear H;intro w H;refine sAs F rfl rfl rfl (qNK hK7 ?_);clear hK7;clear F a;intro a F;refine wp_ret ?_;simp only [Exit.then];refine bRetD1 results46 F rfl rfl underlying113 rfl H 1 rfl sizeOf113 rfl ?_
  first
  | (refine states_bad ?_ H
     intro hC
     obtain ⟨q1,q2,q3,q4⟩:=hC
     have q5:=hkn.1 q1
     first
     | exact absurd h15 (UInt8.not_lt.2 q5.1)
     | exact absurd h19 (UInt8.not_lt.2 q5.2)
     | exact absurd h23 (by omega)
     | exact absurd h26 (by omega)
     | exact hv q4)
  | (simp only [plain_reach] at h50
     have e:reachR p mc n.toNat=none:=Option.not_isSome_iff_eq_none.1 (by rw [h50];simp)
     rw [statesR,statesE,if_pos hC,if_pos hC,e]
     exact exp_none H)
  | (simp only [plain_reach] at h50 H ⊢
     rw [statesR,statesE,if_pos hC,if_pos hC,if_pos h50]
     exact ⟨_,_,_,_,_,_,rfl,H.sel [0,0,0] rfl rfl⟩)
 replace h23:=of_decide_eq_false h23;refine sMv F rfl rfl rfl (qBin rfl rfl rfl rfl bGtr (qPk rfl rfl rfl rfl (qNK hK4 ?_)));clear hK4;clear F a;intro a F
 refine cIf F rfl (fun h26=>?_) (fun h26=>?_)
 ·
  replace h26:=of_decide_eq_true h26;refine cSR fun K8 hK8=>?_
  refine sLr underlying113 rfl ?si F rfl rfl rfl (H.whole 0 rfl) ?_
  case si=>exact info_size sizeOf113
  clear F a;intro a F
  refine sSr H 1 ?si F rfl rfl rfl ?s1 rfl rfl ?_
  case si=>exact info_size sizeOf113
  case s1=>first | rfl | (repeat (first | exact one_nil | (apply one_cons;· first | rfl | assumption | exact one_bif rfl rfl)))
  clear H;intro w H;refine sAs F rfl rfl rfl (qNK hK8 ?_);clear hK8;clear F a;intro a F;refine wp_ret ?_;simp only [Exit.then];refine bRetD1 results46 F rfl rfl underlying113 rfl H 1 rfl sizeOf113 rfl ?_
  first
  | (refine states_bad ?_ H
     intro hC
     obtain ⟨q1,q2,q3,q4⟩:=hC
     have q5:=hkn.1 q1
     first
     | exact absurd h15 (UInt8.not_lt.2 q5.1)
     | exact absurd h19 (UInt8.not_lt.2 q5.2)
     | exact absurd h23 (by omega)
     | exact absurd h26 (by omega)
     | exact hv q4)
  | (simp only [plain_reach] at h50
     have e:reachR p mc n.toNat=none:=Option.not_isSome_iff_eq_none.1 (by rw [h50];simp)
     rw [statesR,statesE,if_pos hC,if_pos hC,e]
     exact exp_none H)
  | (simp only [plain_reach] at h50 H ⊢
     rw [statesR,statesE,if_pos hC,if_pos hC,if_pos h50]
     exact ⟨_,_,_,_,_,_,rfl,H.sel [0,0,0] rfl rfl⟩)
 replace h26:=of_decide_eq_false h26;refine wp_skip (hK3 _ _ (cSR fun K9 hK9=>?_));clear hK3
 refine sLr underlying29 rfl ?si F rfl rfl rfl (H.whole 3 rfl) ?_
 case si=>exact info_size sizeOf29
 clear F a;intro a F;refine sCall call26 F rfl rfl rfl (start_any _ p _ (hP0.own H) (hN.own H)) ?_;rintro e w ⟨rfl,hb⟩;replace H:=H.grow hb;clear hb;refine ⟨_,rfl,?_⟩;clear F a;intro a F;refine sMv F rfl rfl rfl (qExt rfl rfl rfl rfl (qExt rfl rfl rfl rfl ?_));clear F a;intro a F;refine sAlB H zB70 F rfl rfl ?_;clear F a H;intro b9 a w F H;refine sSrB H 0 sizeOf70 F rfl rfl rfl rfl (by omega) ?_;clear H;intro w H;rw [lay_all] at H;refine sAs F rfl rfl rfl (qNK hK9 ?_);clear hK9;clear F a;intro a F;refine cSeq (fun K10 hK10=>?_);refine cSR fun K11 hK11=>sMv F rfl rfl rfl (qBin rfl rfl rfl rfl bNeq (qNK hK11 ?_));clear hK11;clear F a;intro a F
 refine cIf F rfl (fun h34=>?_) (fun h34=>?_)
 ·
  replace h34:=bneT h34
  have hv:rightErr p ≠ 0:=fun h=>h34 (if_pos h)
  have eE:startE p=2:=if_neg hv
  simp only [eE] at F
  refine cSR fun K12 hK12=>?_
  refine sLr underlying113 rfl ?si F rfl rfl rfl (H.whole 1 rfl) ?_
  case si=>exact info_size sizeOf113
  clear F a;intro a F;refine sMv F rfl rfl rfl ?_;clear F a;intro a F
  refine sSr H 2 ?si F rfl rfl rfl ?s1 rfl rfl ?_
  case si=>exact info_size sizeOf113
  case s1=>first | rfl | (repeat (first | exact one_nil | (apply one_cons;· first | rfl | assumption | exact one_bif rfl rfl)))
  clear H;intro w H;refine sAs F rfl rfl rfl (qNK hK12 ?_);clear hK12;clear F a;intro a F;refine wp_ret ?_;simp only [Exit.then];refine bRetD1 results46 F rfl rfl underlying113 rfl H 2 rfl sizeOf113 rfl ?_
  first
  | (refine states_bad ?_ H
     intro hC
     obtain ⟨q1,q2,q3,q4⟩:=hC
     have q5:=hkn.1 q1
     first
     | exact absurd h15 (UInt8.not_lt.2 q5.1)
     | exact absurd h19 (UInt8.not_lt.2 q5.2)
     | exact absurd h23 (by omega)
     | exact absurd h26 (by omega)
     | exact hv q4)
  | (simp only [plain_reach] at h50
     have e:reachR p mc n.toNat=none:=Option.not_isSome_iff_eq_none.1 (by rw [h50];simp)
     rw [statesR,statesE,if_pos hC,if_pos hC,e]
     exact exp_none H)
  | (simp only [plain_reach] at h50 H ⊢
     rw [statesR,statesE,if_pos hC,if_pos hC,if_pos h50]
     exact ⟨_,_,_,_,_,_,rfl,H.sel [0,0,0] rfl rfl⟩)
 replace h34:=bneF h34
 have hv:rightErr p=0:=by
  apply Decidable.byContradiction
  intro hh
  rw [startE,if_neg hh] at h34
  cases h34
 have hv2:=plain_right hv
 have eS:startS p=startP (plainPr p):=if_pos hv
 have hk:knownM mc=true:=hkn.2 ⟨UInt8.not_lt.1 h15,UInt8.not_lt.1 h19⟩
 have hC:statesC p mc n:=⟨hk,by omega,by omega,hv⟩
 have en:((n.toNat:Nat):Int)=n:=by omega
 rw [eS] at H;refine wp_skip (hK10 _ _ (cSR fun K13 hK13=>sBd (cs:=[Go.Proofs.YtbgnapmaimkpkaaGreatDoor.b8 0,Go.Proofs.YtbgnapmaimkpkaaGreatDoor.b8 0,Go.Proofs.YtbgnapmaimkpkaaGreatDoor.b8 0,Go.Proofs.YtbgnapmaimkpkaaGreatDoor.b8 0,.slice none 0 0]) (places:=[(0,1),(1,1),(2,1),(3,1),(4,1)]) zeroValue27 underlying27 (by kernel_rfl) F rfl rfl rfl rfl (qFa (f:=0) (k:=0) underlying29 rfl sizeOf9 rfl rfl rfl rfl rfl ?_)));clear hK10;clear F a;intro a F;refine sSt H 4 sizeOf9 F rfl rfl rfl rfl rfl rfl ?_;clear H;intro w H;refine sFa (f:=4) (k:=4) underlying29 rfl sizeOf5 rfl rfl F rfl rfl rfl ?_;clear F a;intro a F;refine sSt H 4 sizeOf5 F rfl rfl rfl rfl rfl rfl ?_;clear H;intro w H;refine sFa (f:=5) (k:=5) underlying29 rfl sizeOf27 rfl rfl F rfl rfl rfl ?_;clear F a;intro a F
 refine sSr H 4 ?si F rfl rfl rfl ?s1 rfl rfl ?_
 case si=>exact info_size sizeOf27
 case s1=>first | rfl | (repeat (first | exact one_nil | (apply one_cons;· first | rfl | assumption | exact one_bif rfl rfl)))
 clear H;intro w H;refine nK hK13 (cSR fun K14 hK14=>sLrB underlying70 rfl sizeOf70 F rfl rfl rfl (H.whole 0 rfl) (qMv rfl rfl rfl (qFn rfl rfl rfl rfl (qFn rfl rfl rfl rfl ?_))));clear hK13;clear F a;intro a F
 refine sCall call94 F rfl rfl rfl ((by
   have hPl:ProgAt _ _ (plainPr p):=⟨LA,LC,IA,IC,TA,TC,1,[Go.Proofs.YtbgnapmaimkpkaaGreatDoor.b8 0,Go.Proofs.YtbgnapmaimkpkaaGreatDoor.b8 0,Go.Proofs.YtbgnapmaimkpkaaGreatDoor.b8 0,Go.Proofs.YtbgnapmaimkpkaaGreatDoor.b8 0,.slice none 0 0],rfl,(by show 1≤maxLen;decide),(hp.own H).locs,hp.locsN,hp.locsC,hp.locsS,(hp.own H).init,hp.initN,(hp.own H).threads,hp.threadsN,⟨none,0,rfl,by simp [plainPr],fun j kid h=>by simp at h⟩⟩
   have hE:=explore_any (plainPr p) mc n.toNat _ _ _ hv2 hk (by omega) (by omega)
    (fun w' hg s hF=>clos1_any (plainPr p) mc b3 b4 _ _ _ _ _ _ _ _ _ _ w' ((grownOwn hg).argR (H.whole 4 rfl)) ((grownOwn hg).argR (H.whole 3 rfl)) (hPl.own (grownOwn hg)) ((hN.own H).own (grownOwn hg)) s hF)
    (fun w' hg s x hF hx=>clos2_any (plainPr p) mc b3 b4 _ _ _ _ _ _ _ _ _ _ w' ((grownOwn hg).argR (H.whole 4 rfl)) ((grownOwn hg).argR (H.whole 3 rfl)) (hPl.own (grownOwn hg)) ((hN.own H).own (grownOwn hg)) s x hF hx)
   rw [en] at hE
   exact hE)) ?_
 rintro e w ⟨A1,k1,A2,k2,A3,k3,rfl,H2⟩;replace H:=H.join H2;clear H2;refine ⟨_,rfl,?_⟩;clear F a;intro a F;refine sMv F rfl rfl rfl (qExt rfl rfl rfl rfl (qExt rfl rfl rfl rfl ?_));clear F a;intro a F;refine sAl H zeroValue113 F rfl rfl ?_;clear F a H;intro b11 a w F H
 refine sSr H 0 ?si F rfl rfl rfl ?s1 rfl rfl ?_
 case si=>exact info_size sizeOf113
 case s1=>first | rfl | (repeat (first | exact one_nil | (apply one_cons;· first | rfl | assumption | exact one_bif rfl rfl)))
 clear H;intro w H;refine sAs F rfl rfl rfl (qNK hK14 ?_);clear hK14;clear F a;intro a F;refine cSeq (fun K15 hK15=>?_);refine cSR fun K16 hK16=>sMv F rfl rfl rfl (qNot rfl rfl rfl (qNK hK16 ?_));clear hK16;clear F a;intro a F
 refine cIf F rfl (fun h50=>?_) (fun h50=>?_)
 ·
  replace h50:=notT h50;refine cSR fun K17 hK17=>?_
  refine sLr underlying113 rfl ?si F rfl rfl rfl (H.whole 5 rfl) ?_
  case si=>exact info_size sizeOf113
  clear F a;intro a F
  refine sSr H 6 ?si F rfl rfl rfl ?s1 rfl rfl ?_
  case si=>exact info_size sizeOf113
  case s1=>first | rfl | (repeat (first | exact one_nil | (apply one_cons;· first | rfl | assumption | exact one_bif rfl rfl)))
  clear H;intro w H;refine sAs F rfl rfl rfl (qNK hK17 ?_);clear hK17;clear F a;intro a F;refine wp_ret ?_;simp only [Exit.then];refine bRetD1 results46 F rfl rfl underlying113 rfl H 6 rfl sizeOf113 rfl ?_
  first
  | (refine states_bad ?_ H
     intro hC
     obtain ⟨q1,q2,q3,q4⟩:=hC
     have q5:=hkn.1 q1
     first
     | exact absurd h15 (UInt8.not_lt.2 q5.1)
     | exact absurd h19 (UInt8.not_lt.2 q5.2)
     | exact absurd h23 (by omega)
     | exact absurd h26 (by omega)
     | exact hv q4)
  | (simp only [plain_reach] at h50
     have e:reachR p mc n.toNat=none:=Option.not_isSome_iff_eq_none.1 (by rw [h50];simp)
     rw [statesR,statesE,if_pos hC,if_pos hC,e]
     exact exp_none H)
  | (simp only [plain_reach] at h50 H ⊢
     rw [statesR,statesE,if_pos hC,if_pos hC,if_pos h50]
     exact ⟨_,_,_,_,_,_,rfl,H.sel [1,2,3] rfl rfl⟩)
 replace h50:=notF h50;refine wp_skip (hK15 _ _ (cSR fun K18 hK18=>?_));clear hK15
 refine sLr underlying113 rfl ?si F rfl rfl rfl (H.whole 0 rfl) ?_
 case si=>exact info_size sizeOf113
 clear F a;intro a F
 refine sSr H 6 ?si F rfl rfl rfl ?s1 rfl rfl ?_
 case si=>exact info_size sizeOf113
 case s1=>first | rfl | (repeat (first | exact one_nil | (apply one_cons;· first | rfl | assumption | exact one_bif rfl rfl)))
 clear H;intro w H;refine sAs F rfl rfl rfl (qNK hK18 ?_);clear hK18;clear F a;intro a F;refine wp_ret ?_;refine bRetD1 results46 F rfl rfl underlying113 rfl H 6 rfl sizeOf113 rfl ?_
 first
 | (refine states_bad ?_ H
    intro hC
    obtain ⟨q1,q2,q3,q4⟩:=hC
    have q5:=hkn.1 q1
    first
    | exact absurd h15 (UInt8.not_lt.2 q5.1)
    | exact absurd h19 (UInt8.not_lt.2 q5.2)
    | exact absurd h23 (by omega)
    | exact absurd h26 (by omega)
    | exact hv q4)
 | (simp only [plain_reach] at h50
    have e:reachR p mc n.toNat=none:=Option.not_isSome_iff_eq_none.1 (by rw [h50];simp)
    rw [statesR,statesE,if_pos hC,if_pos hC,e]
    exact exp_none H)
 | (simp only [plain_reach] at h50 H ⊢
    rw [statesR,statesE,if_pos hC,if_pos hC,if_pos h50]
    exact ⟨_,_,_,_,_,_,rfl,H.sel [1,2,3] rfl rfl⟩)
-- RnC
open Go.RowKit
set_option maxRecDepth 100000
section
variable {P:Program} {N:Nat} {a:Act} {env:List (Nat × Value)} {w:World}
theorem bRet3 {fn:Func} {R:Ending→World→Prop} {t s r:Tmp} {u v x:Value} (hres:fn.results = #[.tmp t,.tmp s,.tmp r]) (F:Has N a env) (hu:lk env t=some u) (hv:lk env s=some v) (hx:lk env r=some x) (h:R (.returned (.tuple #[u,v,x])) w):bodyPost P fn R .ret a w:=by
 exact bodyPost_ret (v:=.tuple #[u,v,x]) (by rw [results_tmp3 hres,F.get t u hu,F.get s v hv,F.get r x hx]) F.nod h
end
theorem states_small {p:Prg} {m:UInt8} {n:Int} {a:Fnd} (h:statesR p m n=some a):a.list.length≤65536∧a.ends.length≤65536:=by
 unfold statesR at h
 split at h
 · rename_i hC
   obtain ⟨h1,h2,h3,h4⟩:=hC
   have hI:=reach_ok h4 h1 (by omega) h
   have:=hI.many
   refine ⟨by omega,?_⟩
   rw [hI.ends];refine Nat.le_trans (List.length_filter_le _ _) ?_
   rw [List.length_range];omega
 · cases h
theorem states_many (p:Prg) (m:UInt8) (n:Int):(fo (statesR p m n)).list.length≤65536∧(fo (statesR p m n)).ends.length≤65536:=by
 cases h:statesR p m n with
 | none=>exact ⟨Nat.zero_le _,Nat.zero_le _⟩
 | some a=>exact states_small h
theorem count_any (cs:List Value) (p:Prg) (w0:World) (hP:ProgAt w0 cs p) (hN:NeedsAt w0) (mc:UInt8) (n:Int) (hlo : -9223372036854775808≤n) (hhi:n≤9223372036854775807) :
   Calls Tryz.prog 20 #[.agg cs.toArray,Go.Proofs.YtbgnapmaimkpkaaGreatDoor.b8 mc,.int .i64 n] w0 fun e w'=>e = .returned (.tuple #[.int .i64 ((fo (statesR p mc n)).list.length:Int),.int .i64 ((fo (statesR p mc n)).ends.length:Int),.int .i64 (statesE p mc n)])∧Below w0.heap.size w0 w':=by
 have H:=Own.start w0 none
 have hP0:=hP
 obtain ⟨LA,LC,IA,IC,TA,TC,h,ccs,hp⟩:=hP
 obtain ⟨c1,c2,c3,c4,c5,rfl⟩:=len5 (condAt_len hp.cond)
 have hcs:=hp.cs
 subst hcs
 have hm:=states_many p mc n
 refine enterF Tryz.func20 rfl Tryz.ntmps20 rfl (fun a F=>?_);refine cSR fun K1 hK1=>?_;refine sBx H F rfl rfl rfl ?_;clear F a H;intro b3 a w F H;refine sAs F rfl rfl rfl (qAs rfl rfl rfl (qAs rfl rfl rfl (qNK hK1 (qSR fun K2 hK2=>?_))));clear hK1;clear F a;intro a F
 refine sLr Tryz.underlying29 rfl ?si F rfl rfl rfl (H.whole 0 rfl) ?_
 case si=>exact info_size Tryz.sizeOf29
 clear F a;intro a F;refine sMv F rfl rfl rfl (qMv rfl rfl rfl ?_);clear F a;intro a F;refine sCall Tryz.call46 F rfl rfl rfl (states_any _ p _ (hP0.own H) (hN.own H) mc n hlo hhi) ?_;rintro e w ⟨A1,k1,A2,k2,A3,k3,rfl,H2⟩;replace H:=H.join H2;clear H2;refine ⟨_,rfl,?_⟩;clear F a;intro a F;refine sMv F rfl rfl rfl (qExt rfl rfl rfl rfl (qExt rfl rfl rfl rfl ?_));clear F a;intro a F;refine sAl H Tryz.zeroValue113 F rfl rfl ?_;clear F a H;intro b9 a w F H
 refine sSr H 0 ?si F rfl rfl rfl ?s1 rfl rfl ?_
 case si=>exact info_size Tryz.sizeOf113
 case s1=>first | rfl | (repeat (first | exact one_nil | (apply one_cons;· first | rfl | assumption | exact one_bif rfl rfl)))
 clear H;intro w H;refine sAs F rfl rfl rfl (qNK hK2 ?_);clear hK2;clear F a;intro a F;refine cSeq (fun K3 hK3=>?_);refine cRegRO (by kernel_rfl) H ?_;replace H:=H.drew;refine eTF 0 rfl (by kernel_rfl) F rfl rfl rfl (fun w=>rFa (f:=0) (k:=0) Tryz.underlying113 rfl Tryz.sizeOf51 rfl rfl F rfl) H qq0 (qT 1 rfl (by kernel_rfl) rfl rfl rfl rfl (fun a F w H=>rLd Tryz.isAgg51 F rfl (H.cell 0 rfl rfl)) H qq0 (qT 2 rfl (by kernel_rfl) rfl rfl rfl rfl (fun a F w H=>rLen Tryz.underlying51 F rfl) H qq0 (qTF 3 rfl (by kernel_rfl) rfl rfl rfl (fun a F w=>rFa (f:=2) (k:=2) Tryz.underlying113 rfl Tryz.sizeOf83 rfl rfl F rfl) H qq0 (qT 4 rfl (by kernel_rfl) rfl rfl rfl rfl (fun a F w H=>rLd Tryz.isAgg83 F rfl (H.cell 0 rfl rfl)) H qq0 (qT 5 rfl (by kernel_rfl) rfl rfl rfl rfl (fun a F w H=>rLen Tryz.underlying83 F rfl) H qq0 (qTF 6 rfl (by kernel_rfl) rfl rfl rfl (fun a F w=>rMv F rfl) H qq0 (qTF 7 rfl (by kernel_rfl) rfl rfl rfl (fun a F w=>rAs F rfl) H qq0 (qTF 8 rfl (by kernel_rfl) rfl rfl rfl (fun a F w=>rAs F rfl) H qq0 (qTF 9 rfl (by kernel_rfl) rfl rfl rfl (fun a F w=>rAs F rfl) H qq0 ?_)))))))));clear F a;intro a F;refine eNil (k:=10) (by kernel_rfl) ?_;refine hK3 _ _ ?_;clear hK3;refine wp_ret ?_;refine bRet3 Tryz.results20 F rfl rfl rfl ?_
 exact ⟨rfl,H.below⟩
-- RnD
open Go.RowKit Go.Sort
set_option maxRecDepth 100000
instance:Inhabited Pss:=⟨⟨0,false,0⟩⟩
theorem back_len (q:List (Int × Pss)):∀ f k,(backR q f k).length≤f
 | 0,_=>Nat.le_refl _
 | f+1,k=>by
   rw [backR]
   split
   · exact Nat.zero_le _
   · split
     · have:=back_len q f
       rw [List.length_append]
       exact Nat.succ_le_succ (this _)
     · exact Nat.zero_le _
theorem link_cells {w:World} {b o:Nat} {g:Int} {x:Pss} (h:w.rangeAt b o (lkC (g,x))):w.cell? ⟨b,o,none⟩=some (.int .i64 g)∧w.rangeAt b (o+1) x.cells:=by
 refine ⟨by simpa using h 0 _ rfl,fun j v hv=>?_⟩
 have:=h (j+1) v (by unfold lkC;exact hv)
 rwa [show o+(j+1)=o+1+j by omega] at this
theorem rev_any (b c:Nat) (l:List Pss) (w:World) (hw:w.ownsRow 0 86 3 (.slice (some ⟨b,0,none⟩) l.length c) l.length (l.map Pss.cells).flatten) (hn:l.length≤9223372036854775807) :
   Calls Tryz.prog 101 #[.slice (some ⟨b,0,none⟩) l.length c] w fun e w'=>e = .returned (.tuple #[])∧w.grownBy w' (some b)∧w'.ownsRow 0 86 3 (.slice (some ⟨b,0,none⟩) l.length c) l.reverse.length (l.reverse.map Pss.cells).flatten:=by
 have hk:∀ x:Pss,x.cells.length=3:=fun _=>rfl
 have hH:=holdsOf (enc:=Pss.cells) hk (d:=l.toArray) (by simpa using hw)
 have hcon:=AnyQ.slices_Reverse revPass 3 Tryz.isAgg86 Tryz.sizeOf86 Pss.cells hk (fun x v hv=>by simp [Pss.cells] at hv;rcases hv with rfl | rfl | rfl <;> rfl) b 0 c l.toArray w hH (by simpa using hn)
 change Calls Tryz.prog 101 _ _ _ at hcon
 rw [List.size_toArray] at hcon;refine hcon.mono ?_;rintro e w' ⟨rfl,n,rfl⟩
 have hp:=putOf (enc:=Pss.cells) hk (d:=l.toArray) (d':=l.toArray.reverse) (by simpa using hw) (by simp) n #[]
 have hg:=sort_grown Pss.cells 3 w b n l.toArray.reverse #[]
 unfold sortWorldK at hp hg
 rw [grow_empty] at hp hg
 exact ⟨rfl,hg,by simpa using hp⟩
theorem rev_own {w0 w:World} {row:Option Nat} {rs:List Res} {A:Option Addr} {c:Nat} {l:List Pss} (H:Own w0 row w rs) (i:Nat) (hi:rs[i]? = some (.rws 86 3 (.slice A l.length c) (l.map Pss.cells))) (hn:l.length≤9223372036854775807) :
   Calls Tryz.prog 101 #[.slice A l.length c] w fun e w'=>e = .returned (.tuple #[])∧Own w0 row w' (rs.set i (.rws 86 3 (.slice A l.length c) (l.reverse.map Pss.cells))):=by
 have hw:w.ownsRow 0 86 3 (.slice A l.length c) (l.map Pss.cells).length (l.map Pss.cells).flatten:=H.pred i _ hi
 rw [List.length_map] at hw
 have hw2:=hw
 obtain ⟨_,⟨h1,h2⟩ | ⟨g,cap,cur,h1,_⟩⟩:=hw2
 · have hA:A=none:=by simp only [Value.slice.injEq] at h1;exact h1.1
   have hl:l=[]:=List.eq_nil_of_length_eq_zero h2
   subst hA;subst hl;refine (AnyQ.slices_Reverse_empty revPass none c w).mono ?_;rintro e w' ⟨rfl,rfl⟩
   refine ⟨rfl,?_⟩
   have e:rs.set i (.rws 86 3 (.slice none ([]:List Pss).length c) (([]:List Pss).reverse.map Pss.cells))=rs:=by
     apply List.ext_getElem?
     intro j
     rw [List.getElem?_set]
     split
     · rename_i hj
       subst hj
       rw [if_pos (List.getElem?_eq_some_iff.1 hi).1,hi];rfl
     · rfl
   rw [e];exact H
 · have hA:A=some ⟨g,0,none⟩:=by simp only [Value.slice.injEq] at h1;exact h1.1
   subst hA;refine (rev_any g c l w hw hn).mono ?_;rintro e w' ⟨rfl,hg,hp⟩
   exact ⟨rfl,turnedRow H i hi hg (by simpa using hp)⟩
theorem way_len (fd:Fnd) (k:Nat):(wayR fd k).length≤k:=back_len _ _ _
theorem run_any (p:Prg) (mc:UInt8) (most:Nat) (fd:Fnd) (hF:FndI p mc most fd.list.length fd) (hm:most≤65536) (k:Nat) (hk:k < fd.list.length) (A1:Option Addr) (C1:Nat) (A2:Option Addr) (C2:Nat) (A3:Option Addr) (C3:Nat) (w0:World) (hA:RowsAt w0 A2 4 (fd.links.map lkC)) :
   Calls Tryz.prog 48 #[.agg #[.slice A1 fd.list.length C1,.slice A2 fd.links.length C2,.slice A3 fd.ends.length C3],.int .i64 (k:Int)] w0 fun e w'=>∃ A c,e = .returned (.slice A (wayR fd k).length c)∧Own w0 none w' [.rws 86 3 (.slice A (wayR fd k).length c) ((wayR fd k).map Pss.cells)]:=by
 have H:=Own.start w0 none
 have hlen:=hF.len
 have hmany:=hF.many
 have hwl:=way_len fd k
 refine enterF Tryz.func48 rfl Tryz.ntmps48 rfl (fun a F=>?_);refine cSR fun K1 hK1=>?_;refine sBx H F rfl rfl rfl ?_;clear F a H;intro b2 a w F H;refine sAs F rfl rfl rfl (qNK hK1 (qSR fun K2 hK2=>qAs rfl rfl rfl ?_));clear hK1;clear F a;intro a F
 replace H:=H.nilRws 86 3
 refine nK hK2 ?_;clear hK2;refine cSeq (fun K3 hK3=>?_);refine wp_block ?_
 refine cLoopR [2] (fun m ups w=>∃ (j:Nat) (A:Option Addr) (c:Nat) (o:List Pss),m=j+1∧ups=[(1,.int .i64 ((j:Nat):Int)),(5,.slice A o.length c)]∧j≤k∧wayR fd k=wayR fd j++o.reverse∧Own w0 none w [.rws 86 3 (.slice A o.length c) (o.map Pss.cells),.blk b2 [.slice A1 fd.list.length C1,.slice A2 fd.links.length C2,.slice A3 fd.ends.length C3] 113]) F (k+1) [(1,.int .i64 ((k:Nat):Int)),(5,.slice none 0 0)] (by repeat (first | exact SubR.nil | (apply SubR.cons;· rfl))) ?_ ?_ ?_
 · exact ⟨k,none,0,[],rfl,rfl,Nat.le_refl _,by simp,H.sel [0,1] rfl rfl⟩
 · repeat (first | exact trivial | refine Le.cons rfl ?_)
 clear F
 clear H
 intro m ups a w hI F
 obtain ⟨j,A,c,o,rfl,rfl,hj,hway,H⟩:=hI
 refine cSeq (fun K4 hK4=>?_);refine cSR fun K5 hK5=>sMv F rfl rfl rfl (qBin rfl rfl rfl rfl bGtr (qNK hK5 ?_));clear hK5;clear F a;intro a F
 refine cIf F rfl (fun h7=>?_) (fun h7=>?_)
 ·
  replace h7:=of_decide_eq_true h7
  have hj0:0 < j:=by omega
  obtain ⟨⟨g,x⟩,hq⟩:∃ q,fd.links[j]? = some q:=⟨_,List.getElem?_eq_getElem (by omega)⟩
  obtain ⟨i,rfl,hij,_⟩:=hF.link j g x hj0 hq
  obtain ⟨bL,oL,rfl,hL⟩:=hA j (lkC ((i:Int),x)) (by rw [List.getElem?_map,hq];rfl)
  have hL2:=link_cells hL
  have hol:o.length≤k:=by have:=congrArg List.length hway;simp at this;omega
  have hws:=way_succ hF hj0 hq
  refine wp_skip (hK4 _ _ ?_);clear hK4;refine cSeq (fun K6 hK6=>?_);refine wp_block ?_;refine cReg (sMv F rfl rfl rfl (qFa (f:=1) (k:=1) Tryz.underlying113 rfl Tryz.sizeOf111 rfl rfl rfl rfl rfl (qLd Tryz.isAgg111 rfl rfl rfl (H.cell 1 rfl rfl) (qMv rfl rfl rfl ?_))));clear F a;intro a F
  refine sIx Tryz.underlying111 Tryz.sizeOf162 F rfl rfl rfl rfl ?_ ?_
  focus omega
  clear F a;intro a F;refine sFa (f:=1) Tryz.underlying162 rfl Tryz.sizeOf86 rfl rfl F rfl rfl rfl ?_;clear F a;intro a F
  refine sLr Tryz.underlying86 rfl ?si F rfl rfl rfl (H.argR hL2.2) ?_
  case si=>exact info_size Tryz.sizeOf86
  clear F a;intro a F;refine sBsA H Tryz.underlying58 Tryz.sizeOf86 Tryz.zeroValue86 rfl F rfl rfl rfl rfl rfl ?_;clear F a H;intro b21 a w F H
  refine sApp1 (bytes:=3) H 1 Tryz.underlying58 Tryz.typeInfo86 rfl rfl rfl rfl rfl rfl F rfl rfl rfl rfl rfl (H.whole 0 rfl) rfl ?s1 ?s2 ?_
  case s1=>first | rfl | (repeat (first | exact one_nil | (apply one_cons;· first | rfl | assumption | exact one_bif rfl rfl)))
  case s2=>(rw [List.length_map];omega)
  clear F a H;intro A22 c22 a w F H;refine sAs F rfl rfl rfl (qNK hK6 (qReg (qFa (f:=1) (k:=1) Tryz.underlying113 rfl Tryz.sizeOf111 rfl rfl rfl rfl rfl (qLd Tryz.isAgg111 rfl rfl rfl (H.cell 2 rfl rfl) (qMv rfl rfl rfl ?_)))));clear hK6;clear F a;intro a F
  refine sIx Tryz.underlying111 Tryz.sizeOf162 F rfl rfl rfl rfl ?_ ?_
  focus omega
  clear F a;intro a F;refine sFa (f:=0) Tryz.underlying162 rfl Tryz.sizeOf3 rfl rfl F rfl rfl rfl (qLd Tryz.isAgg3 rfl rfl rfl (H.arg hL2.1) (qAs rfl rfl rfl ?_));clear F a;intro a F;refine sNil ?_
  have e2:o.map Pss.cells++[x.cells]=(o++[x]).map Pss.cells:=by rw [List.map_append];rfl
  have e3:(o.map Pss.cells++[x.cells]).length=(o++[x]).length:=by rw [e2,List.length_map]
  rw [e3] at F H;rw [e2] at H
  exact ⟨_,by omega,_,⟨i,A22,c22,o++[x],rfl,rfl,by omega,(by rw [hway,hws];simp),H.sel [1,2] rfl rfl⟩,F.to (by repeat (first | exact trivial | refine Le.cons rfl ?_))⟩
 replace h7:=of_decide_eq_false h7
 obtain rfl:j=0:=by omega
 rw [way_zero,List.nil_append] at hway;refine wp_exit ?_;refine hK3 _ _ (cSR fun K7 hK7=>sMv F rfl rfl rfl ?_);clear hK3;clear F a;intro a F;refine sCall Tryz.call101 F rfl rfl rfl (rev_own H 0 rfl (by have:=congrArg List.length hway;simp at this;omega)) ?_;rintro e w ⟨rfl,H2⟩
 replace H:=H2;clear H2
 refine ⟨_,rfl,?_⟩;clear F a;intro a F;refine nK hK7 (cSR fun K8 hK8=>sMv F rfl rfl rfl (qAs rfl rfl rfl (qNK hK8 ?_)));clear hK7 hK8;clear F a;intro a F;refine wp_ret ?_;refine bRet Tryz.results48 F rfl ?_
 have ew:o.reverse=wayR fd k:=hway.symm
 have el:o.length=(wayR fd k).length:=by rw [← ew,List.length_reverse]
 rw [ew,el] at H
 exact ⟨A,c,by rw [el],H.pick 0 rfl⟩
-- RnH
open Go.RowKit
set_option maxRecDepth 100000
theorem states_some {p:Prg} {m:UInt8} {n:Int} (h:statesE p m n=0):∃ fd,statesR p m n=some fd∧FndI p m n.toNat fd.list.length fd∧n.toNat≤65536∧rightErr p=0∧knownM m=true:=by
 unfold statesE at h
 split at h
 · rename_i hC
   have hR:statesR p m n=reachR p m n.toNat:=if_pos hC
   obtain ⟨h1,h2,h3,h4⟩:=hC
   split at h
   · rename_i hs
     obtain ⟨fd,hf⟩:=Option.isSome_iff_exists.1 hs
     exact ⟨fd,by rw [hR,hf],reach_ok h4 h1 (by omega) hf,by omega,h4,h1⟩
   · cases h
 · cases h
def hitR (fd:Fnd) (f:By):Option Nat:=fd.ends.find? fun k=>same 38 (finalP (fd.list.getD k zb)) f
def wayL (p:Prg) (m:UInt8) (f:By) (n:Int):List Pss:=match statesR p m n with
 | none=>[]
 | some fd=>match hitR fd f with
   | none=>[]
   | some k=>wayR fd k
def wayE (p:Prg) (m:UInt8) (f:By) (n:Int):Int:=if statesE p m n=0 then (match hitR (fo (statesR p m n)) f with | none=>6 | some _=>0) else statesE p m n
theorem states_none {p:Prg} {m:UInt8} {n:Int} (h:statesE p m n ≠ 0):statesR p m n=none:=by
 unfold statesE at h
 unfold statesR
 split
 · rename_i hC
   rw [if_pos hC] at h
   cases hr:reachR p m n.toNat with
   | none=>rfl
   | some fd=>rw [hr] at h;exact absurd rfl h
 · rfl
theorem hit_at {fd:Fnd} {f:By} {i k:Nat} (hi:fd.ends[i]? = some k) (hno:∀ j k,j < i→fd.ends[j]? = some k→same 38 (finalP (fd.list.getD k zb)) f=false) (h:same 38 (finalP (fd.list.getD k zb)) f=true):hitR fd f=some k:=by
 unfold hitR
 obtain ⟨hl,rfl⟩:=List.getElem?_eq_some_iff.1 hi
 refine List.find?_eq_some_iff_getElem.2 ⟨h,i,hl,rfl,fun j hj=>?_⟩
 have:=hno j _ hj (List.getElem?_eq_getElem (by omega))
 rw [this];rfl
theorem hit_none {fd:Fnd} {f:By} (hno:∀ j k,j < fd.ends.length→fd.ends[j]? = some k→same 38 (finalP (fd.list.getD k zb)) f=false):hitR fd f=none:=by
 unfold hitR
 refine List.find?_eq_none.2 fun k hk=>?_
 obtain ⟨j,hj⟩:=List.mem_iff_getElem?.1 hk
 have:=hno j k (List.getElem?_eq_some_iff.1 hj).1 hj
 rw [this];decide
theorem way_any (cs:List Value) (p:Prg) (w0:World) (hP:ProgAt w0 cs p) (hN:NeedsAt w0) (mc:UInt8) (f:By) (n:Int) (hlo : -9223372036854775808≤n) (hhi:n≤9223372036854775807) :
   Calls Tryz.prog 21 #[.agg cs.toArray,Go.Proofs.YtbgnapmaimkpkaaGreatDoor.b8 mc,.agg (bs 38 f).toArray,.int .i64 n] w0 fun e w'=>∃ A c,e = .returned (.tuple #[.slice A (wayL p mc f n).length c,.int .i64 (wayE p mc f n)])∧Own w0 none w' [.rws 86 3 (.slice A (wayL p mc f n).length c) ((wayL p mc f n).map Pss.cells)]:=by
 have H:=Own.start w0 none
 have hP0:=hP
 obtain ⟨LA,LC,IA,IC,TA,TC,h,ccs,hp⟩:=hP
 obtain ⟨c1,c2,c3,c4,c5,rfl⟩:=len5 (condAt_len hp.cond)
 have hcs:=hp.cs
 subst hcs;refine enterF Tryz.func21 rfl Tryz.ntmps21 rfl (fun a F=>?_);refine cSR fun K1 hK1=>?_;refine sBx H F rfl rfl rfl ?_;clear F a H;intro b4 a w F H;refine sBxB H F rfl rfl rfl ?_;clear F a H;intro b6 a w F H;refine sAs F rfl rfl rfl (qAs rfl rfl rfl (qNK hK1 (qSR fun K2 hK2=>?_)));clear hK1;clear F a;intro a F
 refine sLr Tryz.underlying29 rfl ?si F rfl rfl rfl (H.whole 1 rfl) ?_
 case si=>exact info_size Tryz.sizeOf29
 clear F a;intro a F;refine sMv F rfl rfl rfl (qMv rfl rfl rfl ?_);clear F a;intro a F;refine sCall Tryz.call46 F rfl rfl rfl (states_any _ p _ (hP0.own H) (hN.own H) mc n hlo hhi) ?_;rintro e w ⟨A1,k1,A2,k2,A3,k3,rfl,H2⟩;replace H:=H.join H2;clear H2;refine ⟨_,rfl,?_⟩;clear F a;intro a F;refine sMv F rfl rfl rfl (qExt rfl rfl rfl rfl (qExt rfl rfl rfl rfl ?_));clear F a;intro a F;refine sAl H Tryz.zeroValue113 F rfl rfl ?_;clear F a H;intro b10 a w F H
 refine sSr H 0 ?si F rfl rfl rfl ?s1 rfl rfl ?_
 case si=>exact info_size Tryz.sizeOf113
 case s1=>first | rfl | (repeat (first | exact one_nil | (apply one_cons;· first | rfl | assumption | exact one_bif rfl rfl)))
 clear H;intro w H;refine sAs F rfl rfl rfl (qNK hK2 ?_);clear hK2;clear F a;intro a F;refine cSeq (fun K3 hK3=>?_);refine cSR fun K4 hK4=>sMv F rfl rfl rfl (qBin rfl rfl rfl rfl bNeq (qNK hK4 ?_));clear hK4;clear F a;intro a F
 refine cIf F rfl (fun h22=>?_) (fun h22=>?_)
 ·
  replace h22:=bneT h22;refine cSR fun K5 hK5=>sMv F rfl rfl rfl (qAs rfl rfl rfl (qAs rfl rfl rfl (qNK hK5 ?_)));clear hK5;clear F a;intro a F;refine wp_ret ?_;simp only [Exit.then];refine bRet2 Tryz.results21 F rfl rfl ?_
  first
  | (have hE:statesE p mc n ≠ 0:=h22
     have e1:wayL p mc f n=[]:=by unfold wayL;rw [states_none hE]
     have e2:wayE p mc f n=statesE p mc n:=if_neg hE
     rw [e1,e2]
     exact ⟨none,0,rfl,(H.nilRws 86 3).pick 0 rfl⟩)
  | (have hh:=hit_at hk hno (by rw [hgd];exact h38)
     have e1:wayL p mc f n=wayR fd k:=by unfold wayL;rw [hfd];simp only [hh]
     have e2:wayE p mc f n=0:=by unfold wayE;rw [if_pos hE,hfd];simp only [hfo,hh]
     rw [e1,e2]
     exact ⟨AW,cW,rfl,H.pick 0 rfl⟩)
  | (have hh:hitR fd f=none:=hit_none (fun j k hj=>hno j k (by omega))
     have e1:wayL p mc f n=[]:=by unfold wayL;rw [hfd];simp only [hh]
     have e2:wayE p mc f n=6:=by unfold wayE;rw [if_pos hE,hfd];simp only [hfo,hh]
     rw [e1,e2]
     exact ⟨none,0,rfl,(H.nilRws 86 3).pick 0 rfl⟩)
 replace h22:=bneF h22
 have hE:statesE p mc n=0:=h22
 obtain ⟨fd,hfd,hF,hn65,_,_⟩:=states_some hE
 rw [hfd] at H F
 have hml:=(states_small hfd).2
 have hfo:fo (some fd)=fd:=rfl
 rw [hfo] at H F;refine wp_skip (hK3 _ _ ?_);clear hK3;refine cSeq (fun K6 hK6=>?_);refine cSR fun K7 hK7=>sFa (f:=2) (k:=2) Tryz.underlying113 rfl Tryz.sizeOf83 rfl rfl F rfl rfl rfl (qLd Tryz.isAgg83 rfl rfl rfl (H.cell 0 rfl rfl) (qLen Tryz.underlying83 rfl rfl rfl (qMv rfl rfl rfl (qNK hK7 ?_))));clear hK7;clear F a;intro a F;refine wp_block ?_
 refine cLoopR [6,10,25,26] (fun m ups w=>∃ i:Nat,m=fd.ends.length - i∧ups=[(27,.int .i64 ((i:Nat):Int))]∧i≤fd.ends.length∧(∀ j k,j < i→fd.ends[j]? = some k→same 38 (finalP (fd.list.getD k zb)) f=false)∧Own w0 none w [.rws 70 142 (.slice A1 fd.list.length k1) (fd.list.map (bs 142)),.rws 162 4 (.slice A2 fd.links.length k2) (fd.links.map lkC),.rws 3 1 (.slice A3 fd.ends.length k3) (fd.ends.map enC),.blk b10 [.slice A1 fd.list.length k1,.slice A2 fd.links.length k2,.slice A3 fd.ends.length k3] 113,.blk b6 (bs 38 f) 47]) F (fd.ends.length) [(27,.int .i64 ((0:Nat):Int))] (by repeat (first | exact SubR.nil | (apply SubR.cons;· rfl))) ?_ ?_ ?_
 · exact ⟨0,rfl,rfl,by omega,fun j k hj=>absurd hj (by omega),H.sel [1,2,3,0,4] rfl rfl⟩
 · repeat (first | exact trivial | refine Le.cons rfl ?_)
 clear F
 clear H
 intro m ups a w hI F
 obtain ⟨i,rfl,rfl,hi,hno,H⟩:=hI
 refine cSR fun K8 hK8=>sBin F rfl rfl rfl rfl bLss (qNK hK8 ?_);clear hK8;clear F a;intro a F;refine cSeq (fun K9 hK9=>?_)
 refine cIf F rfl (fun h28=>?_) (fun h28=>?_)
 ·
  replace h28:=of_decide_eq_true h28
  have hil:i < fd.ends.length:=by omega
  obtain ⟨k,hk⟩:∃ k,fd.ends[i]? = some k:=⟨_,List.getElem?_eq_getElem hil⟩
  obtain ⟨s,hs,_⟩:=(ends_iff hF).1 (List.mem_of_getElem? hk)
  have hkl:k < fd.list.length:=(List.getElem?_eq_some_iff.1 hs).1
  have hgd:fd.list.getD k zb=s:=by rw [List.getD_eq_getElem?_getD,hs];rfl
  obtain ⟨bE,oE,rfl,hRE⟩:=H.rowsAt 2 rfl (fun r hr=>by obtain ⟨x,_,rfl⟩:=List.mem_map.1 hr;rfl) (by decide) i (enC k) (by rw [List.getElem?_map,hk];rfl)
  obtain ⟨bS,oS,rfl,hRS⟩:=H.rowsAt 0 rfl (bs_rows _) (by decide) k (bs 142 s) (by rw [List.getElem?_map,hs];rfl)
  refine wp_skip (hK9 _ _ ?_);clear hK9;refine cSeq (fun K10 hK10=>?_);refine wp_block ?_;refine cSR fun K11 hK11=>?_
  refine sIx Tryz.underlying83 Tryz.sizeOf3 F rfl rfl rfl rfl ?_ ?_
  focus (first | omega | decide | (simp;omega))
  clear F a;intro a F;refine sLd Tryz.isAgg3 F rfl rfl rfl (by simpa using hRE 0 _ rfl) (qAs rfl rfl rfl (qNK hK11 ?_));clear hK11;clear F a;intro a F;refine cSeq (fun K12 hK12=>?_);refine cRegRO (by kernel_rfl) H ?_;replace H:=H.drew;refine eTF 0 rfl (by kernel_rfl) F rfl rfl rfl (fun w=>rFa (f:=0) (k:=0) Tryz.underlying113 rfl Tryz.sizeOf51 rfl rfl F rfl) H qq0 (qT 1 rfl (by kernel_rfl) rfl rfl rfl rfl (fun a F w H=>rLd Tryz.isAgg51 F rfl (H.cell 3 rfl rfl)) H qq0 (qTF 2 rfl (by kernel_rfl) rfl rfl rfl (fun a F w=>rMv F rfl) H qq0 ?_));clear F a;intro a F
  refine eTakeF (k:=3) (i:=3) rfl (by kernel_rfl) F rfl rfl rfl (fun w=>rIx Tryz.underlying51 Tryz.sizeOf70 F rfl rfl ?_) H (fun _ _ _ h=>h) ?_
  focus exact hkl
  clear F a;intro a F
  refine eTake (k:=4) (i:=4) rfl (by kernel_rfl) F rfl rfl rfl rfl (fun w H=>rLrB Tryz.underlying70 rfl Tryz.sizeOf70 F rfl (by obtain ⟨b',o',g1,g2⟩:=H.rowsAt 0 rfl (bs_rows _) (by decide) k (bs 142 s) (by rw [List.getElem?_map,hs];rfl);cases g1;exact g2)) H (fun _ _ _ h=>h) ?_;clear F a;intro a F
  refine eT 6 rfl (by kernel_rfl) F rfl rfl rfl rfl (fun w H=>rLrB Tryz.underlying47 rfl Tryz.sizeOf47 F rfl (H.whole 4 rfl)) H qq0 ?_;clear F a;intro a F;refine eOne (k:=6) (i:=5) rfl (by kernel_rfl) F rfl (oCall Tryz.call29 F rfl rfl (final_any s _) ?_);rintro e w ⟨rfl,hb⟩;replace H:=H.grow hb;clear hb;refine ⟨_,rfl,?_⟩;clear F a;intro a F;refine eKeep H ?_;refine eTF 7 rfl (by kernel_rfl) F rfl rfl rfl (fun w=>rBin F rfl rfl (bEqY eT47 gT47 rfl)) H qq0 ?_;clear F a;intro a F;refine eNil (k:=8) (by kernel_rfl) ?_;refine hK12 _ _ ?_;clear hK12
  refine cIf F rfl (fun h38=>?_) (fun h38=>?_)
  ·
   refine cSR fun K13 hK13=>?_
   refine sLr Tryz.underlying113 rfl ?si F rfl rfl rfl (H.whole 3 rfl) ?_
   case si=>exact info_size Tryz.sizeOf113
   clear F a;intro a F;refine sMv F rfl rfl rfl ?_;clear F a;intro a F;refine sCall Tryz.call48 F rfl rfl rfl (run_any p mc n.toNat fd hF hn65 k hkl _ _ _ _ _ _ _ (H.rowsAt 1 rfl (fun r hr=>by obtain ⟨x,_,rfl⟩:=List.mem_map.1 hr;rfl) (by decide))) ?_;rintro e w ⟨AW,cW,rfl,H2⟩;replace H:=H.join H2;clear H2;refine ⟨_,rfl,?_⟩;clear F a;intro a F;refine sAs F rfl rfl rfl (qAs rfl rfl rfl (qNK hK13 ?_));clear hK13;clear F a;intro a F;refine wp_ret ?_;simp only [Exit.inBlock,Exit.then];refine bRet2 Tryz.results21 F rfl rfl ?_
   first
   | (have hE:statesE p mc n ≠ 0:=h22
      have e1:wayL p mc f n=[]:=by unfold wayL;rw [states_none hE]
      have e2:wayE p mc f n=statesE p mc n:=if_neg hE
      rw [e1,e2]
      exact ⟨none,0,rfl,(H.nilRws 86 3).pick 0 rfl⟩)
   | (have hh:=hit_at hk hno (by rw [hgd];exact h38)
      have e1:wayL p mc f n=wayR fd k:=by unfold wayL;rw [hfd];simp only [hh]
      have e2:wayE p mc f n=0:=by unfold wayE;rw [if_pos hE,hfd];simp only [hfo,hh]
      rw [e1,e2]
      exact ⟨AW,cW,rfl,H.pick 0 rfl⟩)
   | (have hh:hitR fd f=none:=hit_none (fun j k hj=>hno j k (by omega))
      have e1:wayL p mc f n=[]:=by unfold wayL;rw [hfd];simp only [hh]
      have e2:wayE p mc f n=6:=by unfold wayE;rw [if_pos hE,hfd];simp only [hfo,hh]
      rw [e1,e2]
      exact ⟨none,0,rfl,(H.nilRws 86 3).pick 0 rfl⟩)
  refine wp_skip (hK10 _ _ (cReg ?_));clear hK10
  refine sBin F rfl rfl rfl rfl (bAddN (j:=1) ?_) ?_
  focus omega
  clear F a;intro a F;refine sMv F rfl rfl rfl ?_;clear F a;intro a F;refine sNil ?_
  exact ⟨_,by omega,_,⟨i+1,rfl,rfl,by omega,fun j k' hj hk'=>(by
   rcases Nat.lt_or_ge j i with h | h
   · exact hno j k' h hk'
   · obtain rfl:j=i:=by omega
     rw [hk] at hk';cases hk'
     rw [hgd];exact h38),H.sel [0,1,2,3,4] rfl rfl⟩,F.to (by repeat (first | exact trivial | refine Le.cons rfl ?_))⟩
 replace h28:=of_decide_eq_false h28;refine wp_exit ?_;refine hK6 _ _ (cSR fun K14 hK14=>sAs F rfl rfl rfl (qAs rfl rfl rfl (qNK hK14 ?_)));clear hK6 hK14;clear F a;intro a F;refine wp_ret ?_;refine bRet2 Tryz.results21 F rfl rfl ?_
 first
 | (have hE:statesE p mc n ≠ 0:=h22
    have e1:wayL p mc f n=[]:=by unfold wayL;rw [states_none hE]
    have e2:wayE p mc f n=statesE p mc n:=if_neg hE
    rw [e1,e2]
    exact ⟨none,0,rfl,(H.nilRws 86 3).pick 0 rfl⟩)
 | (have hh:=hit_at hk hno (by rw [hgd];exact h38)
    have e1:wayL p mc f n=wayR fd k:=by unfold wayL;rw [hfd];simp only [hh]
    have e2:wayE p mc f n=0:=by unfold wayE;rw [if_pos hE,hfd];simp only [hfo,hh]
    rw [e1,e2]
    exact ⟨AW,cW,rfl,H.pick 0 rfl⟩)
 | (have hh:hitR fd f=none:=hit_none (fun j k hj=>hno j k (by omega))
    have e1:wayL p mc f n=[]:=by unfold wayL;rw [hfd];simp only [hh]
    have e2:wayE p mc f n=6:=by unfold wayE;rw [if_pos hE,hfd];simp only [hfo,hh]
    rw [e1,e2]
    exact ⟨none,0,rfl,(H.nilRws 86 3).pick 0 rfl⟩)
-- RnF
open Go.RowKit
set_option maxRecDepth 100000
def finB (fd:Fnd):List By:=fd.ends.map fun k=>finalP (fd.list.getD k zb)
theorem fin_tl (fd:Fnd):tl (finB fd)=finsR fd:=by
 unfold tl finB finsR
 rw [List.map_map];rfl
def FinOut (p:Prg) (m:UInt8) (n:Int) (l:List By):Prop:=(statesE p m n ≠ 0→l=[])∧(statesE p m n=0→l ≠ []∧l.length≤65536∧Rising (tl l)∧∀ x,x ∈ tl l ↔ OutM p m x)
theorem finals_any (cs:List Value) (p:Prg) (w0:World) (hP:ProgAt w0 cs p) (hN:NeedsAt w0) (mc:UInt8) (n:Int) (hlo : -9223372036854775808≤n) (hhi:n≤9223372036854775807) :
   Calls Tryz.prog 19 #[.agg cs.toArray,Go.Proofs.YtbgnapmaimkpkaaGreatDoor.b8 mc,.int .i64 n] w0 fun e w'=>∃ (A:Option Addr) (c:Nat) (l2:List By),e = .returned (.tuple #[.slice A l2.length c,.int .i64 (statesE p mc n)])∧FinOut p mc n l2∧Own w0 none w' [.rws 47 38 (.slice A l2.length c) (l2.map (bs 38))]:=by
 have H:=Own.start w0 none
 have hP0:=hP
 obtain ⟨LA,LC,IA,IC,TA,TC,h,ccs,hp⟩:=hP
 obtain ⟨c1,c2,c3,c4,c5,rfl⟩:=len5 (condAt_len hp.cond)
 have hcs:=hp.cs
 subst hcs;refine enterF Tryz.func19 rfl Tryz.ntmps19 rfl (fun a F=>?_);refine cSR fun K1 hK1=>?_;refine sBx H F rfl rfl rfl ?_;clear F a H;intro b3 a w F H;refine sAs F rfl rfl rfl (qAs rfl rfl rfl (qNK hK1 (qSR fun K2 hK2=>?_)));clear hK1;clear F a;intro a F
 refine sLr Tryz.underlying29 rfl ?si F rfl rfl rfl (H.whole 0 rfl) ?_
 case si=>exact info_size Tryz.sizeOf29
 clear F a;intro a F;refine sMv F rfl rfl rfl (qMv rfl rfl rfl ?_);clear F a;intro a F;refine sCall Tryz.call46 F rfl rfl rfl (states_any _ p _ (hP0.own H) (hN.own H) mc n hlo hhi) ?_;rintro e w ⟨A1,k1,A2,k2,A3,k3,rfl,H2⟩;replace H:=H.join H2;clear H2;refine ⟨_,rfl,?_⟩;clear F a;intro a F;refine sMv F rfl rfl rfl (qExt rfl rfl rfl rfl (qExt rfl rfl rfl rfl ?_));clear F a;intro a F;refine sAl H Tryz.zeroValue113 F rfl rfl ?_;clear F a H;intro b8 a w F H
 refine sSr H 0 ?si F rfl rfl rfl ?s1 rfl rfl ?_
 case si=>exact info_size Tryz.sizeOf113
 case s1=>first | rfl | (repeat (first | exact one_nil | (apply one_cons;· first | rfl | assumption | exact one_bif rfl rfl)))
 clear H;intro w H;refine sAs F rfl rfl rfl (qNK hK2 ?_);clear hK2;clear F a;intro a F;refine cSeq (fun K3 hK3=>?_);refine cSR fun K4 hK4=>sMv F rfl rfl rfl (qBin rfl rfl rfl rfl bNeq (qNK hK4 ?_));clear hK4;clear F a;intro a F
 refine cIf F rfl (fun h21=>?_) (fun h21=>?_)
 ·
  replace h21:=bneT h21;refine cSR fun K5 hK5=>sMv F rfl rfl rfl (qAs rfl rfl rfl (qAs rfl rfl rfl (qNK hK5 ?_)));clear hK5;clear F a;intro a F;refine wp_ret ?_;simp only [Exit.then];refine bRet2 Tryz.results19 F rfl rfl ?_
  first
  | (have hE:statesE p mc n ≠ 0:=h21
     exact ⟨none,0,[],rfl,⟨fun _=>rfl,fun h=>absurd h hE⟩,(H.nilRws 47 38).pick 0 rfl⟩)
  | (rw [hE]
     refine ⟨A5,c5,l2,rfl,⟨fun h=>absurd hE h,fun _=>⟨?_,?_,hris,fun x=>?_⟩⟩,H.pick 0 rfl⟩
     · intro e
       obtain ⟨y,hy⟩:=List.exists_mem_of_ne_nil _ hne
       have:=(hmem (toL 38 y)).2 (List.mem_map.2 ⟨y,hy,rfl⟩)
       rw [e] at this;cases this
     · omega
     · rw [hmem,fin_tl]
       exact fins_iff hF)
 replace h21:=bneF h21
 have hE:statesE p mc n=0:=h21
 obtain ⟨fd,hfd,hF,hn65,_,_⟩:=states_some hE
 rw [hfd] at H F
 have hml:=(states_small hfd).2
 have hfo:fo (some fd)=fd:=rfl
 rw [hfo] at H F
 have hfl:∀ i,i≤fd.ends.length→((finB fd).take i).length=i:=fun i hi=>by rw [List.length_take];unfold finB;rw [List.length_map];omega
 refine wp_skip (hK3 _ _ (cSR fun K6 hK6=>sAs F rfl rfl rfl ?_));clear hK3;clear F a;intro a F
 replace H:=H.nilRws 47 38
 refine nK hK6 ?_;clear hK6;refine cSeq (fun K7 hK7=>?_);refine cSR fun K8 hK8=>sFa (f:=2) (k:=2) Tryz.underlying113 rfl Tryz.sizeOf83 rfl rfl F rfl rfl rfl (qLd Tryz.isAgg83 rfl rfl rfl (H.cell 1 rfl rfl) (qLen Tryz.underlying83 rfl rfl rfl (qMv rfl rfl rfl (qNK hK8 ?_))));clear hK8;clear F a;intro a F;refine wp_block ?_
 refine cLoopR [8,24,25] (fun m ups w=>∃ (i:Nat) (A4:Option Addr) (c4:Nat),m=fd.ends.length - i∧ups=[(10,.slice A4 ((finB fd).take i).length c4),(26,.int .i64 ((i:Nat):Int))]∧i≤fd.ends.length∧Own w0 none w [.rws 47 38 (.slice A4 ((finB fd).take i).length c4) (((finB fd).take i).map (bs 38)),.rws 70 142 (.slice A1 fd.list.length k1) (fd.list.map (bs 142)),.rws 3 1 (.slice A3 fd.ends.length k3) (fd.ends.map enC),.blk b8 [.slice A1 fd.list.length k1,.slice A2 fd.links.length k2,.slice A3 fd.ends.length k3] 113]) F (fd.ends.length) [(10,.slice none 0 0),(26,.int .i64 ((0:Nat):Int))] (by repeat (first | exact SubR.nil | (apply SubR.cons;· rfl))) ?_ ?_ ?_
 · exact ⟨0,none,0,rfl,rfl,by omega,H.sel [0,2,4,1] rfl rfl⟩
 · repeat (first | exact trivial | refine Le.cons rfl ?_)
 clear F
 clear H
 intro m ups a w hI F
 obtain ⟨i,A4,c4,rfl,rfl,hi,H⟩:=hI
 refine cSR fun K9 hK9=>sBin F rfl rfl rfl rfl bLss (qNK hK9 ?_);clear hK9;clear F a;intro a F;refine cSeq (fun K10 hK10=>?_)
 refine cIf F rfl (fun h27=>?_) (fun h27=>?_)
 ·
  replace h27:=of_decide_eq_true h27
  have hil:i < fd.ends.length:=by omega
  obtain ⟨k,hk⟩:∃ k,fd.ends[i]? = some k:=⟨_,List.getElem?_eq_getElem hil⟩
  obtain ⟨s,hs,_⟩:=(ends_iff hF).1 (List.mem_of_getElem? hk)
  have hkl:k < fd.list.length:=(List.getElem?_eq_some_iff.1 hs).1
  have hgd:fd.list.getD k zb=s:=by rw [List.getD_eq_getElem?_getD,hs];rfl
  obtain ⟨bE,oE,rfl,hRE⟩:=H.rowsAt 2 rfl (fun r hr=>by obtain ⟨x,_,rfl⟩:=List.mem_map.1 hr;rfl) (by decide) i (enC k) (by rw [List.getElem?_map,hk];rfl)
  obtain ⟨bS,oS,rfl,hRS⟩:=H.rowsAt 1 rfl (bs_rows _) (by decide) k (bs 142 s) (by rw [List.getElem?_map,hs];rfl)
  have hsn:(finB fd).take (i+1)=(finB fd).take i++[finalP s]:=by
   rw [List.take_add_one]
   unfold finB
   rw [List.getElem?_map,hk]
   show _++[finalP (fd.list.getD k zb)]=_
   rw [hgd]
  refine wp_skip (hK10 _ _ ?_);clear hK10;refine cSeq (fun K11 hK11=>?_);refine wp_block ?_;refine cSR fun K12 hK12=>?_
  refine sIx Tryz.underlying83 Tryz.sizeOf3 F rfl rfl rfl rfl ?_ ?_
  focus (first | omega | decide | (simp;omega))
  clear F a;intro a F;refine sLd Tryz.isAgg3 F rfl rfl rfl (by simpa using hRE 0 _ rfl) (qAs rfl rfl rfl (qNK hK12 (qReg (qMv rfl rfl rfl (qFa (f:=0) (k:=0) Tryz.underlying113 rfl Tryz.sizeOf51 rfl rfl rfl rfl rfl (qLd Tryz.isAgg51 rfl rfl rfl (H.cell 3 rfl rfl) (qMv rfl rfl rfl ?_)))))));clear hK12;clear F a;intro a F
  refine sIx Tryz.underlying51 Tryz.sizeOf70 F rfl rfl rfl rfl ?_ ?_
  focus exact hkl
  clear F a;intro a F
  refine sLrB Tryz.underlying70 rfl Tryz.sizeOf70 F rfl rfl rfl (by obtain ⟨b',o',g1,g2⟩:=H.rowsAt 1 rfl (bs_rows _) (by decide) k (bs 142 s) (by rw [List.getElem?_map,hs];rfl);cases g1;exact g2) ?_;clear F a;intro a F
  refine sCall Tryz.call29 F rfl rfl rfl (final_any s _) ?_;rintro e w ⟨rfl,hb⟩;replace H:=H.grow hb;clear hb;refine ⟨_,rfl,?_⟩;clear F a;intro a F;refine sBsA H Tryz.underlying30 Tryz.sizeOf47 Tryz.zeroValue47 rfl F rfl rfl rfl rfl rfl ?_;clear F a H;intro b37 a w F H
  refine sApp1 (bytes:=38) H 1 Tryz.underlying30 Tryz.typeInfo47 rfl rfl rfl rfl rfl rfl F rfl rfl rfl rfl rfl (H.whole 0 rfl) rfl ?s1 ?s2 ?_
  case s1=>first | rfl | (repeat (first | exact one_nil | (apply one_cons;· first | rfl | assumption | exact one_bif rfl rfl)))
  case s2=>(rw [List.length_map,hfl i hi];omega)
  clear F a H;intro A38 c38 a w F H;refine sAs F rfl rfl rfl (qNK hK11 (qReg ?_));clear hK11;clear F a;intro a F
  refine sBin F rfl rfl rfl rfl (bAddN (j:=1) ?_) ?_
  focus omega
  clear F a;intro a F;refine sMv F rfl rfl rfl ?_;clear F a;intro a F;refine sNil ?_
  have e2:((finB fd).take i).map (bs 38)++[bs 38 (finalP s)]=((finB fd).take (i+1)).map (bs 38):=by rw [hsn,List.map_append];rfl
  have e3:(((finB fd).take i).map (bs 38)++[bs 38 (finalP s)]).length=((finB fd).take (i+1)).length:=by rw [e2,List.length_map]
  rw [e3] at F H;rw [e2] at H
  exact ⟨_,by omega,_,⟨i+1,A38,c38,rfl,rfl,by omega,H.sel [1,2,3,4] rfl rfl⟩,F.to (by repeat (first | exact trivial | refine Le.cons rfl ?_))⟩
 replace h27:=of_decide_eq_false h27
 have hei:i=fd.ends.length:=by omega
 have hall:(finB fd).take i=finB fd:=List.take_of_length_le (by unfold finB;rw [List.length_map];omega)
 rw [hall] at F H
 have hlf:(finB fd).length=fd.ends.length:=by unfold finB;rw [List.length_map]
 have hne:finB fd ≠ []:=fun e=>by
  have:fd.ends=[]:=List.eq_nil_of_length_eq_zero (by rw [← hlf,e];rfl)
  exact ends_pos hF this
 refine wp_exit ?_;refine hK7 _ _ (cSR fun K13 hK13=>sMv F rfl rfl rfl ?_);clear hK7;clear F a;intro a F;refine sCall Tryz.call47 F rfl rfl rfl (sort_any A4 c4 (finB fd) _ (H.rowsAt 0 rfl (bs38_len _) (by decide)) (by omega) hne) ?_;rintro e w ⟨A5,c5,l2,rfl,hle2,hris,hmem,H2⟩;replace H:=H.join H2;clear H2;refine ⟨_,rfl,?_⟩;clear F a;intro a F;refine sAs F rfl rfl rfl (qAs rfl rfl rfl (qNK hK13 ?_));clear hK13;clear F a;intro a F;refine wp_ret ?_;refine bRet2 Tryz.results19 F rfl rfl ?_
 first
 | (have hE:statesE p mc n ≠ 0:=h21
    exact ⟨none,0,[],rfl,⟨fun _=>rfl,fun h=>absurd h hE⟩,(H.nilRws 47 38).pick 0 rfl⟩)
 | (rw [hE]
    refine ⟨A5,c5,l2,rfl,⟨fun h=>absurd hE h,fun _=>⟨?_,?_,hris,fun x=>?_⟩⟩,H.pick 0 rfl⟩
    · intro e
      obtain ⟨y,hy⟩:=List.exists_mem_of_ne_nil _ hne
      have:=(hmem (toL 38 y)).2 (List.mem_map.2 ⟨y,hy,rfl⟩)
      rw [e] at this;cases this
    · omega
    · rw [hmem,fin_tl]
      exact fins_iff hF)
-- BwA
open Go.Proofs.Tryz
open Go.RowKit
set_option maxRecDepth 100000
theorem RowsAt.ofRange {w:World} {b sz:Nat}:∀ {rows:List (List Value)} {o:Nat},w.rangeAt b o rows.flatten→(∀ r ∈ rows,r.length=sz)→RowsAt w (some ⟨b,o,none⟩) sz rows:=by
 intro rows o h hr j cs hj
 refine ⟨b,o,rfl,fun k v hk=>?_⟩
 have key:∀ (rows:List (List Value)),(∀ r ∈ rows,r.length=sz)→∀ j cs,rows[j]? = some cs→∀ k v,cs[k]? = some v→rows.flatten[j * sz+k]? = some v:=by
   intro rows hr
   induction rows with
   | nil=>intro j cs hj;simp at hj
   | cons r0 rest ih=>
     intro j cs hj k v hk
     have h0:r0.length=sz:=hr r0 (by simp)
     cases j with
     | zero=>
       simp at hj;subst hj
       have:k < r0.length:=(List.getElem?_eq_some_iff.1 hk).1
       rw [List.flatten_cons,List.getElem?_append_left (by omega)];simpa using hk
     | succ j=>
       rw [List.flatten_cons,List.getElem?_append_right (by rw [h0,Nat.add_mul];omega),h0]
       have e1:(j+1) * sz+k - sz=j * sz+k:=by rw [Nat.add_mul];omega
       rw [e1]
       exact ih (fun r hm=>hr r (by simp [hm])) j cs (by simpa using hj) k v hk
 have:=h (j * sz+k) v (key rows hr j cs hj k v hk)
 rwa [Nat.add_assoc]
def sbP:Prg where
 name:=⟨#[115,98]⟩
 locs:=[⟨#[120]⟩,⟨#[121]⟩]
 init:=[0,0]
 threads:=[[⟨2,0,0,false,1,false,0,0,0,0⟩,⟨1,0,1,false,0,false,0,0,0,0⟩],[⟨2,0,1,false,1,false,0,0,0,0⟩,⟨1,0,0,false,0,false,0,0,0,0⟩]]
 ask:=1
 cond:=.mk 0 0 0 0 []
def sbCells (b1 b2 b3:Nat):List Value:=[.string ⟨#[115,98]⟩,.slice (some ⟨b1,0,none⟩) 2 2,.slice (some ⟨b2,0,none⟩) 2 2,.slice (some ⟨b3,0,none⟩) 2 2,b8 1,b8 0,b8 0,b8 0,b8 0,.slice none 0 0]
def sbRes (b1 b2 b3 b4 b5:Nat):List Res:=[.blk b3 [.slice (some ⟨b4,0,none⟩) 2 2,.slice (some ⟨b5,0,none⟩) 2 2] 33,.blk b5 ((sbP.threads.getD 1 []).map Ins.cells).flatten 37,.blk b4 ((sbP.threads.getD 0 []).map Ins.cells).flatten 37,.blk b2 [b8 0,b8 0] 5,.blk b1 [.string ⟨#[120]⟩,.string ⟨#[121]⟩] 9]
theorem buffering_any (w0:World) :
   Calls Tryz.prog 37 #[] w0 fun e w'=>∃ b1 b2 b3 b4 b5,e = .returned (.agg (sbCells b1 b2 b3).toArray)∧Own w0 none w' (sbRes b1 b2 b3 b4 b5):=by
 have H:=Own.start w0 none
 refine enterF func37 rfl ntmps37 rfl (fun a F=>?_);refine cSR fun K1 hK1=>?_;refine sAl H zeroValue29 F rfl rfl ?_;clear F a H;intro b0 a w F H;refine nK hK1 (cSR fun K2 hK2=>?_);clear hK1;refine sBs H underlying22 sizeOf9 zeroValue9 rfl F rfl rfl rfl rfl rfl ?_;clear F a H;intro b1 a w F H;refine sBs H underlying23 sizeOf5 zeroValue5 rfl F rfl rfl rfl rfl rfl ?_;clear F a H;intro b2 a w F H;refine sBd (places:=[(0,1),(1,1)]) zeroValue35 underlying35 (by kernel_rfl) F rfl rfl rfl rfl (qBd (places:=[(0,1),(1,1),(2,1),(3,2),(5,2),(7,1),(8,1),(9,1)]) zeroValue37 underlying37 (by kernel_rfl) rfl rfl rfl rfl (qBd (places:=[(0,1),(1,1),(2,1),(3,2),(5,2),(7,1),(8,1),(9,1)]) zeroValue37 underlying37 (by kernel_rfl) rfl rfl rfl rfl ?_));clear F a;intro a F;refine sBs H underlying33 sizeOf37 zeroValue37 rfl F rfl rfl rfl rfl rfl ?_;clear F a H;intro b6 a w F H;refine sBd (places:=[(0,1),(1,1)]) zeroValue35 underlying35 (by kernel_rfl) F rfl rfl rfl rfl (qBd (places:=[(0,1),(1,1),(2,1),(3,2),(5,2),(7,1),(8,1),(9,1)]) zeroValue37 underlying37 (by kernel_rfl) rfl rfl rfl rfl (qBd (places:=[(0,1),(1,1),(2,1),(3,2),(5,2),(7,1),(8,1),(9,1)]) zeroValue37 underlying37 (by kernel_rfl) rfl rfl rfl rfl ?_));clear F a;intro a F;refine sBs H underlying33 sizeOf37 zeroValue37 rfl F rfl rfl rfl rfl rfl ?_;clear F a H;intro b10 a w F H;refine sBs H underlying24 sizeOf33 zeroValue33 rfl F rfl rfl rfl rfl rfl ?_
 clear F a H;intro b11 a w F H;refine sBd (places:=[(0,1),(1,1),(2,1),(3,1),(4,1),(5,5)]) zeroValue29 underlying29 (by kernel_rfl) F rfl rfl rfl rfl ?_;clear F a;intro a F
 refine sSr H 5 ?si F rfl rfl rfl ?s1 rfl rfl ?_
 case si=>exact info_size sizeOf29
 case s1=>first | rfl | (repeat (first | exact one_nil | (apply one_cons;· first | rfl | assumption | exact one_bif rfl rfl)))
 clear H;intro w H;refine nK hK2 ?_;clear hK2;refine wp_ret ?_;refine bRetC results37 F rfl underlying29 rfl H 5 rfl sizeOf29 rfl ?_
 exact ⟨_,_,_,_,_,rfl,H.sel [0,1,2,3,4] rfl rfl⟩
theorem sb_prog {w0 w:World} {row:Option Nat} {b1 b2 b3 b4 b5:Nat} (H:Own w0 row w (sbRes b1 b2 b3 b4 b5)):ProgAt w (sbCells b1 b2 b3) sbP:=by
 refine ⟨some ⟨b1,0,none⟩,2,some ⟨b2,0,none⟩,2,some ⟨b3,0,none⟩,2,1,[b8 0,b8 0,b8 0,b8 0,.slice none 0 0],?_⟩
 have h3:=H.blk 0 rfl
 have h5:=H.whole 1 rfl
 have h4:=H.whole 2 rfl
 have h2:=H.whole 3 rfl
 have h1:=H.whole 4 rfl
 have hone:∀ (l:List Ins) (r:List Value),r ∈ l.map Ins.cells→r.length=10:=fun l r hr=>by
   obtain ⟨x,_,rfl⟩:=List.mem_map.1 hr;rfl
 refine ⟨rfl,by decide,RowsAt.ofRange (sz:=1) (rows:=[[_],[_]]) h1 (by simp),by decide,by decide,?_,RowsAt.ofRange (sz:=1) (rows:=[[_],[_]]) h2 (by simp),by decide,?_,by decide,none,0,rfl,by decide,fun j kid hj=>by simp at hj⟩
 · intro s hs
   have:s=⟨#[120]⟩∨s=⟨#[121]⟩:=by simpa [sbP] using hs
   rcases this with rfl | rfl <;> decide
 · intro j t hj
   match j,hj with
   | 0,hj=>cases hj;exact ⟨b3,0,some ⟨b4,0,none⟩,2,rfl,h3.cell 0 rfl,RowsAt.ofRange h4 (hone _),by decide⟩
   | 1,hj=>cases hj;exact ⟨b3,0,some ⟨b5,0,none⟩,2,rfl,h3.cell 1 rfl,RowsAt.ofRange h5 (hone _),by decide⟩
   | n+2,hj=>simp [sbP] at hj
theorem notEq {a:Bool} (h:a=true) (h2:a=false) {G:Prop}:G:=by rw [h] at h2;cases h2
theorem eq_at2 {α:Type} {l q:List α} (hl:l.length=q.length) (h:∀ i,i < l.length→l[i]? = q[i]?):l=q:=by
 refine List.ext_getElem? fun i=>?_
 rcases Nat.lt_or_ge i l.length with h1 | h1
 · exact h i h1
 · rw [List.getElem?_eq_none h1,List.getElem?_eq_none (by omega)]
theorem passes_any (A B:Option Addr) (CA CB:Nat) (l q:List Pss) (w0:World) (hA:RowsAt w0 A 3 (l.map Pss.cells)) (hB:RowsAt w0 B 3 (q.map Pss.cells)) (hl:l.length≤9223372036854775807) (hq:q.length≤9223372036854775807) :
   Calls Tryz.prog 25 #[.slice A l.length CA,.slice B q.length CB] w0 fun e w'=>e = .returned (.bool (decide (l=q)))∧Below w0.heap.size w0 w':=by
 have H:=Own.start w0 none
 refine enterF func25 rfl ntmps25 rfl (fun a F=>?_);refine cSR fun K1 hK1=>sAs F rfl rfl rfl (qNK hK1 ?_);clear hK1;clear F a;intro a F;refine cSeq (fun K2 hK2=>?_);refine cSR fun K3 hK3=>sMv F rfl rfl rfl (qLen underlying58 rfl rfl rfl (qMv rfl rfl rfl (qLen underlying58 rfl rfl rfl (qBin rfl rfl rfl rfl bNeq (qNK hK3 ?_)))));clear hK3;clear F a;intro a F
 refine cIf F rfl (fun h10=>?_) (fun h10=>?_)
 ·
  replace h10:=bneT h10;refine cSR fun K4 hK4=>sAs F rfl rfl rfl (qNK hK4 ?_);clear hK4;clear F a;intro a F;refine wp_ret ?_;simp only [Exit.then];refine bRet results25 F rfl ?_
  refine ⟨retB ?_,H.below⟩
  clear F H
  first
    | exact (decide_eq_false (fun e=>by subst e;omega)).symm
    | exact (decide_eq_false (fun e=>by subst e;rw [hx] at hy;cases hy;simp at h24)).symm
    | exact (decide_eq_true (eq_at2 (show l.length=q.length by omega) (fun i hi=>ht i (by omega)))).symm
 replace h10:=bneF h10;refine wp_skip (hK2 _ _ ?_);clear hK2;refine cSeq (fun K5 hK5=>?_);refine cSR fun K6 hK6=>sMv F rfl rfl rfl (qLen underlying58 rfl rfl rfl (qMv rfl rfl rfl (qNK hK6 ?_)));clear hK6;clear F a;intro a F;refine wp_block ?_
 refine cLoopR [0,1,12] (fun m ups w=>∃ j:Nat,m=l.length - j∧ups=[(13,.int .i64 ((j:Nat):Int))]∧j≤l.length∧(∀ i,i < j→l[i]? = q[i]?)∧Own w0 none w []) F (l.length) [(13,.int .i64 ((0:Nat):Int))] (by repeat (first | exact SubR.nil | (apply SubR.cons;· rfl))) ?_ ?_ ?_
 · exact ⟨0,rfl,rfl,by omega,fun i hi=>absurd hi (by omega),H.sel [] rfl rfl⟩
 · repeat (first | exact trivial | refine Le.cons rfl ?_)
 clear F
 clear H
 intro m ups a w hI F
 obtain ⟨j,rfl,rfl,hj,ht,H⟩:=hI
 refine cSR fun K7 hK7=>sBin F rfl rfl rfl rfl bLss (qNK hK7 ?_);clear hK7;clear F a;intro a F;refine cSeq (fun K8 hK8=>?_)
 refine cIf F rfl (fun h14=>?_) (fun h14=>?_)
 ·
  replace h14:=of_decide_eq_true h14
  obtain ⟨x,hx⟩:∃ x,l[j]? = some x:=⟨_,List.getElem?_eq_getElem (by omega)⟩
  obtain ⟨y,hy⟩:∃ y,q[j]? = some y:=⟨_,List.getElem?_eq_getElem (by omega)⟩
  obtain ⟨bA,oA,rfl,hAx⟩:=hA j x.cells (by rw [List.getElem?_map,hx];rfl)
  obtain ⟨bB,oB,rfl,hBy⟩:=hB j y.cells (by rw [List.getElem?_map,hy];rfl)
  refine wp_skip (hK8 _ _ ?_);clear hK8;refine cSeq (fun K9 hK9=>?_);refine wp_block ?_;refine cSR fun K10 hK10=>sMv F rfl rfl rfl (qAs rfl rfl rfl (qNK hK10 ?_));clear hK10;clear F a;intro a F;refine cSeq (fun K11 hK11=>?_);refine cRegRO (by kernel_rfl) H ?_;replace H:=H.drew;refine eTF 0 rfl (by kernel_rfl) F rfl rfl rfl (fun w=>rMv F rfl) H qq0 (qTF 1 rfl (by kernel_rfl) rfl rfl rfl (fun a F w=>rMv F rfl) H qq0 ?_);clear F a;intro a F
  refine eTakeF (k:=2) (i:=2) rfl (by kernel_rfl) F rfl rfl rfl (fun w=>rIx underlying58 sizeOf86 F rfl rfl ?_) H (fun _ _ _ h=>h) ?_
  focus (first | omega | decide | (simp;omega))
  clear F a;intro a F
  refine eTake (k:=3) (i:=3) rfl (by kernel_rfl) F rfl rfl rfl rfl (fun w H=>rLr underlying86 rfl ?si F rfl (H.argR hAx)) H (fun _ _ _ h=>h) ?_
  case si=>exact info_size sizeOf86
  clear F a;intro a F;refine eTF 4 rfl (by kernel_rfl) F rfl rfl rfl (fun w=>rMv F rfl) H qq0 (qTF 5 rfl (by kernel_rfl) rfl rfl rfl (fun a F w=>rMv F rfl) H qq0 ?_);clear F a;intro a F
  refine eTakeF (k:=6) (i:=6) rfl (by kernel_rfl) F rfl rfl rfl (fun w=>rIx underlying58 sizeOf86 F rfl rfl ?_) H (fun _ _ _ h=>h) ?_
  focus (first | omega | decide | (simp;omega))
  clear F a;intro a F
  refine eTake (k:=7) (i:=7) rfl (by kernel_rfl) F rfl rfl rfl rfl (fun w H=>rLr underlying86 rfl ?si F rfl (H.argR hBy)) H (fun _ _ _ h=>h) ?_
  case si=>exact info_size sizeOf86
  clear F a;intro a F;refine eTF 8 rfl (by kernel_rfl) F rfl rfl rfl (fun w=>rBin F rfl rfl (bNeX (x:=x) (y:=y))) H qq0 ?_;clear F a;intro a F;refine eNil (k:=9) (by kernel_rfl) ?_;refine hK11 _ _ ?_;clear hK11
  refine cIf F rfl (fun h24=>?_) (fun h24=>?_)
  ·
   refine cSR fun K12 hK12=>sAs F rfl rfl rfl (qNK hK12 ?_);clear hK12;clear F a;intro a F;refine wp_ret ?_;simp only [Exit.inBlock,Exit.then];refine bRet results25 F rfl ?_
   refine ⟨retB ?_,H.below⟩
   clear F H
   first
     | exact (decide_eq_false (fun e=>by subst e;omega)).symm
     | exact (decide_eq_false (fun e=>by subst e;rw [hx] at hy;cases hy;simp at h24)).symm
     | exact (decide_eq_true (eq_at2 (show l.length=q.length by omega) (fun i hi=>ht i (by omega)))).symm
  refine wp_skip (hK9 _ _ (cReg ?_));clear hK9
  refine sBin F rfl rfl rfl rfl (bAddN (j:=1) ?_) ?_
  focus omega
  clear F a;intro a F;refine sMv F rfl rfl rfl ?_;clear F a;intro a F;refine sNil ?_
  (have hxy:x=y:=by simpa using h24
   have hs:∀ i,i < j+1→l[i]? = q[i]?:=fun i hi=>by
    rcases Nat.lt_or_ge i j with h1 | h1
    · exact ht i h1
    · obtain rfl:i=j:=by omega
      rw [hx,hy,hxy]
   exact ⟨_,by omega,_,⟨j+1,rfl,rfl,by omega,hs,H.sel [] rfl rfl⟩,F.to (by repeat (first | exact trivial | refine Le.cons rfl ?_))⟩)
 replace h14:=of_decide_eq_false h14;refine wp_exit ?_;refine hK5 _ _ (cSR fun K13 hK13=>sAs F rfl rfl rfl (qNK hK13 ?_));clear hK5 hK13;clear F a;intro a F;refine wp_ret ?_;refine bRet results25 F rfl ?_
 refine ⟨retB ?_,H.below⟩
 clear F H
 first
   | exact (decide_eq_false (fun e=>by subst e;omega)).symm
   | exact (decide_eq_false (fun e=>by subst e;rw [hx] at hy;cases hy;simp at h24)).symm
   | exact (decide_eq_true (eq_at2 (show l.length=q.length by omega) (fun i hi=>ht i (by omega)))).symm
end Go.Proofs.YtbgnapmaimkpkaaGreatDoor
