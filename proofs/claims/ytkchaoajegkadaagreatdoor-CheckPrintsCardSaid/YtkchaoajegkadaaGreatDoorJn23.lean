/-
  WALK2. Package print: sameProg, both answers. Conditions: the programs lie in memory.
-/
import Derived.Test.YtkchaoajegkadaaGreatDoorJn22
import Derived.Test.YtkchaoajegkadaaGreatDoorKtF
import Derived.Test.YtkchaoajegkadaaGreatDoorWrN
import Derived.Test.YtkchaoajegkadaaGreatDoorJn13
import Derived.Test.YtkchaoajegkadaaGreatDoorJn5
import Derived.Test.YtkchaoajegkadaaGreatDoorCkK
import Derived.Test.YtkchaoajegkadaaGreatDoorJn6
import Derived.Test.YtkchaoajegkadaaGreatDoorJn15
set_option linter.unusedSimpArgs false
set_option linter.unusedVariables false
namespace Go.Proofs.YtkchaoajegkadaaGreatDoor
-- WrJ
open Go.Proofs.Tryz
open Go.RowKit
set_option maxRecDepth 100000
theorem prg_ext {p q:Prg}:p=q ↔ p.name=q.name∧p.locs=q.locs∧p.init=q.init∧p.threads=q.threads∧p.ask=q.ask∧p.cond=q.cond:=by
 obtain ⟨p1,p2,p3,p4,p5,p6⟩:=p
 obtain ⟨q1,q2,q3,q4,q5,q6⟩:=q
 simp
set_option maxHeartbeats 8000000 in
theorem samePP_any (cs1 cs2:List Value) (p q:Prg) (LA:Option Addr) (LC:Nat) (IA:Option Addr) (IC:Nat) (TA:Option Addr) (TC h:Nat) (ccs:List Value) (LA2:Option Addr) (LC2:Nat) (IA2:Option Addr) (IC2:Nat) (TA2:Option Addr) (TC2 h2:Nat) (ccs2:List Value) (w0:World)
   (hp:ProgIn w0 cs1 p LA LC IA IC TA TC h ccs) (hq:ProgIn w0 cs2 q LA2 LC2 IA2 IC2 TA2 TC2 h2 ccs2) :
   Calls Tryz.prog 24 #[.agg cs1.toArray,.agg cs2.toArray] w0 fun e w'=>(∃ b:Bool,e = .returned (.bool b)∧(b=true ↔ p=q))∧Below w0.heap.size w0 w':=by
 obtain ⟨a1,a2,a3,a4,a5,a6,a7,rfl⟩:=condShape hp.cond
 obtain ⟨c1,c2,c3,c4,c5,c6,c7,rfl⟩:=condShape hq.cond
 have hcs:=hp.cs
 have hcs2:=hq.cs
 simp only [List.cons_append,List.nil_append] at hcs hcs2
 subst hcs hcs2
 have H:=Own.start w0 none
 have n1:=hp.threadsN
 have n2:=hq.threadsN
 refine enterF func24 rfl ntmps24 rfl (fun a F=>?_);refine cSR fun K1 hK1=>?_;refine sBx H F rfl rfl rfl ?_;clear F a H;intro b2 a w F H;refine sBx H F rfl rfl rfl ?_;clear F a H;intro b3 a w F H;refine sAs F rfl rfl rfl (qNK hK1 ?_);clear hK1;clear F a;intro a F;refine cSeq (fun K2 hK2=>?_);refine cSR fun K3 hK3=>sFa (f:=0) (k:=0) underlying29 rfl sizeOf9 rfl rfl F rfl rfl rfl (qLd isAgg9 rfl rfl rfl (H.cell 1 rfl rfl) (qFa (f:=0) (k:=0) underlying29 rfl sizeOf9 rfl rfl rfl rfl rfl (qLd isAgg9 rfl rfl rfl (H.cell 0 rfl rfl) (qBin rfl rfl rfl rfl bStrNe (qMv rfl rfl rfl ?_)))));clear F a;intro a F
 refine F.split 11 rfl ?_ ?_ <;> (clear F;intro h11 F)
 ·
  replace h11:=nbeqT h11;refine sSk F rfl rfl (qSk rfl rfl (qSk rfl rfl (qSk rfl rfl (qSk rfl rfl (qPk rfl rfl rfl rfl (qMv rfl rfl rfl (qSk rfl rfl (qSk rfl rfl (qSk rfl rfl (qSk rfl rfl (qSk rfl rfl (qSk rfl rfl (qSk rfl rfl (qPk rfl rfl rfl rfl (qNK hK3 ?_)))))))))))))));clear hK3;clear F a;intro a F;refine cIfT F rfl ?_;refine cSR fun K4 hK4=>sAs F rfl rfl rfl (qNK hK4 ?_);clear hK4;clear F a;intro a F;refine wp_ret ?_;simp only [Exit.then];refine bRet results24 F rfl ?_
  refine ⟨⟨_,rfl,?_⟩,H.below⟩
  rw [prg_ext]
  first
  | (simp only [Bool.false_eq_true,false_iff];rintro ⟨e1,e2,e3,e4,e5,e6⟩;simp_all;done)
  | (have ht:p.threads=q.threads:=by
       refine List.ext_getElem? fun j=>?_
       by_cases hj:j < i
       · exact hsm j hj
       · rw [List.getElem?_eq_none (by omega),List.getElem?_eq_none (by omega)]
     have hn:p.name=q.name:=eq_of_toList (by simp_all)
     simp_all;done)
 replace h11:=nbeqF h11;refine sFa (f:=4) (k:=4) underlying29 rfl sizeOf5 rfl rfl F rfl rfl rfl (qLd isAgg5 rfl rfl rfl (H.cell 1 rfl rfl) (qFa (f:=4) (k:=4) underlying29 rfl sizeOf5 rfl rfl rfl rfl rfl (qLd isAgg5 rfl rfl rfl (H.cell 0 rfl rfl) (qBin rfl rfl rfl rfl bNeqB (qPk rfl rfl rfl rfl (qMv rfl rfl rfl ?_))))));clear F a;intro a F
 refine F.split 18 rfl ?_ ?_ <;> (clear F;intro h18 F)
 ·
  replace h18:=bneT h18;refine sSk F rfl rfl (qSk rfl rfl (qSk rfl rfl (qSk rfl rfl (qSk rfl rfl (qSk rfl rfl (qSk rfl rfl (qPk rfl rfl rfl rfl (qNK hK3 ?_))))))));clear hK3;clear F a;intro a F;refine cIfT F rfl ?_;refine cSR fun K5 hK5=>sAs F rfl rfl rfl (qNK hK5 ?_);clear hK5;clear F a;intro a F;refine wp_ret ?_;simp only [Exit.then];refine bRet results24 F rfl ?_
  refine ⟨⟨_,rfl,?_⟩,H.below⟩
  rw [prg_ext]
  first
  | (simp only [Bool.false_eq_true,false_iff];rintro ⟨e1,e2,e3,e4,e5,e6⟩;simp_all;done)
  | (have ht:p.threads=q.threads:=by
       refine List.ext_getElem? fun j=>?_
       by_cases hj:j < i
       · exact hsm j hj
       · rw [List.getElem?_eq_none (by omega),List.getElem?_eq_none (by omega)]
     have hn:p.name=q.name:=eq_of_toList (by simp_all)
     simp_all;done)
 replace h18:=bneF h18;refine sFa (f:=3) (k:=3) underlying29 rfl sizeOf24 rfl rfl F rfl rfl rfl (qLd isAgg24 rfl rfl rfl (H.cell 1 rfl rfl) (qLen underlying24 rfl rfl rfl (qFa (f:=3) (k:=3) underlying29 rfl sizeOf24 rfl rfl rfl rfl rfl (qLd isAgg24 rfl rfl rfl (H.cell 0 rfl rfl) (qLen underlying24 rfl rfl rfl (qBin rfl rfl rfl rfl bNeq (qPk rfl rfl rfl rfl (qNK hK3 ?_))))))));clear hK3;clear F a;intro a F
 refine cIf F rfl (fun h26=>?_) (fun h26=>?_)
 ·
  replace h26:=bneT h26;refine cSR fun K6 hK6=>sAs F rfl rfl rfl (qNK hK6 ?_);clear hK6;clear F a;intro a F;refine wp_ret ?_;simp only [Exit.then];refine bRet results24 F rfl ?_
  refine ⟨⟨_,rfl,?_⟩,H.below⟩
  rw [prg_ext]
  first
  | (simp only [Bool.false_eq_true,false_iff];rintro ⟨e1,e2,e3,e4,e5,e6⟩;simp_all;done)
  | (have ht:p.threads=q.threads:=by
       refine List.ext_getElem? fun j=>?_
       by_cases hj:j < i
       · exact hsm j hj
       · rw [List.getElem?_eq_none (by omega),List.getElem?_eq_none (by omega)]
     have hn:p.name=q.name:=eq_of_toList (by simp_all)
     simp_all;done)
 replace h26:=bneF h26;refine wp_skip (hK2 _ _ ?_);clear hK2;refine cSeq (fun K7 hK7=>?_);refine cSR fun K8 hK8=>sFa (f:=3) (k:=3) underlying29 rfl sizeOf24 rfl rfl F rfl rfl rfl (qLd isAgg24 rfl rfl rfl (H.cell 1 rfl rfl) (qLen underlying24 rfl rfl rfl (qMv rfl rfl rfl (qNK hK8 ?_))));clear hK8;clear F a;intro a F;refine wp_block ?_
 refine cLoopR [2,3,29] (fun m ups w=>∃ i:Nat,m=p.threads.length - i∧ups=[(30,.int .i64 ((i:Nat):Int))]∧i≤p.threads.length∧(∀ j,j < i→p.threads[j]? = q.threads[j]?)∧Own w0 none w [.blk b3 [.string q.name,.slice LA2 q.locs.length LC2,.slice IA2 q.init.length IC2,.slice TA2 q.threads.length TC2,b8 q.ask,b8 c1,b8 c2,b8 c3,b8 c4,.slice c5 c6 c7] 29,.blk b2 [.string p.name,.slice LA p.locs.length LC,.slice IA p.init.length IC,.slice TA p.threads.length TC,b8 p.ask,b8 a1,b8 a2,b8 a3,b8 a4,.slice a5 a6 a7] 29]) F (p.threads.length) [(30,.int .i64 ((0:Nat):Int))] (by repeat (first | exact SubR.nil | (apply SubR.cons;· rfl))) ?_ ?_ ?_
 · exact ⟨0,rfl,rfl,by omega,fun j h=>by omega,H⟩
 · repeat (first | exact trivial | refine Le.cons rfl ?_)
 clear F
 clear H
 intro m ups a w hI F
 obtain ⟨i,rfl,rfl,hi,hsm,H⟩:=hI
 refine cSR fun K9 hK9=>sBin F rfl rfl rfl rfl bLss (qNK hK9 ?_);clear hK9;clear F a;intro a F;refine cSeq (fun K10 hK10=>?_)
 refine cIf F rfl (fun h31=>?_) (fun h31=>?_)
 ·
  replace h31:=of_decide_eq_true h31
  obtain ⟨x,hx⟩:∃ x,p.threads[i]? = some x:=⟨_,List.getElem?_eq_getElem (by omega)⟩
  obtain ⟨y,hy⟩:∃ y,q.threads[i]? = some y:=⟨_,List.getElem?_eq_getElem (by omega)⟩
  obtain ⟨bA,oA,XA,XCA,rfl,hAx,hRA,hxl⟩:=hp.threads i x hx
  obtain ⟨bB,oB,XB,XCB,rfl,hBx,hRB,hyl⟩:=hq.threads i y hy
  refine wp_skip (hK10 _ _ ?_);clear hK10;refine cSeq (fun K11 hK11=>?_);refine wp_block ?_;refine cSR fun K12 hK12=>sMv F rfl rfl rfl (qAs rfl rfl rfl (qNK hK12 ?_));clear hK12;clear F a;intro a F;refine cSeq (fun K13 hK13=>?_);refine cRegRO (by kernel_rfl) H ?_;replace H:=H.drew;refine eTF 0 rfl (by kernel_rfl) F rfl rfl rfl (fun w=>rFa (f:=3) (k:=3) underlying29 rfl sizeOf24 rfl rfl F rfl) H qq0 (qT 1 rfl (by kernel_rfl) rfl rfl rfl rfl (fun a F w H=>rLd isAgg24 F rfl (H.cell 1 rfl rfl)) H qq0 (qTF 2 rfl (by kernel_rfl) rfl rfl rfl (fun a F w=>rMv F rfl) H qq0 ?_));clear F a;intro a F
  refine eTakeF (k:=3) (i:=3) rfl (by kernel_rfl) F rfl rfl rfl (fun w=>rIx underlying24 sizeOf52 F rfl rfl ?_) H (fun _ _ _ h=>h) ?_
  focus (first | omega | decide | (simp;omega))
  clear F a;intro a F;refine eT 4 rfl (by kernel_rfl) F rfl rfl rfl rfl (fun w H=>rLd isAgg52 F rfl (H.arg hAx)) H qq0 (qTF 5 rfl (by kernel_rfl) rfl rfl rfl (fun a F w=>rFa (f:=3) (k:=3) underlying29 rfl sizeOf24 rfl rfl F rfl) H qq0 (qT 6 rfl (by kernel_rfl) rfl rfl rfl rfl (fun a F w H=>rLd isAgg24 F rfl (H.cell 0 rfl rfl)) H qq0 (qTF 7 rfl (by kernel_rfl) rfl rfl rfl (fun a F w=>rMv F rfl) H qq0 ?_)));clear F a;intro a F
  refine eTakeF (k:=8) (i:=8) rfl (by kernel_rfl) F rfl rfl rfl (fun w=>rIx underlying24 sizeOf52 F rfl rfl ?_) H (fun _ _ _ h=>h) ?_
  focus (first | omega | decide | (simp;omega))
  clear F a;intro a F;refine eT 9 rfl (by kernel_rfl) F rfl rfl rfl rfl (fun w H=>rLd isAgg52 F rfl (H.arg hBx)) H qq0 ?_;clear F a;intro a F;refine eOne (k:=10) (i:=10) rfl (by kernel_rfl) F rfl (oCall call47 F rfl rfl (sameThread_any XA XB XCA XCB x y _ (hRA.own H) (hRB.own H) hxl hyl) ?_);rintro e w ⟨⟨sb,rfl,hsb⟩,hb⟩;replace H:=H.grow hb;clear hb;refine ⟨_,rfl,?_⟩;clear F a;intro a F;refine ePartO (by kernel_rfl) H ?_;refine eTF 11 rfl (by kernel_rfl) F rfl rfl rfl (fun w=>rNot F rfl) H qq0 ?_;clear F a;intro a F;refine eNil (k:=12) (by kernel_rfl) ?_;refine hK13 _ _ ?_;clear hK13
  refine cIf F rfl (fun h44=>?_) (fun h44=>?_)
  ·
   replace h44:=notT h44;refine cSR fun K14 hK14=>sAs F rfl rfl rfl (qNK hK14 ?_);clear hK14;clear F a;intro a F;refine wp_ret ?_;simp only [Exit.inBlock,Exit.then];refine bRet results24 F rfl ?_
   refine ⟨⟨_,rfl,?_⟩,H.below⟩
   rw [prg_ext]
   first
   | (simp only [Bool.false_eq_true,false_iff];rintro ⟨e1,e2,e3,e4,e5,e6⟩;simp_all;done)
   | (have ht:p.threads=q.threads:=by
        refine List.ext_getElem? fun j=>?_
        by_cases hj:j < i
        · exact hsm j hj
        · rw [List.getElem?_eq_none (by omega),List.getElem?_eq_none (by omega)]
      have hn:p.name=q.name:=eq_of_toList (by simp_all)
      simp_all;done)
  replace h44:=notF h44;refine wp_skip (hK11 _ _ (cReg ?_));clear hK11
  refine sBin F rfl rfl rfl rfl (bAddN (j:=1) ?_) ?_
  focus omega
  clear F a;intro a F;refine sMv F rfl rfl rfl ?_;clear F a;intro a F;refine sNil ?_
  have hxy:x=y:=hsb.1 (by first | exact h44 | simpa using h44)
  exact ⟨_,by omega,_,⟨i+1,rfl,rfl,by omega,fun j hj=>by rcases Nat.lt_succ_iff_lt_or_eq.1 hj with h | rfl;exact hsm j h;rw [hx,hy,hxy],H⟩,F.to (by repeat (first | exact trivial | refine Le.cons rfl ?_))⟩
 replace h31:=of_decide_eq_false h31;refine wp_exit ?_;refine hK7 _ _ (cSR fun K15 hK15=>sFa (f:=1) (k:=1) underlying29 rfl sizeOf22 rfl rfl F rfl rfl rfl (qLd isAgg22 rfl rfl rfl (H.cell 1 rfl rfl) (qFa (f:=1) (k:=1) underlying29 rfl sizeOf22 rfl rfl rfl rfl rfl (qLd isAgg22 rfl rfl rfl (H.cell 0 rfl rfl) ?_))));clear hK7;clear F a;intro a F;refine sCall call48 F rfl rfl rfl (equalS_any LA LA2 LC LC2 p.locs q.locs _ (hp.locs.own H) (hq.locs.own H) hp.locsN hq.locsN) ?_;rintro e w ⟨⟨s50,rfl,h50⟩,hb⟩;replace H:=H.grow hb;clear hb;refine ⟨_,rfl,?_⟩;clear F a;intro a F;refine sMv F rfl rfl rfl ?_;clear F a;intro a F
 refine F.split 51 rfl ?_ ?_ <;> (clear F;intro h51 F)
 ·
  refine sFa (f:=2) (k:=2) underlying29 rfl sizeOf23 rfl rfl F rfl rfl rfl (qLd isAgg23 rfl rfl rfl (H.cell 1 rfl rfl) (qFa (f:=2) (k:=2) underlying29 rfl sizeOf23 rfl rfl rfl rfl rfl (qLd isAgg23 rfl rfl rfl (H.cell 0 rfl rfl) ?_)));clear F a;intro a F;refine sCall call49 F rfl rfl rfl (equalB_any IA IA2 IC IC2 p.init q.init _ (hp.init.own H) (hq.init.own H) hp.initN hq.initN) ?_;rintro e w ⟨⟨s56,rfl,h56⟩,hb⟩;replace H:=H.grow hb;clear hb;refine ⟨_,rfl,?_⟩;clear F a;intro a F;refine sPk F rfl rfl rfl rfl (qMv rfl rfl rfl ?_);clear F a;intro a F
  refine F.split 58 rfl ?_ ?_ <;> (clear F;intro h58 F)
  ·
   refine sFa (f:=5) (k:=5) underlying29 rfl sizeOf27 rfl rfl F rfl rfl rfl ?_;clear F a;intro a F
   refine sLr underlying27 rfl ?si F rfl rfl rfl (H.range 1 rfl _ 5) ?_
   case si=>exact info_size sizeOf27
   clear F a;intro a F;refine sFa (f:=5) (k:=5) underlying29 rfl sizeOf27 rfl rfl F rfl rfl rfl ?_;clear F a;intro a F
   refine sLr underlying27 rfl ?si F rfl rfl rfl (H.range 0 rfl _ 5) ?_
   case si=>exact info_size sizeOf27
   clear F a;intro a F;refine sCall call35 F rfl rfl rfl (samePC_any h h2 _ _ p.cond q.cond _ (CondAt.grown H.grown rfl _ _ _ hp.cond) (CondAt.grown H.grown rfl _ _ _ hq.cond)) ?_;rintro e w ⟨⟨s63,rfl,h63⟩,hb⟩;replace H:=H.grow hb;clear hb;refine ⟨_,rfl,?_⟩;clear F a;intro a F;refine sPk F rfl rfl rfl rfl (qAs rfl rfl rfl (qNK hK15 ?_));clear hK15;clear F a;intro a F;refine wp_ret ?_;refine bRet results24 F rfl ?_
   refine ⟨⟨_,rfl,?_⟩,H.below⟩
   rw [prg_ext]
   first
   | (simp only [Bool.false_eq_true,false_iff];rintro ⟨e1,e2,e3,e4,e5,e6⟩;simp_all;done)
   | (have ht:p.threads=q.threads:=by
        refine List.ext_getElem? fun j=>?_
        by_cases hj:j < i
        · exact hsm j hj
        · rw [List.getElem?_eq_none (by omega),List.getElem?_eq_none (by omega)]
      have hn:p.name=q.name:=eq_of_toList (by simp_all)
      simp_all;done)
  refine sSk F rfl rfl (qSk rfl rfl (qSk rfl rfl (qSk rfl rfl (qSk rfl rfl (qPk rfl rfl rfl rfl (qAs rfl rfl rfl (qNK hK15 ?_)))))));clear hK15;clear F a;intro a F;refine wp_ret ?_;refine bRet results24 F rfl ?_
  refine ⟨⟨_,rfl,?_⟩,H.below⟩
  rw [prg_ext]
  first
  | (simp only [Bool.false_eq_true,false_iff];rintro ⟨e1,e2,e3,e4,e5,e6⟩;simp_all;done)
  | (have ht:p.threads=q.threads:=by
       refine List.ext_getElem? fun j=>?_
       by_cases hj:j < i
       · exact hsm j hj
       · rw [List.getElem?_eq_none (by omega),List.getElem?_eq_none (by omega)]
     have hn:p.name=q.name:=eq_of_toList (by simp_all)
     simp_all;done)
 refine sSk F rfl rfl (qSk rfl rfl (qSk rfl rfl (qSk rfl rfl (qSk rfl rfl (qPk rfl rfl rfl rfl (qMv rfl rfl rfl (qSk rfl rfl (qSk rfl rfl (qSk rfl rfl (qSk rfl rfl (qSk rfl rfl (qPk rfl rfl rfl rfl (qAs rfl rfl rfl (qNK hK15 ?_))))))))))))));clear hK15;clear F a;intro a F;refine wp_ret ?_;refine bRet results24 F rfl ?_
 refine ⟨⟨_,rfl,?_⟩,H.below⟩
 rw [prg_ext]
 first
 | (simp only [Bool.false_eq_true,false_iff];rintro ⟨e1,e2,e3,e4,e5,e6⟩;simp_all;done)
 | (have ht:p.threads=q.threads:=by
      refine List.ext_getElem? fun j=>?_
      by_cases hj:j < i
      · exact hsm j hj
      · rw [List.getElem?_eq_none (by omega),List.getElem?_eq_none (by omega)]
    have hn:p.name=q.name:=eq_of_toList (by simp_all)
    simp_all;done)
-- VsC
open Go.RowKit
set_option maxRecDepth 100000
section
variable {P:Program} {l:List Oper} {Q:Exit→Act→World→Prop} {N:Nat} {a:Act} {env:List (Nat × Value)} {rest:List Oper} {d:Tmp} {ty:TypeId} {pos:String} {af:Array Edge} {g:Option (Nat × Bool)} {w:World}
theorem sCvY {s t e:TypeId} {x:Operand} {A:Option Addr} {n c:Nat} {xs:List UInt8} (hs:P.underlying s=some (.slice e)) (he:P.underlying e=some (.int .u8)) (ht:P.underlying t=some .string) (F:Has N a env) (hg:wants l env g=true) (hN:Nat.blt d N=true)
   (hx:ev env x=some (.slice A n c)) (hn:n=xs.length) (hc:RowsAt w A 1 (xs.map fun x=>[b8 x]))
   (K:∀ a,Has N a ((d,.string ⟨xs.toArray⟩) :: env)→wpList P l.toArray Q rest a w):wpList P l.toArray Q (⟨some d,.convert s t x,ty,pos,af,g⟩ :: rest) a w:=by
 subst hn
 have h:(convert s t (.slice A xs.length c)).run P w = .ok (.string ⟨xs.toArray⟩) w:=by
   rcases Nat.eq_zero_or_pos xs.length with h0 | h0
   · obtain rfl:=List.eq_nil_of_length_eq_zero h0
     show (convert s t (.slice A 0 c)).run P w = .ok (.string ⟨#[]⟩) w
     rw [run_convert_bytes_string w s t e A 0 c hs he ht]
     cases A with
     | none=>rfl
     | some q=>
       have hl:=run_loadCells_list (P:=P) w q [] (fun j v hj=>by simp at hj)
       simp only [List.length_nil] at hl
       exact run_bytesToString (P:=P) w q 0 c [] hl
   · obtain ⟨b,o,rfl,_⟩:=mapAt hc (List.getElem?_eq_getElem h0)
     refine run_convert_bytes_back (P:=P) w s t e ⟨b,o,none⟩ c xs hs he ht (fun j hj=>?_)
     obtain ⟨b',o',he,hv⟩:=mapAt hc (List.getElem?_eq_getElem hj)
     cases he
     have:=hv 0 _ rfl
     rw [Nat.mul_one,Nat.add_zero] at this;rw [Addr.add_mid]
     exact this
 exact stepV F hg rfl hN (show (execOp a.eval ⟨some d,.convert s t x,ty,pos,af,g⟩).run P w = .ok (.value (.string ⟨xs.toArray⟩)) w by
   simp only [execOp,F.eval hx,Sem.run_bind,h,Result.andThen_ok]
   rfl) K
theorem qCvY {s t e:TypeId} {x:Operand} {A:Option Addr} {n c:Nat} {xs:List UInt8} (hs:P.underlying s=some (.slice e)) (he:P.underlying e=some (.int .u8)) (ht:P.underlying t=some .string) (hg:wants l env g=true) (hN:Nat.blt d N=true) (hx:ev env x=some (.slice A n c)) (hn:n=xs.length) (hc:RowsAt w A 1 (xs.map fun x=>[b8 x])) (K:∀ a,Has N a ((d,.string ⟨xs.toArray⟩) :: env)→wpList P l.toArray Q rest a w):∀ a,Has N a env→wpList P l.toArray Q (⟨some d,.convert s t x,ty,pos,af,g⟩ :: rest) a w:=fun a F=>sCvY hs he ht F hg hN hx hn hc K
end
-- WrO
open Go.Proofs.Tryz
open Go.RowKit
set_option maxRecDepth 100000
def PrintAns (p:Prg) (s:ByteArray) (n:Int):Prop:=
 16384 < (printT p).length∧s=⟨#[]⟩∧n=3∨(printT p).length≤16384∧parseT (mk (printT p)) ≠ .inr p∧s=⟨#[]⟩∧n=2∨(printT p).length≤16384∧parseT (mk (printT p)) = .inr p∧s=mk (printT p)∧n=0
theorem wr_new {W w:World} {rs:List Res} {b:Nat} {lv:Value} (H:Own W none w (.blk b [.slice none 0 0,.bool false,.bool false,lv] 58 :: rs)):WrAt W w (.nix :: rs) b lv ([],false):=
 ⟨none,0,[],false,false,((H.void (.rws 5 1 (.slice none 0 0) (bytC [])) (show w.ownsRow 0 5 1 (.slice none 0 0) 0 [] from ⟨by simp,.inl ⟨rfl,rfl⟩⟩) (fun c hc=>by cases (hc:(Value.slice none 0 0).ownBlock=some c))).nix.selT 3 [2,1,0] rfl rfl),Nat.zero_le _,.inl ⟨rfl,rfl,rfl⟩⟩
theorem bytC_one (l:List UInt8):∀ r ∈ bytC l,r.length=1:=by
 intro r hr
 unfold bytC at hr
 obtain ⟨x,_,rfl⟩:=List.mem_map.1 hr
 rfl
set_option maxHeartbeats 8000000 in
theorem print_any {w0:World} {cs:List Value} {p:Prg} {LA IA TA:Option Addr} {LC IC TC h:Nat} {ccs:List Value} (hp:ProgIn w0 cs p LA LC IA IC TA TC h ccs) (hs:∀ s ∈ p.locs,s.size≤140737488351232) (hn:p.name.size≤140737488351232) (hT:TenAt w0) :
   Calls Tryz.prog 10 #[.agg cs.toArray] w0 fun e w'=>(∃ s n,e = .returned (.tuple #[.string s,.int .i64 n])∧PrintAns p s n)∧Below w0.heap.size w0 w':=by
 have hp0:=hp
 obtain ⟨a1,a2,a3,a4,a5,a6,a7,rfl⟩:=condShape hp.cond
 have hcs:=hp.cs
 simp only [List.cons_append,List.nil_append] at hcs
 subst hcs
 have H:=Own.start w0 none
 refine enterF func10 rfl ntmps10 rfl (fun a F=>?_);refine cSR fun K1 hK1=>?_;refine sBx H F rfl rfl rfl ?_;clear F a H;intro b1 a w F H;refine sAs F rfl rfl rfl (qAs rfl rfl rfl (qNK hK1 (qSR fun K2 hK2=>qFa (f:=1) (k:=1) underlying29 rfl sizeOf22 rfl rfl rfl rfl rfl (qLd isAgg22 rfl rfl rfl (H.cell 0 rfl rfl) (qBd (places:=[(0,3),(3,1)]) zeroValue58 underlying58 (by kernel_rfl) rfl rfl rfl rfl ?_)))));clear hK1;clear F a;intro a F;refine sAl H zeroValue58 F rfl rfl ?_;clear F a H;intro b4 a w F H
 refine sSr H 0 ?si F rfl rfl rfl ?s1 rfl rfl ?_
 case si=>exact info_size sizeOf58
 case s1=>first | rfl | (repeat (first | exact one_nil | (apply one_cons;· first | rfl | assumption | exact one_bif rfl rfl)))
 clear H;intro w H;refine nK hK2 (cSR fun K3 hK3=>?_);clear hK2
 refine sLr underlying29 rfl ?si F rfl rfl rfl (H.whole 1 rfl) ?_
 case si=>exact info_size sizeOf29
 clear F a;intro a F;refine sCall call23 F rfl rfl rfl (program_any hp0 hs hn hT (wr_new H)) ?_;rintro e w ⟨rfl,hW⟩
 obtain ⟨A,C,tx,wi,lg,H,ht,hv⟩:=hW
 rw [progV_eq] at hv;refine ⟨_,rfl,?_⟩;clear F a;intro a F;refine nK hK3 ?_;clear hK3;refine cSeq (fun K4 hK4=>?_);refine cSR fun K5 hK5=>sFa (f:=0) (k:=0) underlying58 rfl sizeOf56 rfl rfl F rfl rfl rfl (qFa (f:=2) (k:=2) underlying56 rfl sizeOf4 rfl rfl rfl rfl rfl (qLd isAgg4 rfl rfl rfl (H.cell 0 rfl rfl) (qNK hK5 ?_)));clear hK5;clear F a;intro a F
 refine cIf F rfl (fun h16=>?_) (fun h16=>?_)
 ·
  have hlg:lg=true:=h16
  subst hlg;refine cSR fun K6 hK6=>sAs F rfl rfl rfl (qAs rfl rfl rfl (qNK hK6 ?_));clear hK6;clear F a;intro a F;refine wp_ret ?_;simp only [Exit.then];refine bRet2 results10 F rfl rfl ?_
  first
  | (rcases hv with ⟨h,_⟩ | ⟨_,h⟩
     · cases h
     · exact ⟨⟨_,_,rfl,.inl ⟨h,rfl,rfl⟩⟩,H.below⟩)
  | exact ⟨⟨_,_,rfl,.inr (.inl ⟨ht,fun e=>h29 (pparse_in hpp e).2.2,rfl,rfl⟩)⟩,H.below⟩
  | (have hne:parseT (mk (printT p)) ≠ .inr p:=by
       intro e
       rw [hpt] at e
       have e2:p=p2:=(Sum.inr.inj e).symm
       have hf:sb=false:=h34
       rw [hsb.2 e2] at hf
       cases hf
     exact ⟨⟨_,_,rfl,.inr (.inl ⟨ht,hne,rfl,rfl⟩)⟩,H.below⟩)
  | exact ⟨⟨_,_,rfl,.inr (.inr ⟨ht,by rw [hpt,(hsb.1 (by first | exact h34 | simpa using h34)).symm],rfl,rfl⟩)⟩,H.below⟩
 have hlg:lg=false:=h16
 subst hlg
 have htx:tx=printT p:=by
   rcases hv with ⟨_,h,_⟩ | ⟨h,_⟩
   · exact h
   · cases h
 subst htx
 have hsz:(mk (printT p)).size=(printT p).length:=mk_size _
 refine wp_skip (hK4 _ _ (cSR fun K7 hK7=>sFa (f:=0) (k:=0) underlying58 rfl sizeOf56 rfl rfl F rfl rfl rfl (qFa (f:=0) (k:=0) underlying56 rfl sizeOf23 rfl rfl rfl rfl rfl (qLd isAgg23 rfl rfl rfl (H.cell 0 rfl rfl) (qCvY (xs:=printT p) underlying23 underlying5 underlying9 rfl rfl rfl rfl ((H.rowsAt 1 rfl (bytC_one _) (by decide))) (qAs rfl rfl rfl (qNK hK7 ?_)))))));clear hK4 hK7;clear F a;intro a F;refine cSeq (fun K8 hK8=>?_);refine cSR fun K9 hK9=>sMv F rfl rfl rfl ?_;clear F a;intro a F;refine sCall call11 F rfl rfl rfl (pparse2_any (mk (printT p)) (by simp only [maxLen];omega) H) ?_;rintro e w ⟨p2,pl,er,mm,rfl,hh2,H,hpp⟩;refine ⟨_,rfl,?_⟩;clear F a;intro a F;refine sMv F rfl rfl rfl (qExt rfl rfl rfl rfl (qExt rfl rfl rfl rfl (qExt rfl rfl rfl rfl ?_)));clear F a;intro a F;refine sAl H zeroValue29 F rfl rfl ?_;clear F a H;intro b6 a w F H
 refine sSr H 0 ?si F rfl rfl rfl ?s1 rfl rfl ?_
 case si=>exact info_size sizeOf29
 case s1=>first | rfl | (repeat (first | exact one_nil | (apply one_cons;· first | rfl | assumption | exact one_bif rfl rfl)))
 clear H;intro w H;refine sAs F rfl rfl rfl (qAs rfl rfl rfl (qNK hK9 (qSR fun K10 hK10=>qMv rfl rfl rfl (qBin rfl rfl rfl rfl bNeq (qMv rfl rfl rfl ?_)))));clear hK9;clear F a;intro a F
 refine F.split 29 rfl ?_ ?_ <;> (clear F;intro h29 F)
 ·
  replace h29:=bneT h29;refine sSk F rfl rfl (qSk rfl rfl (qSk rfl rfl (qSk rfl rfl (qPk rfl rfl rfl rfl (qNK hK10 ?_)))));clear hK10;clear F a;intro a F;refine cIfT F rfl ?_;refine cSR fun K11 hK11=>sAs F rfl rfl rfl (qAs rfl rfl rfl (qNK hK11 ?_));clear hK11;clear F a;intro a F;refine wp_ret ?_;simp only [Exit.then];refine bRet2 results10 F rfl rfl ?_
  first
  | (rcases hv with ⟨h,_⟩ | ⟨_,h⟩
     · cases h
     · exact ⟨⟨_,_,rfl,.inl ⟨h,rfl,rfl⟩⟩,H.below⟩)
  | exact ⟨⟨_,_,rfl,.inr (.inl ⟨ht,fun e=>h29 (pparse_in hpp e).2.2,rfl,rfl⟩)⟩,H.below⟩
  | (have hne:parseT (mk (printT p)) ≠ .inr p:=by
       intro e
       rw [hpt] at e
       have e2:p=p2:=(Sum.inr.inj e).symm
       have hf:sb=false:=h34
       rw [hsb.2 e2] at hf
       cases hf
     exact ⟨⟨_,_,rfl,.inr (.inl ⟨ht,hne,rfl,rfl⟩)⟩,H.below⟩)
  | exact ⟨⟨_,_,rfl,.inr (.inr ⟨ht,by rw [hpt,(hsb.1 (by first | exact h34 | simpa using h34)).symm],rfl,rfl⟩)⟩,H.below⟩
 replace h29:=bneF h29
 have hpt:parseT (mk (printT p)) = .inr p2:=by
   rcases hpp with ⟨_,h,_⟩ | ⟨h,_⟩
   · exact absurd h29 h
   · exact h
 refine sLr underlying29 rfl ?si F rfl rfl rfl (H.whole 5 rfl) ?_
 case si=>exact info_size sizeOf29
 clear F a;intro a F
 refine sLr underlying29 rfl ?si F rfl rfl rfl (H.whole 0 rfl) ?_
 case si=>exact info_size sizeOf29
 clear F a;intro a F;refine sCall call24 F rfl rfl rfl (samePP_any _ _ p p2 _ _ _ _ _ _ _ _ _ _ _ _ _ _ _ _ _ (hp0.own H) (progIn_of (H.prw 1 rfl) (psz_of hpt))) ?_;rintro e w ⟨⟨sb,rfl,hsb⟩,hb⟩;replace H:=H.grow hb;clear hb;refine ⟨_,rfl,?_⟩;clear F a;intro a F;refine sNot F rfl rfl rfl (qPk rfl rfl rfl rfl (qNK hK10 ?_));clear hK10;clear F a;intro a F
 refine cIf F rfl (fun h34=>?_) (fun h34=>?_)
 ·
  replace h34:=notT h34;refine cSR fun K12 hK12=>sAs F rfl rfl rfl (qAs rfl rfl rfl (qNK hK12 ?_));clear hK12;clear F a;intro a F;refine wp_ret ?_;simp only [Exit.then];refine bRet2 results10 F rfl rfl ?_
  first
  | (rcases hv with ⟨h,_⟩ | ⟨_,h⟩
     · cases h
     · exact ⟨⟨_,_,rfl,.inl ⟨h,rfl,rfl⟩⟩,H.below⟩)
  | exact ⟨⟨_,_,rfl,.inr (.inl ⟨ht,fun e=>h29 (pparse_in hpp e).2.2,rfl,rfl⟩)⟩,H.below⟩
  | (have hne:parseT (mk (printT p)) ≠ .inr p:=by
       intro e
       rw [hpt] at e
       have e2:p=p2:=(Sum.inr.inj e).symm
       have hf:sb=false:=h34
       rw [hsb.2 e2] at hf
       cases hf
     exact ⟨⟨_,_,rfl,.inr (.inl ⟨ht,hne,rfl,rfl⟩)⟩,H.below⟩)
  | exact ⟨⟨_,_,rfl,.inr (.inr ⟨ht,by rw [hpt,(hsb.1 (by first | exact h34 | simpa using h34)).symm],rfl,rfl⟩)⟩,H.below⟩
 replace h34:=notF h34;refine wp_skip (hK8 _ _ (cSR fun K13 hK13=>sMv F rfl rfl rfl (qAs rfl rfl rfl (qAs rfl rfl rfl (qNK hK13 ?_)))));clear hK8 hK13;clear F a;intro a F;refine wp_ret ?_;refine bRet2 results10 F rfl rfl ?_
 first
 | (rcases hv with ⟨h,_⟩ | ⟨_,h⟩
    · cases h
    · exact ⟨⟨_,_,rfl,.inl ⟨h,rfl,rfl⟩⟩,H.below⟩)
 | exact ⟨⟨_,_,rfl,.inr (.inl ⟨ht,fun e=>h29 (pparse_in hpp e).2.2,rfl,rfl⟩)⟩,H.below⟩
 | (have hne:parseT (mk (printT p)) ≠ .inr p:=by
      intro e
      rw [hpt] at e
      have e2:p=p2:=(Sum.inr.inj e).symm
      have hf:sb=false:=h34
      rw [hsb.2 e2] at hf
      cases hf
    exact ⟨⟨_,_,rfl,.inr (.inl ⟨ht,hne,rfl,rfl⟩)⟩,H.below⟩)
 | exact ⟨⟨_,_,rfl,.inr (.inr ⟨ht,by rw [hpt,(hsb.1 (by first | exact h34 | simpa using h34)).symm],rfl,rfl⟩)⟩,H.below⟩
-- KtB
open Go.RowKit
variable {P:Program} {l:List Oper} {Q:Exit→Act→World→Prop} {N:Nat} {a:Act} {env:List (Nat × Value)} {rest:List Oper} {d:Tmp} {ty:TypeId} {pos:String} {af:Array Edge} {g:Option (Nat × Bool)}
 {w0 w:World} {row:Option Nat} {rs:List Res} {Kt:Act→World→Prop}
theorem app_none {t e ty:TypeId} {i:TypeInfo} {size n c:Nat} {v:Value} {xs:List Value} (ht:P.underlying t=some (.slice e)) (hi:P.info? e=some i) (ho:w.ownsRow 0 e size v n xs) :
   (Builtin.append_ #[t,t] ty #[v,.slice none 0 c]).run P w = .ok v w:=by
 rcases ho.2 with ⟨h1,h2⟩ | ⟨g,cap,cur,h1,_,_,hnc,_⟩
 · subst h1
   simp [Builtin.append_,run_underlying ht,sizeOf,typeInfo,hi,Builtin.lenOf,Builtin.firstCells]
 · subst h1
   simp [Builtin.append_,run_underlying ht,sizeOf,typeInfo,hi,Builtin.lenOf,Builtin.firstCells,hnc,storeCells]
theorem appO_run {t e:TypeId} {v:Value} {rows news:List (List Value)} {A0:Option Addr} {m c:Nat} {ti:TypeInfo} {z:Value} {sz bytes:Nat} (H:Own w0 row w rs) (i:Nat) (ht:P.underlying t=some (.slice e))
   (hi:∀ w,(typeInfo e).run P w = .ok ti w) (hz:ti.zero=some z) (hsize:ti.size=sz) (hby:ti.bytes=bytes) (hzs:z.cells.size=sz) (hsz:Nat.blt 0 sz=true) (hb1:Nat.blt 0 bytes=true)
   (hr:rs[i]? = some (.rws e sz v rows)) (hm:news.length=m) (hnews:RowsAt w A0 sz news) (hl:∀ r ∈ news,r.length=sz) (h1:∀ r ∈ news,r.all (·.oneCell')=true) (hb:(rows.length+m) * bytes≤140737488355328) (ty:TypeId) :
   ∃ A c' w',(Builtin.append_ #[t,t] ty #[v,.slice A0 m c]).run P w = .ok (.slice A (rows++news).length c') w'∧Own w0 row w' (rs.set i (.rws e sz (.slice A (rows++news).length c') (rows++news))):=by
 cases A0 with
 | some ad=>exact appM_run H i ht hi hz hsize hby hzs hsz hb1 hr hm (hnews.flat hl) hl h1 hb ty
 | none=>
   obtain rfl:news=[]:=by
     cases news with
     | nil=>rfl
     | cons r rs=>
       obtain ⟨b,o,he,_⟩:=hnews 0 r rfl
       cases he
   obtain rfl:0=m:=hm
   have ho:=H.arr i hr
   have h2:=app_none (ty:=ty) (c:=c) ht (info_of hi) ho
   obtain ⟨A,c',rfl⟩:∃ A c',v = .slice A rows.length c':=by
     rcases ho.2 with ⟨h2,h3⟩ | ⟨g,cap,cur,h2,_⟩
     · exact ⟨none,0,by rw [h3];exact h2⟩
     · exact ⟨_,cap,h2⟩
   have e2:rs.set i (.rws e sz (.slice A rows.length c') rows)=rs:=by
     obtain ⟨hi2,he⟩:=List.getElem?_eq_some_iff.1 hr
     rw [← he]
     exact List.set_getElem_self hi2
   refine ⟨A,c',w,?_,?_⟩
   · rw [List.append_nil];exact h2
   · rw [List.append_nil,e2];exact H
theorem oAppO {t e:TypeId} {s x:Operand} {v:Value} {rows news:List (List Value)} {A0:Option Addr} {m c:Nat} {ti:TypeInfo} {z:Value} {sz bytes:Nat} (H:Own w0 row w rs) (i:Nat) (ht:P.underlying t=some (.slice e))
   (hi:∀ w,(typeInfo e).run P w = .ok ti w) (hz:ti.zero=some z) (hsize:ti.size=sz) (hby:ti.bytes=bytes) (hzs:z.cells.size=sz) (hsz:Nat.blt 0 sz=true) (hb1:Nat.blt 0 bytes=true)
   (F:Has N a env) (hN:Nat.blt d N=true) (hs:ev env s=some v) (hx:ev env x=some (.slice A0 m c))
   (hr:rs[i]? = some (.rws e sz v rows)) (hm:news.length=m) (hnews:RowsAt w A0 sz news) (hl:∀ r ∈ news,r.length=sz) (h1:∀ r ∈ news,r.all (·.oneCell')=true) (hb:(rows.length+m) * bytes≤140737488355328)
   (K:∀ A c a w,Has N a ((d,.slice A (rows++news).length c) :: env)→Own w0 row w (rs.set i (.rws e sz (.slice A (rows++news).length c) (rows++news)))→Kt a w) :
   (Oper.mk (some d) (.call ⟨.builtin .append,#[s,x],#[t,t]⟩) ty pos af g).wp P a w Kt Q:=by
 obtain ⟨A,c',w',h2,h3⟩:=appO_run (P:=P) (c:=c) H i ht hi hz hsize hby hzs hsz hb1 hr hm hnews hl h1 hb ty
 exact oV F rfl hN (app_exec (ty':=ty) F hs hx h2) (fun a F'=>K A c' a w' F' h3)
-- CapC
open Go.RowKit
def CapAt (w:World):Nat→List Value→Cnd→Prop
 | 0,_,_=>False
 | h+1,cs,.mk k t n v kids=>∃ A C,cs=[b8 k,b8 t,b8 n,b8 v,.slice A kids.length C]∧kids.length≤C∧C≤9223372036854775807 ∧
     ∀ j kid,kids[j]? = some kid→∃ b off cs',A=some ⟨b,off,none⟩∧w.rangeAt b (off+j * 5) cs'∧CapAt w h cs' kid
theorem CapAt.at {w:World}:∀ {h:Nat} {cs:List Value} {c:Cnd},CapAt w h cs c→CondAt w h cs c
 | 0,_,_,h=>h
 | _+1,_,.mk _ _ _ _ _,⟨A,C,h1,h2,h3,h4⟩=>⟨A,C,h1,by omega,fun j kid hj=>by
   obtain ⟨b,off,cs',h5,h6,h7⟩:=h4 j kid hj
   exact ⟨b,off,cs',h5,h6,h7.at⟩⟩
theorem CapAt.grown {w w':World} {row:Option Nat} (hg:w.grownBy w' row) (hr:row=none):∀ (h:Nat) (cs:List Value) (c:Cnd),CapAt w h cs c→CapAt w' h cs c
 | 0,_,_,hc=>hc
 | h+1,cs,.mk k t n v kids,hc=>by
   obtain ⟨A,C,h1,h2,h2',h3⟩:=hc
   refine ⟨A,C,h1,h2,h2',fun j kid hj=>?_⟩
   obtain ⟨b,off,cs',h4,h5,h6⟩:=h3 j kid hj
   exact ⟨b,off,cs',h4,fun i u hu=>hg.cell (h5 i u hu) (by subst hr;simp),CapAt.grown hg hr h cs' kid h6⟩
theorem CapAt.own {w0 w:World} {rs:List Res} {h:Nat} {cs:List Value} {c:Cnd} (hc:CapAt w0 h cs c) (H:Own w0 none w rs):CapAt w h cs c:=hc.grown H.grown rfl
-- KtD
open Go.Proofs.Tryz
open Go.RowKit
set_option maxRecDepth 100000
mutual
def sizeC:Cnd→Nat
 | .mk _ _ _ _ l=>sizeL l+1
def sizeL:List Cnd→Nat
 | []=>0
 | c :: r=>sizeC c+sizeL r
end
theorem sizeL_append:∀ (a b:List Cnd),sizeL (a++b)=sizeL a+sizeL b
 | [],b=>by simp [sizeL]
 | c :: r,b=>by simp [sizeL,sizeL_append r b];omega
structure Trees (w:World) (rows:List (List Value)) (cs:List Cnd):Prop where
 len:rows.length=cs.length
 each:∀ (j:Nat) (r:List Value) (c:Cnd),rows[j]? = some r→cs[j]? = some c→∃ h,CapAt w h r c
theorem Trees.add {w:World} {ra rb:List (List Value)} {ca cb:List Cnd} (ha:Trees w ra ca) (hb:Trees w rb cb):Trees w (ra++rb) (ca++cb) where
 len:=by simp [ha.len,hb.len]
 each:=fun j r c h1 h2=>by
   rcases Nat.lt_or_ge j ra.length with hj | hj
   · rw [List.getElem?_append_left hj] at h1
     rw [List.getElem?_append_left (by rw [← ha.len];exact hj)] at h2
     exact ha.each j r c h1 h2
   · rw [List.getElem?_append_right hj] at h1
     rw [List.getElem?_append_right (by rw [← ha.len];exact hj),← ha.len] at h2
     exact hb.each _ r c h1 h2
theorem Trees.take {w:World} {ra:List (List Value)} {ca:List Cnd} (ha:Trees w ra ca) (n:Nat):Trees w (ra.take n) (ca.take n) where
 len:=by simp [ha.len]
 each:=fun j r c h1 h2=>by
   rw [List.getElem?_take] at h1 h2
   split at h1
   · rename_i hj
     rw [if_pos hj] at h2
     exact ha.each j r c h1 h2
   · cases h1
theorem Trees.one {w:World} {h:Nat} {r:List Value} {c:Cnd} (hc:CapAt w h r c):Trees w [r] [c] where
 len:=rfl
 each:=fun j r' c' h1 h2=>by
   match j with
   | 0=>cases h1;cases h2;exact ⟨h,hc⟩
   | j+1=>simp at h1
theorem Trees.shape {w:World} {rows:List (List Value)} {cs:List Cnd} (hT:Trees w rows cs):∀ r ∈ rows,r.length=5∧r.all (·.oneCell')=true:=fun r hr=>by
 obtain ⟨j,hj⟩:=List.mem_iff_getElem?.1 hr
 have hjl:=(List.getElem?_eq_some_iff.1 hj).1
 obtain ⟨h,hc⟩:=hT.each j r (cs[j]'(by rw [← hT.len];exact hjl)) hj (List.getElem?_eq_getElem _)
 obtain ⟨k,t,n,v,A,m,C,rfl⟩:=condShape hc.at
 exact ⟨rfl,rfl⟩
theorem RowsAt.taken {w:World} {A:Option Addr} {sz:Nat} {rows:List (List Value)} (h:RowsAt w A sz rows) (n:Nat):RowsAt w A sz (rows.take n):=fun j cs hj=>by
 rw [List.getElem?_take] at hj
 split at hj
 · exact h j cs hj
 · cases hj
theorem kidRows {w:World} {h:Nat} {A:Option Addr} {kids:List Cnd} (hk:∀ j kid,kids[j]? = some kid→∃ b off cs',A=some ⟨b,off,none⟩∧w.rangeAt b (off+j * 5) cs'∧CapAt w h cs' kid) :
   ∃ rows,RowsAt w A 5 rows∧Trees w rows kids:=by
 suffices key:∀ n,n≤kids.length→∃ rows:List (List Value),rows.length=n∧∀ j r,rows[j]? = some r→∃ kid b off,kids[j]? = some kid∧A=some ⟨b,off,none⟩∧w.rangeAt b (off+j * 5) r∧CapAt w h r kid by
   obtain ⟨rows,hl,hr⟩:=key kids.length (Nat.le_refl _)
   refine ⟨rows,fun j r hj=>?_,⟨hl,fun j r c h1 h2=>?_⟩⟩
   · obtain ⟨_,b,off,_,h1,h2,_⟩:=hr j r hj
     exact ⟨b,off,h1,h2⟩
   · obtain ⟨kid,_,_,h3,_,_,h4⟩:=hr j r h1
     rw [h2] at h3
     cases h3
     exact ⟨h,h4⟩
 intro n
 induction n with
 | zero=>exact fun _=>⟨[],rfl,fun j r h=>by simp at h⟩
 | succ n ih=>
   intro hn
   obtain ⟨rows,hl,hr⟩:=ih (by omega)
   obtain ⟨b,off,cs',h1,h2,h3⟩:=hk n (kids[n]'(by omega)) (List.getElem?_eq_getElem _)
   refine ⟨rows++[cs'],by simp [hl],fun j r hj=>?_⟩
   rcases Nat.lt_or_ge j n with hjn | hjn
   · rw [List.getElem?_append_left (by omega)] at hj
     exact hr j r hj
   · rw [List.getElem?_append_right (by omega)] at hj
     obtain rfl:j=n:=by
       rcases Nat.eq_or_lt_of_le hjn with e | e
       · exact e.symm
       · rw [List.getElem?_eq_none (by simp;omega)] at hj;cases hj
     rw [hl,Nat.sub_self] at hj
     cases hj
     exact ⟨_,b,off,List.getElem?_eq_getElem (by omega),h1,h2,h3⟩
theorem Own.rowsOf {w0 w:World} {row:Option Nat} {rs:List Res} {b sz:Nat} {e:TypeId} {rows:List (List Value)} (H:Own w0 row w (.blk b rows.flatten e :: rs)) (hl:rows.flatten.length=rows.length * sz) (hm:rows.length≤maxLen) :
   Own w0 row w (.rws e sz (.slice (some ⟨b,0,.none⟩) rows.length rows.length) rows :: rs):=
 H.seen _ (show w.ownsRow 0 e sz (.slice (some ⟨b,0,.none⟩) rows.length rows.length) rows.length rows.flatten from ⟨hl,.inr ⟨b,rows.length,rows.flatten.toArray,rfl,Nat.zero_le _,H.blk 0 rfl,Nat.le_refl _,hm,by simpa using hl,by rw [← hl];exact List.take_length⟩⟩)
   (fun c hc=>by
     have:b=c:=by simpa [Res.rws,Res.arr,Value.ownBlock] using hc
     exact this.symm)
set_option maxHeartbeats 4000000 in
theorem sizeCond_any (h most:Nat) (ccs:List Value) (c:Cnd) (w0:World) (hc:CapAt w0 h ccs c) (hm:0 < most) (hm2:most≤1000000) :
   Calls Tryz.prog 13 #[.agg ccs.toArray,.int .i64 (most:Int)] w0 fun e w'=>∃ n:Nat,e = .returned (.int .i64 (n:Int))∧n≤most∧(n < most→sizeC c=n)∧Below w0.heap.size w0 w':=by
 obtain ⟨c1,c2,c3,c4,A9,m9,C9,rfl⟩:=condShape hc.at
 have H:=Own.start w0 none
 refine enterF func13 rfl ntmps13 rfl (fun a F=>?_);refine cSR fun K1 hK1=>?_;refine sBx H F rfl rfl rfl ?_;clear F a H;intro b2 a w F H;refine sAs F rfl rfl rfl (qNK hK1 (qSR fun K2 hK2=>?_));clear hK1;clear F a;intro a F
 refine sLr underlying27 rfl ?si F rfl rfl rfl (H.whole 0 rfl) ?_
 case si=>exact info_size sizeOf27
 clear F a;intro a F;refine sBsA H underlying25 sizeOf27 zeroValue27 rfl F rfl rfl rfl rfl rfl ?_;clear F a H;intro b8 a w F H;refine sAs F rfl rfl rfl (qNK hK2 ?_);clear hK2;clear F a;intro a F;refine cSeq (fun K3 hK3=>?_);refine cSR fun K4 hK4=>sAs F rfl rfl rfl (qNK hK4 ?_);clear hK4;clear F a;intro a F;refine wp_block ?_
 refine cLoopR [1] (fun m ups w=>∃ (i:Nat) (A5:Option Addr) (k5:Nat) (rows:List (List Value)) (cs:List Cnd),m=most - i∧ups=[(5,.slice A5 rows.length k5),(6,.int .i64 ((i:Nat):Int))]∧Trees w0 rows cs∧i≤rows.length∧i≤most∧(rows.length < most→sizeC c=i+sizeL (cs.drop i))∧rows.length≤2 * most∧Own w0 none w [.rws 27 5 (.slice A5 rows.length k5) rows]) F (most) [(5,.slice (some ⟨b8,0,none⟩) 1 1),(6,.int .i64 ((0:Nat):Int))] (by repeat (first | exact SubR.nil | (apply SubR.cons;· rfl))) ?_ ?_ ?_
 · exact ⟨0,some ⟨b8,0,none⟩,1,[_],[c],rfl,rfl,.one hc,by simp,by omega,fun _=>by simp [sizeL],by simp;omega,(H.pick 0 rfl).rowsOf (rows:=[_]) rfl (show 1≤maxLen by decide)⟩
 · repeat (first | exact trivial | refine Le.cons rfl ?_)
 clear F
 clear H
 intro m ups a w hI F
 obtain ⟨i,A5,k5,rows,cs,rfl,rfl,hT,hi,him,hs,hb,H⟩:=hI
 have hsh:=hT.shape
 refine cSeq (fun K5 hK5=>?_);refine cSR fun K6 hK6=>sMv F rfl rfl rfl (qMv rfl rfl rfl (qLen underlying25 rfl rfl rfl (qBin rfl rfl rfl rfl bLss (qMv rfl rfl rfl ?_))));clear F a;intro a F
 refine F.split 13 rfl ?_ ?_ <;> (clear F;intro h13 F)
 ·
  replace h13:=of_decide_eq_true h13;refine sMv F rfl rfl rfl (qLen underlying25 rfl rfl rfl (qMv rfl rfl rfl (qBin rfl rfl rfl rfl bLss (qPk rfl rfl rfl rfl (qNK hK6 ?_)))));clear hK6;clear F a;intro a F
  refine cIf F rfl (fun h18=>?_) (fun h18=>?_)
  ·
   replace h18:=of_decide_eq_true h18
   have hil:i < rows.length:=by omega
   obtain ⟨r,hr⟩:∃ r,rows[i]? = some r:=⟨_,List.getElem?_eq_getElem hil⟩
   obtain ⟨x,hx⟩:∃ x,cs[i]? = some x:=⟨_,List.getElem?_eq_getElem (by rw [← hT.len];exact hil)⟩
   obtain ⟨h9,hc9⟩:=hT.each i r x hr hx
   obtain ⟨k',t',n',v',kids⟩:=x
   obtain ⟨h9,rfl⟩:∃ q,h9=q+1:=by
    cases h9 with
    | zero=>exact hc9.elim
    | succ q=>exact ⟨q,rfl⟩
   obtain ⟨KA,KC,rfl,hk1,hk2,hk3⟩:=hc9
   obtain ⟨krows,hkr,hkt⟩:=kidRows hk3
   have hksh:=hkt.shape
   have hkl:=hkt.len
   obtain ⟨bR,oR,rfl,_⟩:=H.rowsAt 0 rfl (fun r hr=>(hsh r hr).1) (by decide) i _ hr
   have hrow:∀ w,Own w0 none w [.rws 27 5 (.slice (some ⟨bR,oR,none⟩) rows.length k5) rows]→w.rangeAt bR (oR+i * 5) [Go.Proofs.YtkchaoajegkadaaGreatDoor.b8 k',Go.Proofs.YtkchaoajegkadaaGreatDoor.b8 t',Go.Proofs.YtkchaoajegkadaaGreatDoor.b8 n',Go.Proofs.YtkchaoajegkadaaGreatDoor.b8 v',.slice KA kids.length KC]:=fun w H=>by
    obtain ⟨_,_,he,hq⟩:=H.rowsAt 0 rfl (fun r hr=>(hsh r hr).1) (by decide) i _ hr
    cases he
    exact hq
   refine wp_skip (hK5 _ _ ?_);clear hK5;refine cSeq (fun K7 hK7=>?_);refine wp_block ?_;refine cRegRO (by kernel_rfl) H ?_;replace H:=H.drew;refine eTF 0 rfl (by kernel_rfl) F rfl rfl rfl (fun w=>rMv F rfl) H qq0 (qTF 1 rfl (by kernel_rfl) rfl rfl rfl (fun a F w=>rMv F rfl) H qq0 (qTF 2 rfl (by kernel_rfl) rfl rfl rfl (fun a F w=>rMv F rfl) H qq0 ?_));clear F a;intro a F
   refine eTakeF (k:=3) (i:=3) rfl (by kernel_rfl) F rfl rfl rfl (fun w=>rIx underlying25 sizeOf27 F rfl rfl ?_) H (fun _ _ _ h=>h) ?_
   focus (first | omega | decide | (simp;omega))
   clear F a;intro a F;refine eTF 4 rfl (by kernel_rfl) F rfl rfl rfl (fun w=>rFa (f:=4) (k:=_+4) underlying27 rfl sizeOf25 rfl rfl F rfl) H qq0 (qT 5 rfl (by kernel_rfl) rfl rfl rfl rfl (fun a F w H=>rLd isAgg25 F rfl (hrow _ H 4 _ rfl)) H qq0 (qTF 6 rfl (by kernel_rfl) rfl rfl rfl (fun a F w=>rMv F rfl) H qq0 (qTF 7 rfl (by kernel_rfl) rfl rfl rfl (fun a F w=>rMv F rfl) H qq0 ?_)));clear F a;intro a F
   refine eTakeF (k:=8) (i:=8) rfl (by kernel_rfl) F rfl rfl rfl (fun w=>rIx underlying25 sizeOf27 F rfl rfl ?_) H (fun _ _ _ h=>h) ?_
   focus (first | omega | decide | (simp;omega))
   clear F a;intro a F;refine eTF 9 rfl (by kernel_rfl) F rfl rfl rfl (fun w=>rFa (f:=4) (k:=_+4) underlying27 rfl sizeOf25 rfl rfl F rfl) H qq0 (qT 10 rfl (by kernel_rfl) rfl rfl rfl rfl (fun a F w H=>rLd isAgg25 F rfl (hrow _ H 4 _ rfl)) H qq0 (qT 11 rfl (by kernel_rfl) rfl rfl rfl rfl (fun a F w H=>rLen underlying25 F rfl) H qq0 (qTF 12 rfl (by kernel_rfl) rfl rfl rfl (fun a F w=>rMv F rfl) H qq0 (qT 13 rfl (by kernel_rfl) rfl rfl rfl rfl (fun a F w H=>rMinN F rfl rfl) H qq0 ?_))));clear F a;intro a F
   refine eTake (k:=14) (i:=14) rfl (by kernel_rfl) F rfl rfl rfl rfl (fun w H=>rSlH underlying25 (fun w=>⟨_,sizeOf27 w⟩) F rfl rfl ?_) H (fun _ _ _ h=>h) ?_
   focus (first | omega | decide | (simp;omega))
   clear F a;intro a F;refine eOne (k:=15) (i:=15) rfl (by kernel_rfl) F rfl (oAppO (bytes:=32) (sz:=5) H 0 underlying25 typeInfo27 rfl rfl rfl rfl rfl rfl F rfl rfl rfl rfl ?hm (((hkr.taken (min kids.length most)).own H)) ((fun r hr=>(hksh r (List.mem_of_mem_take hr)).1)) ((fun r hr=>(hksh r (List.mem_of_mem_take hr)).2)) ?hb ?_)
   case hm=>first | rfl | (simp;done) | omega | (simp only [List.length_take,List.length_map];omega) | (simp;omega)
   case hb=>exact ((by omega))
   clear F a H;intro A36 c36 a w F H;refine ePartO (by kernel_rfl) H ?_;refine eTF 16 rfl (by kernel_rfl) F rfl rfl rfl (fun w=>rAs F rfl) H qq0 ?_;clear F a;intro a F;refine eNil (k:=17) (by kernel_rfl) ?_;refine hK7 _ _ (cReg (sMv F rfl rfl rfl ?_));clear hK7;clear F a;intro a F
   refine sBin F rfl rfl rfl rfl (bAddN (j:=1) ?_) ?_
   focus omega
   clear F a;intro a F;refine sAs F rfl rfl rfl ?_;clear F a;intro a F;refine sNil ?_
   (have e:(rows++krows.take (min kids.length most)).length=rows.length+min kids.length most:=by rw [List.length_append,List.length_take];omega
    have hq:(rows++krows.take (min kids.length most)).length < most→sizeC c=i+1+sizeL ((cs++kids.take (min kids.length most)).drop (i+1)):=fun hlt=>by
     have e1:=hs (by omega)
     have hic:=(List.getElem?_eq_some_iff.1 hx).1
     rw [(List.drop_eq_getElem_cons hic),(List.getElem?_eq_some_iff.1 hx).2] at e1;rw [List.take_of_length_le (by omega),List.drop_append_of_le_length (by omega),sizeL_append,e1,sizeL,sizeC]
     omega
    exact ⟨_,by omega,_,⟨i+1,A36,c36,_,_,rfl,rfl,hT.add (hkt.take _),by omega,by omega,hq,by omega,H.sel [0] rfl rfl⟩,F.to (by repeat (first | exact trivial | refine Le.cons rfl ?_))⟩)
  replace h18:=of_decide_eq_false h18;refine wp_exit ?_;refine hK3 _ _ (cSR fun K8 hK8=>sMv F rfl rfl rfl (qLen underlying25 rfl rfl rfl (qMv rfl rfl rfl (qMinN rfl rfl rfl rfl (qAs rfl rfl rfl (qNK hK8 ?_))))));clear hK3 hK8;clear F a;intro a F;refine wp_ret ?_;refine bRet results13 F rfl ?_
  refine ⟨min rows.length most,rfl,by omega,fun hlt=>?_,H.below⟩
  have hlt2:rows.length < most:=by omega
  obtain rfl:i=rows.length:=Nat.le_antisymm hi (by omega)
  rw [hs hlt2,List.drop_eq_nil_of_le (by rw [hT.len];exact Nat.le_refl _),sizeL]
  omega
 replace h13:=of_decide_eq_false h13;refine sSk F rfl rfl (qSk rfl rfl (qSk rfl rfl (qSk rfl rfl (qPk rfl rfl rfl rfl (qNK hK6 ?_)))));clear hK6;clear F a;intro a F;refine cIfF F rfl ?_;refine wp_exit ?_;refine hK3 _ _ (cSR fun K9 hK9=>sMv F rfl rfl rfl (qLen underlying25 rfl rfl rfl (qMv rfl rfl rfl (qMinN rfl rfl rfl rfl (qAs rfl rfl rfl (qNK hK9 ?_))))));clear hK3 hK9;clear F a;intro a F;refine wp_ret ?_;refine bRet results13 F rfl ?_
 refine ⟨min rows.length most,rfl,by omega,fun hlt=>?_,H.below⟩
 have hlt2:rows.length < most:=by omega
 obtain rfl:i=rows.length:=Nat.le_antisymm hi (by omega)
 rw [hs hlt2,List.drop_eq_nil_of_le (by rw [hT.len];exact Nat.le_refl _),sizeL]
 omega
end Go.Proofs.YtkchaoajegkadaaGreatDoor
