/-
  WALK2. Package print: a program's text. Conditions: the program lies in the base world's memory; the laid table of powers of ten.
-/
import Derived.Test.YtkchaoajegkadaaGreatDoorWrM
set_option linter.unusedSimpArgs false
set_option linter.unusedVariables false
namespace Go.Proofs.YtkchaoajegkadaaGreatDoor
open Go.Proofs.Tryz
open Go.RowKit
set_option maxRecDepth 100000
def headV (v:WS) (p:Prg):WS:=lineW (wordsW v (wd [⟨#[116,101,115,116]⟩,p.name]))
def initV (v:WS) (p:Prg):WS:=if p.locs.length=0 then headV v p else lineW (initW p.init 0 (wordsW (headV v p) [[105,110,105,116]]) p.locs)
def thrV (v:WS) (p:Prg):WS:=p.threads.foldl (threadW p.locs) (initV v p)
def askV (v:WS) (p:Prg):WS:=wordsW (thrV v p) [askT p.ask]
def progV (v:WS) (p:Prg):WS:=lineW (wordsW (askV v p) (condWd p.locs p.cond))
theorem progV_eq (p:Prg):progV ([],false) p=progW p:=by
 unfold progV askV thrV initV headV progW wd
 simp only [List.map_cons,List.map_nil,toList_data]
theorem initW_some {init:List UInt8} {i:Nat} {u:WS} {x:ByteArray} {r:List ByteArray} {y:UInt8} (h:init[i]? = some y):initW init (i+1) (wordsW (wordsW u (wd [x,⟨#[61]⟩])) (wd [mk (numT y)])) r=initW init i u (x :: r):=by
 rw [show initW init i u (x :: r)=initW init (i+1) (match init[i]? with | some v=>wordsW (wordsW u [x.toList,[61]]) [numT v] | none=>wordsW u [x.toList,[61]]) r from rfl,h,toList_data]
 rfl
theorem initW_none {init:List UInt8} {i:Nat} {u:WS} {x:ByteArray} {r:List ByteArray} (h:init[i]? = none):initW init (i+1) (wordsW u (wd [x,⟨#[61]⟩])) r=initW init i u (x :: r):=by
 rw [show initW init i u (x :: r)=initW init (i+1) (match init[i]? with | some v=>wordsW (wordsW u [x.toList,[61]]) [numT v] | none=>wordsW u [x.toList,[61]]) r from rfl,h,toList_data]
 rfl
theorem threadW_if (locs:List ByteArray) (u:WS) (l:List Ins):threadW locs u l=if l.length=0 then codeW locs true (lineW (wordsW u [[116,104,114,101,97,100]])) l else lineW (codeW locs true (lineW (wordsW u [[116,104,114,101,97,100]])) l):=rfl
set_option maxHeartbeats 8000000 in
theorem program_any {W w0:World} {rs:List Res} {bp:Nat} {v:WS} {R:Res} {cs:List Value} {p:Prg} {LA IA TA:Option Addr} {LC IC TC h:Nat} {ccs:List Value} (hp:ProgIn W cs p LA LC IA IC TA TC h ccs) (hs:∀ s ∈ p.locs,s.size≤140737488351232) (hn:p.name.size≤140737488351232) (hT:TenAt W)
   (hW:WrAt W w0 (R :: rs) bp (.slice LA p.locs.length LC) v) :
   Calls Tryz.prog 23 #[.pointer (some ⟨bp,0,none⟩),.agg cs.toArray] w0 fun e w'=>e = .returned (.tuple #[])∧WrAt W w' (R :: rs) bp (.slice LA p.locs.length LC) (progV v p):=by
 have hR:Rd W R LA 1 (strC p.locs):=Rd.base R hp.locs
 obtain ⟨a1,a2,a3,a4,a5,a6,a7,rfl⟩:=condShape hp.cond
 have hcs:=hp.cs
 simp only [List.cons_append,List.nil_append] at hcs
 subst hcs
 have hl:=hp.locsN
 have n1:=hp.threadsN
 have n2:=hp.initN
 obtain ⟨A,C,tx,wi,lg,H,ht,hv⟩:=hW
 refine enterF func23 rfl ntmps23 rfl (fun a F=>?_);refine cSR fun K1 hK1=>?_;refine sBx H F rfl rfl rfl ?_;clear F a H;intro b3 a w F H;refine nK hK1 (cSR fun K2 hK2=>sMv F rfl rfl rfl (qFa (f:=0) (k:=0) underlying29 rfl sizeOf9 rfl rfl rfl rfl rfl (qLd isAgg9 rfl rfl rfl (H.cell 0 rfl rfl) ?_)));clear hK1;clear F a;intro a F;refine sBs H underlying22 sizeOf9 zeroValue9 rfl F rfl rfl rfl rfl rfl ?_;clear F a H;intro b11 a w F H;refine sCall call44 F rfl rfl rfl (wwords1 (v:=v) [⟨#[116,101,115,116]⟩,p.name] (by simp) (by intro s h;simp only [List.mem_cons,List.not_mem_nil,or_false] at h;rcases h with rfl | rfl;exact (show (4:Nat)≤140737488355328 by decide);omega) (H.selT 5 [0,2,3,4,1] rfl rfl) ht hv) ?_;rintro e w ⟨rfl,hW⟩
 obtain ⟨A1,C1,tx1,wi1,lg1,H,ht1,hv1⟩:=hW
 refine ⟨_,rfl,?_⟩;clear F a;intro a F;refine nK hK2 (cSR fun K3 hK3=>sMv F rfl rfl rfl (qNc rfl rfl rfl (qFa (f:=0) (k:=0) underlying58 rfl sizeOf56 rfl rfl rfl rfl rfl ?_)));clear hK2;clear F a;intro a F;refine sCall call45 F rfl rfl rfl (wnewline_any (v:=wordsW v (wd [⟨#[116,101,115,116]⟩,p.name])) ⟨A1,C1,tx1,wi1,lg1,H,ht1,hv1⟩) ?_;rintro e w ⟨rfl,hW⟩
 obtain ⟨A2,C2,tx2,wi2,lg2,H,ht2,hv2⟩:=hW
 refine ⟨_,rfl,?_⟩;clear F a;intro a F;refine nK hK3 ?_;clear hK3
 refine cSeqJ [0,3] (fun ups w=>ups=[]∧WrAt W w (R :: .blk b3 [.string p.name,.slice LA p.locs.length LC,.slice IA p.init.length IC,.slice TA p.threads.length TC,b8 p.ask,b8 a1,b8 a2,b8 a3,b8 a4,.slice a5 a6 a7] 29 :: rs) bp (.slice LA p.locs.length LC) (initV v p)) F (by repeat (first | exact SubR.nil | (apply SubR.cons;· rfl))) ?_ ?_
 ·
  refine cSR fun K4 hK4=>sFa (f:=1) (k:=1) underlying29 rfl sizeOf22 rfl rfl F rfl rfl rfl (qLd isAgg22 rfl rfl rfl (H.cell 3 rfl rfl) (qLen underlying22 rfl rfl rfl (qBin rfl rfl rfl rfl bGtr (qNK hK4 ?_))));clear hK4;clear F a;intro a F
  refine cIf F rfl (fun h20=>?_) (fun h20=>?_)
  ·
   replace h20:=of_decide_eq_true h20;refine cSR fun K5 hK5=>sMv F rfl rfl rfl ?_;clear F a;intro a F;refine sBs1 H underlying22 sizeOf9 zeroValue9 rfl F rfl rfl rfl rfl ?_;clear F a H;intro b22 a w F H;refine sCall call44 F rfl rfl rfl (wwords1 (v:=headV v p) [⟨#[105,110,105,116]⟩] (by simp) (by decide) H ht2 hv2) ?_;rintro e w ⟨rfl,hW⟩
   obtain ⟨A3,C3,tx3,wi3,lg3,H,ht3,hv3⟩:=hW
   refine ⟨_,rfl,?_⟩;clear F a;intro a F;refine nK hK5 ?_;clear hK5;refine cSeq (fun K6 hK6=>?_);refine cSR fun K7 hK7=>sFa (f:=1) (k:=1) underlying29 rfl sizeOf22 rfl rfl F rfl rfl rfl (qLd isAgg22 rfl rfl rfl (H.cell 3 rfl rfl) (qLen underlying22 rfl rfl rfl (qMv rfl rfl rfl (qNK hK7 ?_))));clear hK7;clear F a;intro a F;refine wp_block ?_
   refine cLoopR [0,3,25,26] (fun m ups w=>∃ (i:Nat) (u:WS),m=p.locs.length - i∧ups=[(27,.int .i64 ((i:Nat):Int))]∧i≤p.locs.length∧initW p.init i u (p.locs.drop i)=initW p.init 0 (wordsW (headV v p) [[105,110,105,116]]) p.locs∧WrAt W w (R :: .blk b3 [.string p.name,.slice LA p.locs.length LC,.slice IA p.init.length IC,.slice TA p.threads.length TC,b8 p.ask,b8 a1,b8 a2,b8 a3,b8 a4,.slice a5 a6 a7] 29 :: rs) bp (.slice LA p.locs.length LC) u) F (p.locs.length) [(27,.int .i64 ((0:Nat):Int))] (by repeat (first | exact SubR.nil | (apply SubR.cons;· rfl))) ?_ ?_ ?_
   · exact ⟨0,_,rfl,rfl,Nat.zero_le _,rfl,A3,C3,tx3,wi3,lg3,H,ht3,hv3⟩
   · repeat (first | exact trivial | refine Le.cons rfl ?_)
   clear F
   clear H
   intro m ups a w hI F
   obtain ⟨i,u,rfl,rfl,hi,hc,A4,C4,tx4,wi4,lg4,H,ht4,hv4⟩:=hI
   refine cSR fun K8 hK8=>sBin F rfl rfl rfl rfl bLss (qNK hK8 ?_);clear hK8;clear F a;intro a F;refine cSeq (fun K9 hK9=>?_)
   refine cIf F rfl (fun h28=>?_) (fun h28=>?_)
   ·
    replace h28:=of_decide_eq_true h28
    obtain ⟨x,hx⟩:∃ x,p.locs[i]? = some x:=⟨_,List.getElem?_eq_getElem (by omega)⟩
    have hxs:=hs x (List.mem_of_getElem? hx)
    have hdr:p.locs.drop i=x :: p.locs.drop (i+1):=by obtain ⟨h1,h2⟩:=List.getElem?_eq_some_iff.1 hx;rw [List.drop_eq_getElem_cons h1,h2]
    obtain ⟨sb,so,rfl,hr⟩:=hp.locs i [.string x] (by rw [List.getElem?_map,hx];rfl)
    refine wp_skip (hK9 _ _ ?_);clear hK9;refine cSeq (fun K10 hK10=>?_);refine wp_block ?_;refine cSR fun K11 hK11=>sMv F rfl rfl rfl ?_;clear F a;intro a F
    refine sIx underlying22 sizeOf9 F rfl rfl rfl rfl ?_ ?_
    focus (first | omega | decide | (simp;omega))
    clear F a;intro a F;refine sLd isAgg9 F rfl rfl rfl (H.arg (hr 0 _ rfl)) (qAs rfl rfl rfl (qAs rfl rfl rfl (qNK hK11 (qSR fun K12 hK12=>qMv rfl rfl rfl (qMv rfl rfl rfl ?_)))));clear hK11;clear F a;intro a F;refine sBs H underlying22 sizeOf9 zeroValue9 rfl F rfl rfl rfl rfl rfl ?_;clear F a H;intro b34 a w F H;refine sCall call44 F rfl rfl rfl (wwords1 (v:=u) [x,⟨#[61]⟩] (by simp) (by intro s h;simp only [List.mem_cons,List.not_mem_nil,or_false] at h;rcases h with rfl | rfl;omega;exact (show (1:Nat)≤140737488355328 by decide)) H ht4 hv4) ?_;rintro e w ⟨rfl,hW⟩
    obtain ⟨A5,C5,tx5,wi5,lg5,H,ht5,hv5⟩:=hW
    refine ⟨_,rfl,?_⟩;clear F a;intro a F;refine nK hK12 (cSR fun K13 hK13=>sMv F rfl rfl rfl (qFa (f:=2) (k:=2) underlying29 rfl sizeOf23 rfl rfl rfl rfl rfl (qLd isAgg23 rfl rfl rfl (H.cell 3 rfl rfl) (qLen underlying23 rfl rfl rfl (qBin rfl rfl rfl rfl bLss (qNK hK13 ?_))))));clear hK12 hK13;clear F a;intro a F
    refine cIf F rfl (fun h40=>?_) (fun h40=>?_)
    ·
     replace h40:=of_decide_eq_true h40
     obtain ⟨y,hy⟩:∃ y,p.init[i]? = some y:=⟨_,List.getElem?_eq_getElem (by omega)⟩
     obtain ⟨ib,io,rfl,hri⟩:=hp.init i [b8 y] (by rw [List.getElem?_map,hy];rfl)
     refine cReg (sMv F rfl rfl rfl (qFa (f:=2) (k:=2) underlying29 rfl sizeOf23 rfl rfl rfl rfl rfl (qLd isAgg23 rfl rfl rfl (H.cell 3 rfl rfl) (qMv rfl rfl rfl ?_))));clear F a;intro a F
     refine sIx underlying23 sizeOf5 F rfl rfl rfl rfl ?_ ?_
     focus (first | omega | decide | (simp;omega))
     clear F a;intro a F;refine sLd isAgg5 F rfl rfl rfl (H.arg (hri 0 _ rfl)) ?_;clear F a;intro a F;refine sCall call46 F rfl rfl rfl (wnum_any y _ (hT.below H.below)) ?_;rintro e w ⟨rfl,hb⟩;replace H:=H.grow hb;clear hb;refine ⟨_,rfl,?_⟩;clear F a;intro a F;refine sBs1 H underlying22 sizeOf9 zeroValue9 rfl F rfl rfl rfl rfl ?_;clear F a H;intro b48 a w F H;refine sCall call44 F rfl rfl rfl (wwords1 (v:=wordsW u (wd [x,⟨#[61]⟩])) [mk (numT y)] (by simp) (by intro s h;simp only [List.mem_cons,List.not_mem_nil,or_false] at h;rw [h,mk_size];have:=numT_len y;omega) H ht5 hv5) ?_;rintro e w ⟨rfl,hW⟩
     obtain ⟨A6,C6,tx6,wi6,lg6,H,ht6,hv6⟩:=hW
     refine ⟨_,rfl,?_⟩;clear F a;intro a F;refine nK hK10 (cReg ?_);clear hK10
     refine sBin F rfl rfl rfl rfl (bAddN (j:=1) ?_) ?_
     focus omega
     clear F a;intro a F;refine sMv F rfl rfl rfl ?_;clear F a;intro a F;refine sNil ?_
     first
     | exact ⟨_,by omega,_,⟨i+1,_,rfl,rfl,by omega,by rw [initW_some hy,← hc,hdr],A6,C6,tx6,wi6,lg6,H,ht6,hv6⟩,F.to (by repeat (first | exact trivial | refine Le.cons rfl ?_))⟩
     | exact ⟨_,by omega,_,⟨i+1,_,rfl,rfl,by omega,by rw [initW_none hy,← hc,hdr],A5,C5,tx5,wi5,lg5,H,ht5,hv5⟩,F.to (by repeat (first | exact trivial | refine Le.cons rfl ?_))⟩
    replace h40:=of_decide_eq_false h40
    have hy:p.init[i]? = none:=List.getElem?_eq_none (by omega)
    refine wp_skip (hK10 _ _ (cReg ?_));clear hK10
    refine sBin F rfl rfl rfl rfl (bAddN (j:=1) ?_) ?_
    focus omega
    clear F a;intro a F;refine sMv F rfl rfl rfl ?_;clear F a;intro a F;refine sNil ?_
    first
    | exact ⟨_,by omega,_,⟨i+1,_,rfl,rfl,by omega,by rw [initW_some hy,← hc,hdr],A6,C6,tx6,wi6,lg6,H,ht6,hv6⟩,F.to (by repeat (first | exact trivial | refine Le.cons rfl ?_))⟩
    | exact ⟨_,by omega,_,⟨i+1,_,rfl,rfl,by omega,by rw [initW_none hy,← hc,hdr],A5,C5,tx5,wi5,lg5,H,ht5,hv5⟩,F.to (by repeat (first | exact trivial | refine Le.cons rfl ?_))⟩
   replace h28:=of_decide_eq_false h28;refine wp_exit ?_;refine hK6 _ _ (cReg (sMv F rfl rfl rfl (qNc rfl rfl rfl (qFa (f:=0) (k:=0) underlying58 rfl sizeOf56 rfl rfl rfl rfl rfl ?_))));clear hK6;clear F a;intro a F;refine sCall call45 F rfl rfl rfl (wnewline_any (v:=u) ⟨A4,C4,tx4,wi4,lg4,H,ht4,hv4⟩) ?_;rintro e w ⟨rfl,hW⟩
   obtain ⟨A3,C3,tx3,wi3,lg3,H,ht3,hv3⟩:=hW
   refine ⟨_,rfl,?_⟩;clear F a;intro a F;refine sNil ?_
   first
   | (have hu:lineW u=initV v p:=by
        have hne:¬ p.locs.length=0:=by omega
        rw [initV,if_neg hne,← hc,List.drop_eq_nil_of_le (by omega)];rfl
      rw [hu] at hv3
      exact ⟨_,⟨rfl,A3,C3,tx3,wi3,lg3,H,ht3,hv3⟩,F.to (by repeat (first | exact trivial | refine Le.cons rfl ?_))⟩)
   | (have hu:lineW (wordsW v (wd [⟨#[116,101,115,116]⟩,p.name]))=initV v p:=by
        have hz:p.locs.length=0:=by omega
        rw [initV,if_pos hz];rfl
      rw [hu] at hv2
      exact ⟨_,⟨rfl,A2,C2,tx2,wi2,lg2,H,ht2,hv2⟩,F.to (by repeat (first | exact trivial | refine Le.cons rfl ?_))⟩)
  replace h20:=of_decide_eq_false h20;refine wp_skip ?_
  first
  | (have hu:lineW u=initV v p:=by
       have hne:¬ p.locs.length=0:=by omega
       rw [initV,if_neg hne,← hc,List.drop_eq_nil_of_le (by omega)];rfl
     rw [hu] at hv3
     exact ⟨_,⟨rfl,A3,C3,tx3,wi3,lg3,H,ht3,hv3⟩,F.to (by repeat (first | exact trivial | refine Le.cons rfl ?_))⟩)
  | (have hu:lineW (wordsW v (wd [⟨#[116,101,115,116]⟩,p.name]))=initV v p:=by
       have hz:p.locs.length=0:=by omega
       rw [initV,if_pos hz];rfl
     rw [hu] at hv2
     exact ⟨_,⟨rfl,A2,C2,tx2,wi2,lg2,H,ht2,hv2⟩,F.to (by repeat (first | exact trivial | refine Le.cons rfl ?_))⟩)
 clear F H
 intro ups a w hI F
 obtain ⟨rfl,A7,C7,tx7,wi7,lg7,H,ht7,hv7⟩:=hI
 refine cSeq (fun K14 hK14=>?_);refine cSR fun K15 hK15=>sFa (f:=3) (k:=3) underlying29 rfl sizeOf24 rfl rfl F rfl rfl rfl (qLd isAgg24 rfl rfl rfl (H.cell 3 rfl rfl) (qLen underlying24 rfl rfl rfl (qMv rfl rfl rfl (qNK hK15 ?_))));clear hK15;clear F a;intro a F;refine wp_block ?_
 refine cLoopR [0,3,56,57] (fun m ups w=>∃ (i:Nat) (u:WS),m=p.threads.length - i∧ups=[(58,.int .i64 ((i:Nat):Int))]∧i≤p.threads.length∧(p.threads.drop i).foldl (threadW p.locs) u=thrV v p∧WrAt W w (R :: .blk b3 [.string p.name,.slice LA p.locs.length LC,.slice IA p.init.length IC,.slice TA p.threads.length TC,b8 p.ask,b8 a1,b8 a2,b8 a3,b8 a4,.slice a5 a6 a7] 29 :: rs) bp (.slice LA p.locs.length LC) u) F (p.threads.length) [(58,.int .i64 ((0:Nat):Int))] (by repeat (first | exact SubR.nil | (apply SubR.cons;· rfl))) ?_ ?_ ?_
 · exact ⟨0,_,rfl,rfl,Nat.zero_le _,rfl,A7,C7,tx7,wi7,lg7,H,ht7,hv7⟩
 · repeat (first | exact trivial | refine Le.cons rfl ?_)
 clear F
 clear H
 intro m ups a w hI F
 obtain ⟨i,u,rfl,rfl,hi,hc,A8,C8,tx8,wi8,lg8,H,ht8,hv8⟩:=hI
 refine cSR fun K16 hK16=>sBin F rfl rfl rfl rfl bLss (qNK hK16 ?_);clear hK16;clear F a;intro a F;refine cSeq (fun K17 hK17=>?_)
 refine cIf F rfl (fun h59=>?_) (fun h59=>?_)
 ·
  replace h59:=of_decide_eq_true h59
  obtain ⟨x,hx⟩:∃ x,p.threads[i]? = some x:=⟨_,List.getElem?_eq_getElem (by omega)⟩
  have hdr:p.threads.drop i=x :: p.threads.drop (i+1):=by obtain ⟨h1,h2⟩:=List.getElem?_eq_some_iff.1 hx;rw [List.drop_eq_getElem_cons h1,h2]
  obtain ⟨tb,to,XA,XC,rfl,htc,hrx,hxs⟩:=hp.threads i x hx
  have hR2:Rd W .nix XA 10 (x.map Ins.cells):=Rd.base .nix hrx
  refine wp_skip (hK17 _ _ ?_);clear hK17;refine cSeq (fun K18 hK18=>?_);refine wp_block ?_;refine cSR fun K19 hK19=>?_
  refine sIx underlying24 sizeOf52 F rfl rfl rfl rfl ?_ ?_
  focus (first | omega | decide | (simp;omega))
  clear F a;intro a F;refine sLd isAgg52 F rfl rfl rfl (H.arg htc) (qAs rfl rfl rfl (qNK hK19 (qSR fun K20 hK20=>qMv rfl rfl rfl ?_)));clear hK19;clear F a;intro a F;refine sBs1 H underlying22 sizeOf9 zeroValue9 rfl F rfl rfl rfl rfl ?_;clear F a H;intro b63 a w F H;refine sCall call44 F rfl rfl rfl (wwords1 (v:=u) [⟨#[116,104,114,101,97,100]⟩] (by simp) (by decide) H ht8 hv8) ?_;rintro e w ⟨rfl,hW⟩
  obtain ⟨A9,C9,tx9,wi9,lg9,H,ht9,hv9⟩:=hW
  refine ⟨_,rfl,?_⟩;clear F a;intro a F;refine nK hK20 (cSR fun K21 hK21=>sMv F rfl rfl rfl (qNc rfl rfl rfl (qFa (f:=0) (k:=0) underlying58 rfl sizeOf56 rfl rfl rfl rfl rfl ?_)));clear hK20;clear F a;intro a F;refine sCall call45 F rfl rfl rfl (wnewline_any (v:=wordsW u [[116,104,114,101,97,100]]) ⟨A9,C9,tx9,wi9,lg9,H,ht9,hv9⟩) ?_;rintro e w ⟨rfl,hW⟩
  obtain ⟨A3,C3,tx3,wi3,lg3,H,ht3,hv3⟩:=hW
  refine ⟨_,rfl,?_⟩;clear F a;intro a F;refine nK hK21 (cSR fun K22 hK22=>sMv F rfl rfl rfl (qMv rfl rfl rfl ?_));clear hK21;clear F a;intro a F;refine sCall call31 F rfl rfl rfl (instrs_any x hR2 hxs hl hs hR hT (v:=lineW (wordsW u [[116,104,114,101,97,100]])) ⟨A3,C3,tx3,wi3,lg3,H.nix.selT 5 [1,2,3,0,4] rfl rfl,ht3,hv3⟩) ?_;rintro e w ⟨rfl,hW⟩
  obtain ⟨A4,C4,tx4,wi4,lg4,H,ht4,hv4⟩:=hW
  refine ⟨_,rfl,?_⟩;clear F a;intro a F;refine nK hK22 (cSR fun K23 hK23=>sMv F rfl rfl rfl (qLen underlying52 rfl rfl rfl (qBin rfl rfl rfl rfl bGtr (qNK hK23 ?_))));clear hK22 hK23;clear F a;intro a F
  refine cIf F rfl (fun h74=>?_) (fun h74=>?_)
  ·
   replace h74:=of_decide_eq_true h74;refine cReg (sMv F rfl rfl rfl (qNc rfl rfl rfl (qFa (f:=0) (k:=0) underlying58 rfl sizeOf56 rfl rfl rfl rfl rfl ?_)));clear F a;intro a F;refine sCall call45 F rfl rfl rfl (wnewline_any (v:=codeW p.locs true (lineW (wordsW u [[116,104,114,101,97,100]])) x) ⟨A4,C4,tx4,wi4,lg4,H,ht4,hv4⟩) ?_;rintro e w ⟨rfl,hW⟩
   obtain ⟨A5,C5,tx5,wi5,lg5,H,ht5,hv5⟩:=hW
   refine ⟨_,rfl,?_⟩;clear F a;intro a F;refine nK hK18 (cReg ?_);clear hK18
   refine sBin F rfl rfl rfl rfl (bAddN (j:=1) ?_) ?_
   focus omega
   clear F a;intro a F;refine sMv F rfl rfl rfl ?_;clear F a;intro a F;refine sNil ?_
   first
   | exact ⟨_,by omega,_,⟨i+1,_,rfl,rfl,by omega,by rw [← hc,hdr,List.foldl_cons,threadW_if,if_neg (by omega)],A5,C5,tx5,wi5,lg5,H.selT 5 [0,1,2,4] rfl rfl,ht5,hv5⟩,F.to (by repeat (first | exact trivial | refine Le.cons rfl ?_))⟩
   | exact ⟨_,by omega,_,⟨i+1,_,rfl,rfl,by omega,by rw [← hc,hdr,List.foldl_cons,threadW_if,if_pos (by omega)],A4,C4,tx4,wi4,lg4,H.selT 5 [0,1,2,4] rfl rfl,ht4,hv4⟩,F.to (by repeat (first | exact trivial | refine Le.cons rfl ?_))⟩
  replace h74:=of_decide_eq_false h74;refine wp_skip (hK18 _ _ (cReg ?_));clear hK18
  refine sBin F rfl rfl rfl rfl (bAddN (j:=1) ?_) ?_
  focus omega
  clear F a;intro a F;refine sMv F rfl rfl rfl ?_;clear F a;intro a F;refine sNil ?_
  first
  | exact ⟨_,by omega,_,⟨i+1,_,rfl,rfl,by omega,by rw [← hc,hdr,List.foldl_cons,threadW_if,if_neg (by omega)],A5,C5,tx5,wi5,lg5,H.selT 5 [0,1,2,4] rfl rfl,ht5,hv5⟩,F.to (by repeat (first | exact trivial | refine Le.cons rfl ?_))⟩
  | exact ⟨_,by omega,_,⟨i+1,_,rfl,rfl,by omega,by rw [← hc,hdr,List.foldl_cons,threadW_if,if_pos (by omega)],A4,C4,tx4,wi4,lg4,H.selT 5 [0,1,2,4] rfl rfl,ht4,hv4⟩,F.to (by repeat (first | exact trivial | refine Le.cons rfl ?_))⟩
 replace h59:=of_decide_eq_false h59
 have hu:u=thrV v p:=by rw [← hc,List.drop_eq_nil_of_le (by omega)];rfl
 rw [hu] at hv8;refine wp_exit ?_;refine hK14 _ _ ?_;clear hK14
 refine cSeqJ [0,3] (fun ups w=>ups=[]∧WrAt W w (R :: .blk b3 [.string p.name,.slice LA p.locs.length LC,.slice IA p.init.length IC,.slice TA p.threads.length TC,b8 p.ask,b8 a1,b8 a2,b8 a3,b8 a4,.slice a5 a6 a7] 29 :: rs) bp (.slice LA p.locs.length LC) (askV v p)) F (by repeat (first | exact SubR.nil | (apply SubR.cons;· rfl))) ?_ ?_
 ·
  refine cSR fun K24 hK24=>sFa (f:=4) (k:=4) underlying29 rfl sizeOf5 rfl rfl F rfl rfl rfl (qLd isAgg5 rfl rfl rfl (H.cell 3 rfl rfl) (qNK hK24 ?_));clear hK24;clear F a;intro a F;refine wp_block ?_;refine cSR fun K25 hK25=>sBin F rfl rfl rfl rfl (bEqlB (y:=1)) (qAs rfl rfl rfl (qNK hK25 ?_));clear hK25;clear F a;intro a F
  refine cIf F rfl (fun h85=>?_) (fun h85=>?_)
  ·
   replace h85:=beqT h85
   have e1:p.ask=1:=h85
   refine cReg (sMv F rfl rfl rfl ?_);clear F a;intro a F;refine sBs1 H underlying22 sizeOf9 zeroValue9 rfl F rfl rfl rfl rfl ?_;clear F a H;intro b88 a w F H;refine sCall call44 F rfl rfl rfl (wwords1 (v:=thrV v p) [⟨#[115,111,109,101]⟩] (by simp) (by decide) H ht8 hv8) ?_;rintro e w ⟨rfl,hW⟩
   obtain ⟨A9,C9,tx9,wi9,lg9,H,ht9,hv9⟩:=hW
   refine ⟨_,rfl,?_⟩;clear F a;intro a F;refine sNil ?_
   first
   | exact ⟨_,⟨rfl,A9,C9,tx9,wi9,lg9,H,ht9,by rw [askV,askT,if_pos e1];exact hv9⟩,F.to (by repeat (first | exact trivial | refine Le.cons rfl ?_))⟩
   | exact ⟨_,⟨rfl,A9,C9,tx9,wi9,lg9,H,ht9,by rw [askV,askT,if_neg f1,if_pos e2];exact hv9⟩,F.to (by repeat (first | exact trivial | refine Le.cons rfl ?_))⟩
   | exact ⟨_,⟨rfl,A9,C9,tx9,wi9,lg9,H,ht9,by rw [askV,askT,if_neg f1,if_neg f2,if_pos e3];exact hv9⟩,F.to (by repeat (first | exact trivial | refine Le.cons rfl ?_))⟩
   | exact ⟨_,⟨rfl,A9,C9,tx9,wi9,lg9,H,ht9,by rw [askV,askT,if_neg f1,if_neg f2,if_neg f3];exact hv9⟩,F.to (by repeat (first | exact trivial | refine Le.cons rfl ?_))⟩
  replace h85:=beqF h85
  have f1:¬ p.ask=1:=h85
  refine cSR fun K26 hK26=>sBin F rfl rfl rfl rfl (bEqlB (y:=2)) (qAs rfl rfl rfl (qNK hK26 ?_));clear hK26;clear F a;intro a F
  refine cIf F rfl (fun h90=>?_) (fun h90=>?_)
  ·
   replace h90:=beqT h90
   have e2:p.ask=2:=h90
   refine cReg (sMv F rfl rfl rfl ?_);clear F a;intro a F;refine sBs1 H underlying22 sizeOf9 zeroValue9 rfl F rfl rfl rfl rfl ?_;clear F a H;intro b93 a w F H;refine sCall call44 F rfl rfl rfl (wwords1 (v:=thrV v p) [⟨#[110,111,110,101]⟩] (by simp) (by decide) H ht8 hv8) ?_;rintro e w ⟨rfl,hW⟩
   obtain ⟨A9,C9,tx9,wi9,lg9,H,ht9,hv9⟩:=hW
   refine ⟨_,rfl,?_⟩;clear F a;intro a F;refine sNil ?_
   first
   | exact ⟨_,⟨rfl,A9,C9,tx9,wi9,lg9,H,ht9,by rw [askV,askT,if_pos e1];exact hv9⟩,F.to (by repeat (first | exact trivial | refine Le.cons rfl ?_))⟩
   | exact ⟨_,⟨rfl,A9,C9,tx9,wi9,lg9,H,ht9,by rw [askV,askT,if_neg f1,if_pos e2];exact hv9⟩,F.to (by repeat (first | exact trivial | refine Le.cons rfl ?_))⟩
   | exact ⟨_,⟨rfl,A9,C9,tx9,wi9,lg9,H,ht9,by rw [askV,askT,if_neg f1,if_neg f2,if_pos e3];exact hv9⟩,F.to (by repeat (first | exact trivial | refine Le.cons rfl ?_))⟩
   | exact ⟨_,⟨rfl,A9,C9,tx9,wi9,lg9,H,ht9,by rw [askV,askT,if_neg f1,if_neg f2,if_neg f3];exact hv9⟩,F.to (by repeat (first | exact trivial | refine Le.cons rfl ?_))⟩
  replace h90:=beqF h90
  have f2:¬ p.ask=2:=h90
  refine cSR fun K27 hK27=>sBin F rfl rfl rfl rfl (bEqlB (y:=3)) (qAs rfl rfl rfl (qNK hK27 ?_));clear hK27;clear F a;intro a F
  refine cIf F rfl (fun h95=>?_) (fun h95=>?_)
  ·
   replace h95:=beqT h95
   have e3:p.ask=3:=h95
   refine cReg (sMv F rfl rfl rfl ?_);clear F a;intro a F;refine sBs1 H underlying22 sizeOf9 zeroValue9 rfl F rfl rfl rfl rfl ?_;clear F a H;intro b98 a w F H;refine sCall call44 F rfl rfl rfl (wwords1 (v:=thrV v p) [⟨#[97,108,108]⟩] (by simp) (by decide) H ht8 hv8) ?_;rintro e w ⟨rfl,hW⟩
   obtain ⟨A9,C9,tx9,wi9,lg9,H,ht9,hv9⟩:=hW
   refine ⟨_,rfl,?_⟩;clear F a;intro a F;refine sNil ?_
   first
   | exact ⟨_,⟨rfl,A9,C9,tx9,wi9,lg9,H,ht9,by rw [askV,askT,if_pos e1];exact hv9⟩,F.to (by repeat (first | exact trivial | refine Le.cons rfl ?_))⟩
   | exact ⟨_,⟨rfl,A9,C9,tx9,wi9,lg9,H,ht9,by rw [askV,askT,if_neg f1,if_pos e2];exact hv9⟩,F.to (by repeat (first | exact trivial | refine Le.cons rfl ?_))⟩
   | exact ⟨_,⟨rfl,A9,C9,tx9,wi9,lg9,H,ht9,by rw [askV,askT,if_neg f1,if_neg f2,if_pos e3];exact hv9⟩,F.to (by repeat (first | exact trivial | refine Le.cons rfl ?_))⟩
   | exact ⟨_,⟨rfl,A9,C9,tx9,wi9,lg9,H,ht9,by rw [askV,askT,if_neg f1,if_neg f2,if_neg f3];exact hv9⟩,F.to (by repeat (first | exact trivial | refine Le.cons rfl ?_))⟩
  replace h95:=beqF h95
  have f3:¬ p.ask=3:=h95
  refine cReg (sMv F rfl rfl rfl ?_);clear F a;intro a F;refine sBs1 H underlying22 sizeOf9 zeroValue9 rfl F rfl rfl rfl rfl ?_;clear F a H;intro b83 a w F H;refine sCall call44 F rfl rfl rfl (wwords1 (v:=thrV v p) [⟨#[63]⟩] (by simp) (by decide) H ht8 hv8) ?_;rintro e w ⟨rfl,hW⟩
  obtain ⟨A9,C9,tx9,wi9,lg9,H,ht9,hv9⟩:=hW
  refine ⟨_,rfl,?_⟩;clear F a;intro a F;refine sNil ?_
  first
  | exact ⟨_,⟨rfl,A9,C9,tx9,wi9,lg9,H,ht9,by rw [askV,askT,if_pos e1];exact hv9⟩,F.to (by repeat (first | exact trivial | refine Le.cons rfl ?_))⟩
  | exact ⟨_,⟨rfl,A9,C9,tx9,wi9,lg9,H,ht9,by rw [askV,askT,if_neg f1,if_pos e2];exact hv9⟩,F.to (by repeat (first | exact trivial | refine Le.cons rfl ?_))⟩
  | exact ⟨_,⟨rfl,A9,C9,tx9,wi9,lg9,H,ht9,by rw [askV,askT,if_neg f1,if_neg f2,if_pos e3];exact hv9⟩,F.to (by repeat (first | exact trivial | refine Le.cons rfl ?_))⟩
  | exact ⟨_,⟨rfl,A9,C9,tx9,wi9,lg9,H,ht9,by rw [askV,askT,if_neg f1,if_neg f2,if_neg f3];exact hv9⟩,F.to (by repeat (first | exact trivial | refine Le.cons rfl ?_))⟩
 clear F H
 intro ups a w hI F
 obtain ⟨rfl,A1,C1,tx1,wi1,lg1,H,ht1,hv1⟩:=hI
 refine cSR fun K28 hK28=>sMv F rfl rfl rfl (qFa (f:=5) (k:=5) underlying29 rfl sizeOf27 rfl rfl rfl rfl rfl ?_);clear F a;intro a F
 refine sLr underlying27 rfl ?si F rfl rfl rfl (H.range 3 rfl _ 5) ?_
 case si=>exact info_size sizeOf27
 clear F a;intro a F;refine sCall call33 F rfl rfl rfl (cond_of hl hs hR hT h _ _ (askV v p) _ p.cond hp.cond ⟨A1,C1,tx1,wi1,lg1,H,ht1,hv1⟩) ?_;rintro e w ⟨rfl,hW⟩
 obtain ⟨A2,C2,tx2,wi2,lg2,H,ht2,hv2⟩:=hW
 refine ⟨_,rfl,?_⟩;clear F a;intro a F;refine nK hK28 (cReg (sMv F rfl rfl rfl (qNc rfl rfl rfl (qFa (f:=0) (k:=0) underlying58 rfl sizeOf56 rfl rfl rfl rfl rfl ?_))));clear hK28;clear F a;intro a F;refine sCall call45 F rfl rfl rfl (wnewline_any (v:=wordsW (askV v p) (condWd p.locs p.cond)) ⟨A2,C2,tx2,wi2,lg2,H,ht2,hv2⟩) ?_;rintro e w ⟨rfl,hW⟩
 obtain ⟨A3,C3,tx3,wi3,lg3,H,ht3,hv3⟩:=hW
 refine ⟨_,rfl,?_⟩;clear F a;intro a F;refine sNil ?_
 first | refine bEnd results23 F ?_ | (simp only [Exit.then,Exit.inBlock,if_true];(repeat (first | rw [if_pos rfl] | rw [if_neg (by decide)]));refine bEnd results23 F ?_)
 exact ⟨rfl,A3,C3,tx3,wi3,lg3,H.selT 4 [0,1,2] rfl rfl,ht3,hv3⟩
end Go.Proofs.YtkchaoajegkadaaGreatDoor
