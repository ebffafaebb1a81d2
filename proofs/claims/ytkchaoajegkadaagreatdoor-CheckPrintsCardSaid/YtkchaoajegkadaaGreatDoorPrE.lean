/-
  WALK2. Package parse: skip, move. Conditions: the parser, its tokens and names lie in memory.
-/
import Derived.Test.YtkchaoajegkadaaGreatDoorJn7
set_option linter.unusedSimpArgs false
set_option linter.unusedVariables false
namespace Go.Proofs.YtkchaoajegkadaaGreatDoor
open Go.Proofs.Tryz
open Go.RowKit
set_option maxRecDepth 100000
set_option maxHeartbeats 4000000 in
theorem pskip_any {W w0:World} {rs:List Res} {c:PX} (hc:c.Ok) {A:Option Addr} {C bp:Nat} {S:Nat→Prop} {s:PS} {B:Option Addr} {D:Nat} {X:List Value} (hp:s.pos≤999000) (hnl:s.names.length≤c.lim) (H:Own W none w0 (.blk bp (parC c A C s B D X) 66 :: .held S A 3 (rowsT c.ts) :: .nms W c.fixed B D s.names :: rs)) :
   Calls Tryz.prog 137 #[.pointer (some ⟨bp,0,none⟩)] w0 fun e w'=>Ans W rs (skipP c s) (fun v t e w'=>e = .returned (.agg v.cells.toArray)∧∃ B D,Own W none w' (.blk bp (parC c A C t B D X) 66 :: .held S A 3 (rowsT c.ts) :: .nms W c.fixed B D t.names :: rs)) e w':=by
 refine enterF func137 rfl ntmps137 rfl (fun a F=>?_);refine cSR fun K1 hK1=>?_;refine sAl H zeroValue44 F rfl rfl ?_;clear F a H;intro b2 a w F H;refine nK hK1 (cSR fun K2 hK2=>sMv F rfl rfl rfl (qNc rfl rfl rfl (qFa (f:=0) (k:=0) underlying66 rfl sizeOf64 rfl rfl rfl rfl rfl ?_)));clear hK1;clear F a;intro a F;refine sCall call102 F rfl rfl rfl (pstep_any hc (by omega) (H.selT 4 [1,2,3,0] rfl rfl)) ?_;rintro e w ⟨rfl,H⟩;refine ⟨_,rfl,?_⟩;clear F a;intro a F;refine nK hK2 (cSR fun K3 hK3=>sMv F rfl rfl rfl (qNc rfl rfl rfl (qFa (f:=0) (k:=0) underlying66 rfl sizeOf64 rfl rfl rfl rfl rfl ?_)));clear hK2;clear F a;intro a F;refine sCallP call135 F rfl rfl rfl (pnum_any hc (by (try simp only [PS.next]);omega) H) ?_;rintro e w hq9
 rcases hq9.cases with ⟨p9,e9,hn11,rfl,H⟩ | ⟨v11,t11,hr11,rfl,H⟩
 ·
  refine .inl ⟨_,rfl,?_⟩
  exact And.intro F.nod (Ans.no (by unfold skipP;simp only [hn11,Rs.bind]) H.tail.tail)
 obtain rfl:=(numQ_all v11 t11 hr11).2
 refine .inr ⟨_,rfl,?_⟩
 clear F a;intro a F;refine sBd (places:=[(0,1),(1,1),(2,1),(3,2),(5,2),(7,1),(8,1),(9,1)]) zeroValue44 underlying44 (by kernel_rfl) F rfl rfl rfl rfl ?_;clear F a;intro a F;refine sAl H zeroValue44 F rfl rfl ?_;clear F a H;intro b3 a w F H
 refine sSr H 0 ?si F rfl rfl rfl ?s1 rfl rfl ?_
 case si=>exact info_size sizeOf44
 case s1=>first | rfl | (repeat (first | exact one_nil | (apply one_cons;· first | rfl | assumption | exact one_bif rfl rfl)))
 clear H;intro w H;refine nK hK3 (cSR fun K4 hK4=>sMv F rfl rfl rfl (qMv rfl rfl rfl (qNc rfl rfl rfl (qFa (f:=0) (k:=0) underlying66 rfl sizeOf64 rfl rfl rfl rfl rfl ?_))));clear hK3;clear F a;intro a F;refine sCall call54 F rfl rfl rfl (pword_any hc (by (try simp only [PS.next]);omega) (H.selT 5 [1,2,3,0,4] rfl rfl)) ?_;rintro e w ⟨rfl,H⟩;refine ⟨_,rfl,?_⟩;clear F a;intro a F;refine sBin F rfl rfl rfl rfl bStrEq ?_;clear F a;intro a F;refine sCallP call64 F rfl rfl rfl (pneed_any _ hc (by (try simp only [PS.next]);omega) H) ?_;rintro e w hq9
 rcases hq9.cases with ⟨p9,e9,hn19,rfl,H⟩ | ⟨v19,t19,hr19,rfl,H⟩
 ·
  refine .inl ⟨_,rfl,?_⟩
  exact And.intro F.nod (Ans.no (by obtain ⟨h1,rfl,rfl⟩:=need_no hn19;rw [kw_lit [105,102]] at h1;unfold skipP;simp only [hr11,Rs.bind,h1,failP];rfl) H.tail.tail.tail)
 obtain ⟨hk,rfl⟩:=need_ok hr19;rw [kw_lit [105,102]] at hk
 refine .inr ⟨_,rfl,?_⟩
 clear F a;intro a F;refine nK hK4 (cSR fun K5 hK5=>sMv F rfl rfl rfl (qNc rfl rfl rfl (qFa (f:=0) (k:=0) underlying66 rfl sizeOf64 rfl rfl rfl rfl rfl ?_)));clear hK4;clear F a;intro a F;refine sCall call102 F rfl rfl rfl (pstep_any hc (by (try simp only [PS.next]);omega) H) ?_;rintro e w ⟨rfl,H⟩;refine ⟨_,rfl,?_⟩;clear F a;intro a F;refine nK hK5 (cSR fun K6 hK6=>sMv F rfl rfl rfl (qNc rfl rfl rfl (qFa (f:=0) (k:=0) underlying66 rfl sizeOf64 rfl rfl rfl rfl rfl ?_)));clear hK5;clear F a;intro a F;refine sCallP call140 F rfl rfl rfl (parg_any hc (by (try simp only [PS.next]);omega) H) ?_;rintro e w hq9
 rcases hq9.cases with ⟨p9,e9,hn27,rfl,H⟩ | ⟨v27,t27,hr27,rfl,H⟩
 ·
  refine .inl ⟨_,rfl,?_⟩
  exact And.intro F.nod (Ans.no (by unfold skipP;simp only [hr11,Rs.bind,hk,if_true,hn27]) H.tail.tail.tail)
 obtain rfl:=(argP_all v27 t27 hr27).2.1
 refine .inr ⟨_,rfl,?_⟩
 clear F a;intro a F;refine sFa (f:=3) (k:=3) underlying44 rfl sizeOf42 rfl rfl F rfl rfl rfl ?_;clear F a;intro a F
 refine sSr H 3 ?si F rfl rfl rfl ?s1 rfl rfl ?_
 case si=>exact info_size sizeOf42
 case s1=>first | rfl | (repeat (first | exact one_nil | (apply one_cons;· first | rfl | assumption | exact one_bif rfl rfl)))
 clear H;intro w H;refine nK hK6 ?_;clear hK6;refine cSeq (fun K7 hK7=>?_);refine wp_block ?_;refine cSR fun K8 hK8=>sMv F rfl rfl rfl (qNc rfl rfl rfl (qFa (f:=0) (k:=0) underlying66 rfl sizeOf64 rfl rfl rfl rfl rfl ?_));clear F a;intro a F;refine sCall call145 F rfl rfl rfl (pis_any [61,61] hc (by (try simp only [PS.next]);omega) H) ?_;rintro e w ⟨rfl,H⟩;refine ⟨_,rfl,?_⟩;clear F a;intro a F;refine sAs F rfl rfl rfl (qNK hK8 ?_);clear hK8;clear F a;intro a F
 refine cIf F rfl (fun h31=>?_) (fun h31=>?_)
 ·
  have ht:testP c s.next.next.next.next=some 4:=by unfold testP;rw [if_pos h31]
  refine cReg (sFa (f:=5) (k:=7) underlying44 rfl sizeOf5 rfl rfl F rfl rfl rfl ?_);clear F a;intro a F;refine sSt H 3 sizeOf5 F rfl rfl rfl rfl rfl rfl ?_;clear H;intro w H;refine nK hK7 (cSR fun K9 hK9=>sMv F rfl rfl rfl (qNc rfl rfl rfl (qFa (f:=0) (k:=0) underlying66 rfl sizeOf64 rfl rfl rfl rfl rfl ?_)));clear hK7;clear F a;intro a F;refine sCall call102 F rfl rfl rfl (pstep_any hc (by (try simp only [PS.next]);omega) H) ?_;rintro e w ⟨rfl,H⟩;refine ⟨_,rfl,?_⟩;clear F a;intro a F;refine nK hK9 (cSR fun K10 hK10=>sMv F rfl rfl rfl (qNc rfl rfl rfl (qFa (f:=0) (k:=0) underlying66 rfl sizeOf64 rfl rfl rfl rfl rfl ?_)));clear hK9;clear F a;intro a F;refine sCallP call140 F rfl rfl rfl (parg_any hc (by (try simp only [PS.next]);omega) H) ?_;rintro e w hq9
  rcases hq9.cases with ⟨p9,e9,hn56,rfl,H⟩ | ⟨v56,t56,hr56,rfl,H⟩
  ·
   refine .inl ⟨_,rfl,?_⟩
   exact And.intro F.nod (Ans.no (by unfold skipP;simp only [hr11,Rs.bind,hk,if_true,hr27,ht,hn56]) H.tail.tail.tail)
  refine .inr ⟨_,rfl,?_⟩
  clear F a;intro a F;refine sFa (f:=4) (k:=5) underlying44 rfl sizeOf42 rfl rfl F rfl rfl rfl ?_;clear F a;intro a F
  refine sSr H 3 ?si F rfl rfl rfl ?s1 rfl rfl ?_
  case si=>exact info_size sizeOf42
  case s1=>first | rfl | (repeat (first | exact one_nil | (apply one_cons;· first | rfl | assumption | exact one_bif rfl rfl)))
  clear H;intro w H;refine nK hK10 (cSR fun K11 hK11=>?_);clear hK10
  refine sLr underlying44 rfl ?si F rfl rfl rfl (H.whole 3 rfl) ?_
  case si=>exact info_size sizeOf44
  clear F a;intro a F
  refine sSr H 4 ?si F rfl rfl rfl ?s1 rfl rfl ?_
  case si=>exact info_size sizeOf44
  case s1=>first | rfl | (repeat (first | exact one_nil | (apply one_cons;· first | rfl | assumption | exact one_bif rfl rfl)))
  clear H;intro w H;refine nK hK11 ?_;clear hK11;refine wp_ret ?_;refine bRetC results137 F rfl underlying44 rfl H 4 rfl sizeOf44 rfl ?_
  exact Ans.ok (by unfold skipP;simp only [hr11,Rs.bind,hk,if_true,hr27,ht,hr56];rfl) ⟨rfl,_,_,by rw [← show t56.names=s.names from by rw [(argP_all v56 t56 hr56).2.1];rfl] at H;exact H.selT 5 [0,1,2] rfl rfl⟩
 refine cSR fun K12 hK12=>sMv F rfl rfl rfl (qNc rfl rfl rfl (qFa (f:=0) (k:=0) underlying66 rfl sizeOf64 rfl rfl rfl rfl rfl ?_));clear F a;intro a F;refine sCall call145 F rfl rfl rfl (pis_any [33,61] hc (by (try simp only [PS.next]);omega) H) ?_;rintro e w ⟨rfl,H⟩;refine ⟨_,rfl,?_⟩;clear F a;intro a F;refine sAs F rfl rfl rfl (qNK hK12 ?_);clear hK12;clear F a;intro a F
 refine cIf F rfl (fun h37=>?_) (fun h37=>?_)
 ·
  have ht:testP c s.next.next.next.next=some 5:=by unfold testP;rw [if_neg (by rw [h31];exact Bool.false_ne_true),if_pos h37]
  refine cReg (sFa (f:=5) (k:=7) underlying44 rfl sizeOf5 rfl rfl F rfl rfl rfl ?_);clear F a;intro a F;refine sSt H 3 sizeOf5 F rfl rfl rfl rfl rfl rfl ?_;clear H;intro w H;refine nK hK7 (cSR fun K13 hK13=>sMv F rfl rfl rfl (qNc rfl rfl rfl (qFa (f:=0) (k:=0) underlying66 rfl sizeOf64 rfl rfl rfl rfl rfl ?_)));clear hK7;clear F a;intro a F;refine sCall call102 F rfl rfl rfl (pstep_any hc (by (try simp only [PS.next]);omega) H) ?_;rintro e w ⟨rfl,H⟩;refine ⟨_,rfl,?_⟩;clear F a;intro a F;refine nK hK13 (cSR fun K14 hK14=>sMv F rfl rfl rfl (qNc rfl rfl rfl (qFa (f:=0) (k:=0) underlying66 rfl sizeOf64 rfl rfl rfl rfl rfl ?_)));clear hK13;clear F a;intro a F;refine sCallP call140 F rfl rfl rfl (parg_any hc (by (try simp only [PS.next]);omega) H) ?_;rintro e w hq9
  rcases hq9.cases with ⟨p9,e9,hn56,rfl,H⟩ | ⟨v56,t56,hr56,rfl,H⟩
  ·
   refine .inl ⟨_,rfl,?_⟩
   exact And.intro F.nod (Ans.no (by unfold skipP;simp only [hr11,Rs.bind,hk,if_true,hr27,ht,hn56]) H.tail.tail.tail)
  refine .inr ⟨_,rfl,?_⟩
  clear F a;intro a F;refine sFa (f:=4) (k:=5) underlying44 rfl sizeOf42 rfl rfl F rfl rfl rfl ?_;clear F a;intro a F
  refine sSr H 3 ?si F rfl rfl rfl ?s1 rfl rfl ?_
  case si=>exact info_size sizeOf42
  case s1=>first | rfl | (repeat (first | exact one_nil | (apply one_cons;· first | rfl | assumption | exact one_bif rfl rfl)))
  clear H;intro w H;refine nK hK14 (cSR fun K15 hK15=>?_);clear hK14
  refine sLr underlying44 rfl ?si F rfl rfl rfl (H.whole 3 rfl) ?_
  case si=>exact info_size sizeOf44
  clear F a;intro a F
  refine sSr H 4 ?si F rfl rfl rfl ?s1 rfl rfl ?_
  case si=>exact info_size sizeOf44
  case s1=>first | rfl | (repeat (first | exact one_nil | (apply one_cons;· first | rfl | assumption | exact one_bif rfl rfl)))
  clear H;intro w H;refine nK hK15 ?_;clear hK15;refine wp_ret ?_;refine bRetC results137 F rfl underlying44 rfl H 4 rfl sizeOf44 rfl ?_
  exact Ans.ok (by unfold skipP;simp only [hr11,Rs.bind,hk,if_true,hr27,ht,hr56];rfl) ⟨rfl,_,_,by rw [← show t56.names=s.names from by rw [(argP_all v56 t56 hr56).2.1];rfl] at H;exact H.selT 5 [0,1,2] rfl rfl⟩
 refine cSR fun K16 hK16=>sMv F rfl rfl rfl (qNc rfl rfl rfl (qFa (f:=0) (k:=0) underlying66 rfl sizeOf64 rfl rfl rfl rfl rfl ?_));clear F a;intro a F;refine sCall call145 F rfl rfl rfl (pis_any [60] hc (by (try simp only [PS.next]);omega) H) ?_;rintro e w ⟨rfl,H⟩;refine ⟨_,rfl,?_⟩;clear F a;intro a F;refine sAs F rfl rfl rfl (qNK hK16 ?_);clear hK16;clear F a;intro a F
 refine cIf F rfl (fun h43=>?_) (fun h43=>?_)
 ·
  have ht:testP c s.next.next.next.next=some 6:=by unfold testP;rw [if_neg (by rw [h31];exact Bool.false_ne_true),if_neg (by rw [h37];exact Bool.false_ne_true),if_pos h43]
  refine cReg (sFa (f:=5) (k:=7) underlying44 rfl sizeOf5 rfl rfl F rfl rfl rfl ?_);clear F a;intro a F;refine sSt H 3 sizeOf5 F rfl rfl rfl rfl rfl rfl ?_;clear H;intro w H;refine nK hK7 (cSR fun K17 hK17=>sMv F rfl rfl rfl (qNc rfl rfl rfl (qFa (f:=0) (k:=0) underlying66 rfl sizeOf64 rfl rfl rfl rfl rfl ?_)));clear hK7;clear F a;intro a F;refine sCall call102 F rfl rfl rfl (pstep_any hc (by (try simp only [PS.next]);omega) H) ?_;rintro e w ⟨rfl,H⟩;refine ⟨_,rfl,?_⟩;clear F a;intro a F;refine nK hK17 (cSR fun K18 hK18=>sMv F rfl rfl rfl (qNc rfl rfl rfl (qFa (f:=0) (k:=0) underlying66 rfl sizeOf64 rfl rfl rfl rfl rfl ?_)));clear hK17;clear F a;intro a F;refine sCallP call140 F rfl rfl rfl (parg_any hc (by (try simp only [PS.next]);omega) H) ?_;rintro e w hq9
  rcases hq9.cases with ⟨p9,e9,hn56,rfl,H⟩ | ⟨v56,t56,hr56,rfl,H⟩
  ·
   refine .inl ⟨_,rfl,?_⟩
   exact And.intro F.nod (Ans.no (by unfold skipP;simp only [hr11,Rs.bind,hk,if_true,hr27,ht,hn56]) H.tail.tail.tail)
  refine .inr ⟨_,rfl,?_⟩
  clear F a;intro a F;refine sFa (f:=4) (k:=5) underlying44 rfl sizeOf42 rfl rfl F rfl rfl rfl ?_;clear F a;intro a F
  refine sSr H 3 ?si F rfl rfl rfl ?s1 rfl rfl ?_
  case si=>exact info_size sizeOf42
  case s1=>first | rfl | (repeat (first | exact one_nil | (apply one_cons;· first | rfl | assumption | exact one_bif rfl rfl)))
  clear H;intro w H;refine nK hK18 (cSR fun K19 hK19=>?_);clear hK18
  refine sLr underlying44 rfl ?si F rfl rfl rfl (H.whole 3 rfl) ?_
  case si=>exact info_size sizeOf44
  clear F a;intro a F
  refine sSr H 4 ?si F rfl rfl rfl ?s1 rfl rfl ?_
  case si=>exact info_size sizeOf44
  case s1=>first | rfl | (repeat (first | exact one_nil | (apply one_cons;· first | rfl | assumption | exact one_bif rfl rfl)))
  clear H;intro w H;refine nK hK19 ?_;clear hK19;refine wp_ret ?_;refine bRetC results137 F rfl underlying44 rfl H 4 rfl sizeOf44 rfl ?_
  exact Ans.ok (by unfold skipP;simp only [hr11,Rs.bind,hk,if_true,hr27,ht,hr56];rfl) ⟨rfl,_,_,by rw [← show t56.names=s.names from by rw [(argP_all v56 t56 hr56).2.1];rfl] at H;exact H.selT 5 [0,1,2] rfl rfl⟩
 have ht:testP c s.next.next.next.next=none:=by unfold testP;rw [if_neg (by rw [h31];exact Bool.false_ne_true),if_neg (by rw [h37];exact Bool.false_ne_true),if_neg (by rw [h43];exact Bool.false_ne_true)]
 refine cReg (sMv F rfl rfl rfl ?_);clear F a;intro a F;refine sCallP call64 F rfl rfl rfl (pneedF_any hc (by (try simp only [PS.next]);omega) H) ?_;rintro e w ⟨rfl,H⟩
 refine .inl ⟨_,rfl,?_⟩
 exact And.intro F.nod (Ans.no (by unfold skipP;simp only [hr11,Rs.bind,hk,if_true,hr27,ht];rfl) H.tail.tail.tail)
set_option maxHeartbeats 4000000 in
theorem pmove_any {bx:Nat} (d:UInt8) {W w0:World} {rs:List Res} {c:PX} (hc:c.Ok) {A:Option Addr} {C bp:Nat} {S:Nat→Prop} {s:PS} {Y:List Value} (hp:s.pos≤999100) (H:Own W none w0 (.blk bp (curC c A C s Y) 66 :: .held S A 3 (rowsT c.ts) :: .blk bx ({ zIns with dst:=d }:Ins).cells 44 :: rs)) :
   Calls Tryz.prog 141 #[.pointer (some ⟨bp,0,none⟩),.pointer (some ⟨bx,0,none⟩)] w0 fun e w'=>Ans W rs (moveP' c d s) (fun v t e w'=>e = .returned (.tuple #[])∧Own W none w' (.blk bp (curC c A C t Y) 66 :: .held S A 3 (rowsT c.ts) :: .blk bx v.cells 44 :: rs)) e w':=by
 refine enterF func141 rfl ntmps141 rfl (fun a F=>?_);refine cSR fun K1 hK1=>sMv F rfl rfl rfl (qMv rfl rfl rfl (qMv rfl rfl rfl (qNc rfl rfl rfl (qFa (f:=0) (k:=0) underlying66 rfl sizeOf64 rfl rfl rfl rfl rfl ?_))));clear F a;intro a F;refine sCallP call140 F rfl rfl rfl (parg_any hc (by (try simp only [PS.next]);omega) H) ?_;rintro e w hq9
 rcases hq9.cases with ⟨p9,e9,hn9,rfl,H⟩ | ⟨v9,t9,hr9,rfl,H⟩
 ·
  refine .inl ⟨_,rfl,?_⟩
  exact And.intro F.nod (Ans.no (by unfold moveP';simp only [hn9,Rs.bind]) H.tail)
 obtain rfl:=(argP_all v9 t9 hr9).2.1
 refine .inr ⟨_,rfl,?_⟩
 clear F a;intro a F;refine sNc F rfl rfl rfl (qFa (f:=0) (k:=0) underlying44 rfl sizeOf5 rfl rfl rfl rfl rfl ?_);clear F a;intro a F;refine sSt H 2 sizeOf5 F rfl rfl rfl rfl rfl rfl ?_;clear H;intro w H;refine sNc F rfl rfl rfl (qFa (f:=3) (k:=3) underlying44 rfl sizeOf42 rfl rfl rfl rfl rfl ?_);clear F a;intro a F
 refine sSr H 2 ?si F rfl rfl rfl ?s1 rfl rfl ?_
 case si=>exact info_size sizeOf42
 case s1=>first | rfl | (repeat (first | exact one_nil | (apply one_cons;· first | rfl | assumption | exact one_bif rfl rfl)))
 clear H;intro w H;refine nK hK1 ?_;clear hK1;refine cSeq (fun K2 hK2=>?_);refine wp_block ?_;refine cSR fun K3 hK3=>sMv F rfl rfl rfl (qNc rfl rfl rfl (qFa (f:=0) (k:=0) underlying66 rfl sizeOf64 rfl rfl rfl rfl rfl ?_));clear F a;intro a F;refine sCall call145 F rfl rfl rfl (pis_any [43] hc (by (try simp only [PS.next]);omega) H) ?_;rintro e w ⟨rfl,H⟩;refine ⟨_,rfl,?_⟩;clear F a;intro a F;refine sAs F rfl rfl rfl (qNK hK3 ?_);clear hK3;clear F a;intro a F
 refine cIf F rfl (fun h16=>?_) (fun h16=>?_)
 ·
  have ht:fnP c s.next=some 1:=by unfold fnP;rw [if_pos h16]
  refine cReg (sMv F rfl rfl rfl (qNc rfl rfl rfl (qFa (f:=5) (k:=7) underlying44 rfl sizeOf5 rfl rfl rfl rfl rfl ?_)));clear F a;intro a F;refine sSt H 2 sizeOf5 F rfl rfl rfl rfl rfl rfl ?_;clear H;intro w H;refine nK hK2 (cSR fun K4 hK4=>sMv F rfl rfl rfl (qNc rfl rfl rfl (qFa (f:=0) (k:=0) underlying66 rfl sizeOf64 rfl rfl rfl rfl rfl ?_)));clear hK2;clear F a;intro a F;refine sCall call102 F rfl rfl rfl (pstep_any hc (by (try simp only [PS.next]);omega) H) ?_;rintro e w ⟨rfl,H⟩;refine ⟨_,rfl,?_⟩;clear F a;intro a F;refine nK hK4 (cReg (sMv F rfl rfl rfl (qMv rfl rfl rfl (qNc rfl rfl rfl (qFa (f:=0) (k:=0) underlying66 rfl sizeOf64 rfl rfl rfl rfl rfl ?_)))));clear hK4;clear F a;intro a F;refine sCallP call140 F rfl rfl rfl (parg_any hc (by (try simp only [PS.next]);omega) H) ?_;rintro e w hq9
  rcases hq9.cases with ⟨p9,e9,hn48,rfl,H⟩ | ⟨v48,t48,hr48,rfl,H⟩
  ·
   refine .inl ⟨_,rfl,?_⟩
   exact And.intro F.nod (Ans.no (by unfold moveP';simp only [hr9,Rs.bind,ht,hn48]) H.tail)
  refine .inr ⟨_,rfl,?_⟩
  clear F a;intro a F;refine sNc F rfl rfl rfl (qFa (f:=4) (k:=5) underlying44 rfl sizeOf42 rfl rfl rfl rfl rfl ?_);clear F a;intro a F
  refine sSr H 2 ?si F rfl rfl rfl ?s1 rfl rfl ?_
  case si=>exact info_size sizeOf42
  case s1=>first | rfl | (repeat (first | exact one_nil | (apply one_cons;· first | rfl | assumption | exact one_bif rfl rfl)))
  clear H;intro w H;refine sNil ?_
  first | refine bEnd results141 F ?_ | (simp only [Exit.then,Exit.inBlock,if_true];(repeat (first | rw [if_pos rfl] | rw [if_neg (by decide)]));refine bEnd results141 F ?_)
  first | exact Ans.ok (v:={ zIns with op:=3,dst:=d,aR:=v9.1,aN:=v9.2,bR:=v48.1,bN:=v48.2,fn:=1 }) (by unfold moveP';simp only [hr9,Rs.bind,ht,hr48]) ⟨rfl,H⟩ | exact Ans.ok (v:={ zIns with op:=3,dst:=d,aR:=v9.1,aN:=v9.2,bR:=v48.1,bN:=v48.2,fn:=2 }) (by unfold moveP';simp only [hr9,Rs.bind,ht,hr48]) ⟨rfl,H⟩ | exact Ans.ok (v:={ zIns with op:=3,dst:=d,aR:=v9.1,aN:=v9.2,bR:=v48.1,bN:=v48.2,fn:=3 }) (by unfold moveP';simp only [hr9,Rs.bind,ht,hr48]) ⟨rfl,H⟩
 refine cSR fun K5 hK5=>sMv F rfl rfl rfl (qNc rfl rfl rfl (qFa (f:=0) (k:=0) underlying66 rfl sizeOf64 rfl rfl rfl rfl rfl ?_));clear F a;intro a F;refine sCall call145 F rfl rfl rfl (pis_any [45] hc (by (try simp only [PS.next]);omega) H) ?_;rintro e w ⟨rfl,H⟩;refine ⟨_,rfl,?_⟩;clear F a;intro a F;refine sAs F rfl rfl rfl (qNK hK5 ?_);clear hK5;clear F a;intro a F
 refine cIf F rfl (fun h24=>?_) (fun h24=>?_)
 ·
  have ht:fnP c s.next=some 2:=by unfold fnP;rw [if_neg (by rw [h16];exact Bool.false_ne_true),if_pos h24]
  refine cReg (sMv F rfl rfl rfl (qNc rfl rfl rfl (qFa (f:=5) (k:=7) underlying44 rfl sizeOf5 rfl rfl rfl rfl rfl ?_)));clear F a;intro a F;refine sSt H 2 sizeOf5 F rfl rfl rfl rfl rfl rfl ?_;clear H;intro w H;refine nK hK2 (cSR fun K6 hK6=>sMv F rfl rfl rfl (qNc rfl rfl rfl (qFa (f:=0) (k:=0) underlying66 rfl sizeOf64 rfl rfl rfl rfl rfl ?_)));clear hK2;clear F a;intro a F;refine sCall call102 F rfl rfl rfl (pstep_any hc (by (try simp only [PS.next]);omega) H) ?_;rintro e w ⟨rfl,H⟩;refine ⟨_,rfl,?_⟩;clear F a;intro a F;refine nK hK6 (cReg (sMv F rfl rfl rfl (qMv rfl rfl rfl (qNc rfl rfl rfl (qFa (f:=0) (k:=0) underlying66 rfl sizeOf64 rfl rfl rfl rfl rfl ?_)))));clear hK6;clear F a;intro a F;refine sCallP call140 F rfl rfl rfl (parg_any hc (by (try simp only [PS.next]);omega) H) ?_;rintro e w hq9
  rcases hq9.cases with ⟨p9,e9,hn48,rfl,H⟩ | ⟨v48,t48,hr48,rfl,H⟩
  ·
   refine .inl ⟨_,rfl,?_⟩
   exact And.intro F.nod (Ans.no (by unfold moveP';simp only [hr9,Rs.bind,ht,hn48]) H.tail)
  refine .inr ⟨_,rfl,?_⟩
  clear F a;intro a F;refine sNc F rfl rfl rfl (qFa (f:=4) (k:=5) underlying44 rfl sizeOf42 rfl rfl rfl rfl rfl ?_);clear F a;intro a F
  refine sSr H 2 ?si F rfl rfl rfl ?s1 rfl rfl ?_
  case si=>exact info_size sizeOf42
  case s1=>first | rfl | (repeat (first | exact one_nil | (apply one_cons;· first | rfl | assumption | exact one_bif rfl rfl)))
  clear H;intro w H;refine sNil ?_
  first | refine bEnd results141 F ?_ | (simp only [Exit.then,Exit.inBlock,if_true];(repeat (first | rw [if_pos rfl] | rw [if_neg (by decide)]));refine bEnd results141 F ?_)
  first | exact Ans.ok (v:={ zIns with op:=3,dst:=d,aR:=v9.1,aN:=v9.2,bR:=v48.1,bN:=v48.2,fn:=1 }) (by unfold moveP';simp only [hr9,Rs.bind,ht,hr48]) ⟨rfl,H⟩ | exact Ans.ok (v:={ zIns with op:=3,dst:=d,aR:=v9.1,aN:=v9.2,bR:=v48.1,bN:=v48.2,fn:=2 }) (by unfold moveP';simp only [hr9,Rs.bind,ht,hr48]) ⟨rfl,H⟩ | exact Ans.ok (v:={ zIns with op:=3,dst:=d,aR:=v9.1,aN:=v9.2,bR:=v48.1,bN:=v48.2,fn:=3 }) (by unfold moveP';simp only [hr9,Rs.bind,ht,hr48]) ⟨rfl,H⟩
 refine cSR fun K7 hK7=>sMv F rfl rfl rfl (qNc rfl rfl rfl (qFa (f:=0) (k:=0) underlying66 rfl sizeOf64 rfl rfl rfl rfl rfl ?_));clear F a;intro a F;refine sCall call145 F rfl rfl rfl (pis_any [94] hc (by (try simp only [PS.next]);omega) H) ?_;rintro e w ⟨rfl,H⟩;refine ⟨_,rfl,?_⟩;clear F a;intro a F;refine sAs F rfl rfl rfl (qNK hK7 ?_);clear hK7;clear F a;intro a F
 refine cIf F rfl (fun h32=>?_) (fun h32=>?_)
 ·
  have ht:fnP c s.next=some 3:=by unfold fnP;rw [if_neg (by rw [h16];exact Bool.false_ne_true),if_neg (by rw [h24];exact Bool.false_ne_true),if_pos h32]
  refine cReg (sMv F rfl rfl rfl (qNc rfl rfl rfl (qFa (f:=5) (k:=7) underlying44 rfl sizeOf5 rfl rfl rfl rfl rfl ?_)));clear F a;intro a F;refine sSt H 2 sizeOf5 F rfl rfl rfl rfl rfl rfl ?_;clear H;intro w H;refine nK hK2 (cSR fun K8 hK8=>sMv F rfl rfl rfl (qNc rfl rfl rfl (qFa (f:=0) (k:=0) underlying66 rfl sizeOf64 rfl rfl rfl rfl rfl ?_)));clear hK2;clear F a;intro a F;refine sCall call102 F rfl rfl rfl (pstep_any hc (by (try simp only [PS.next]);omega) H) ?_;rintro e w ⟨rfl,H⟩;refine ⟨_,rfl,?_⟩;clear F a;intro a F;refine nK hK8 (cReg (sMv F rfl rfl rfl (qMv rfl rfl rfl (qNc rfl rfl rfl (qFa (f:=0) (k:=0) underlying66 rfl sizeOf64 rfl rfl rfl rfl rfl ?_)))));clear hK8;clear F a;intro a F;refine sCallP call140 F rfl rfl rfl (parg_any hc (by (try simp only [PS.next]);omega) H) ?_;rintro e w hq9
  rcases hq9.cases with ⟨p9,e9,hn48,rfl,H⟩ | ⟨v48,t48,hr48,rfl,H⟩
  ·
   refine .inl ⟨_,rfl,?_⟩
   exact And.intro F.nod (Ans.no (by unfold moveP';simp only [hr9,Rs.bind,ht,hn48]) H.tail)
  refine .inr ⟨_,rfl,?_⟩
  clear F a;intro a F;refine sNc F rfl rfl rfl (qFa (f:=4) (k:=5) underlying44 rfl sizeOf42 rfl rfl rfl rfl rfl ?_);clear F a;intro a F
  refine sSr H 2 ?si F rfl rfl rfl ?s1 rfl rfl ?_
  case si=>exact info_size sizeOf42
  case s1=>first | rfl | (repeat (first | exact one_nil | (apply one_cons;· first | rfl | assumption | exact one_bif rfl rfl)))
  clear H;intro w H;refine sNil ?_
  first | refine bEnd results141 F ?_ | (simp only [Exit.then,Exit.inBlock,if_true];(repeat (first | rw [if_pos rfl] | rw [if_neg (by decide)]));refine bEnd results141 F ?_)
  first | exact Ans.ok (v:={ zIns with op:=3,dst:=d,aR:=v9.1,aN:=v9.2,bR:=v48.1,bN:=v48.2,fn:=1 }) (by unfold moveP';simp only [hr9,Rs.bind,ht,hr48]) ⟨rfl,H⟩ | exact Ans.ok (v:={ zIns with op:=3,dst:=d,aR:=v9.1,aN:=v9.2,bR:=v48.1,bN:=v48.2,fn:=2 }) (by unfold moveP';simp only [hr9,Rs.bind,ht,hr48]) ⟨rfl,H⟩ | exact Ans.ok (v:={ zIns with op:=3,dst:=d,aR:=v9.1,aN:=v9.2,bR:=v48.1,bN:=v48.2,fn:=3 }) (by unfold moveP';simp only [hr9,Rs.bind,ht,hr48]) ⟨rfl,H⟩
 have ht:fnP c s.next=none:=by unfold fnP;rw [if_neg (by rw [h16];exact Bool.false_ne_true),if_neg (by rw [h24];exact Bool.false_ne_true),if_neg (by rw [h32];exact Bool.false_ne_true)]
 refine cReg (sMv F rfl rfl rfl ?_);clear F a;intro a F;refine sCallP call64 F rfl rfl rfl (pneedF_any hc (by (try simp only [PS.next]);omega) H) ?_;rintro e w ⟨rfl,H⟩
 refine .inl ⟨_,rfl,?_⟩
 exact And.intro F.nod (Ans.no (by unfold moveP';simp only [hr9,Rs.bind,ht];rfl) H.tail)
end Go.Proofs.YtkchaoajegkadaaGreatDoor
