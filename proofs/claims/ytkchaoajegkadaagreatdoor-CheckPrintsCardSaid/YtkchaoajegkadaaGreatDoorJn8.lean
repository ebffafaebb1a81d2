/-
  WALK2. Package parse: assign. Conditions: the parser, its tokens and names lie in memory.
-/
import Derived.Test.YtkchaoajegkadaaGreatDoorPrE
import Derived.Test.YtkchaoajegkadaaGreatDoorJn7
set_option linter.unusedSimpArgs false
set_option linter.unusedVariables false
namespace Go.Proofs.YtkchaoajegkadaaGreatDoor
-- PrH
open Go.Proofs.Tryz
open Go.RowKit
set_option maxRecDepth 100000
theorem move_names {c:PX} {d:UInt8} {s:PS}:(moveP' c d s).All fun _ t=>t.names=s.names:=by
 unfold moveP' failP
 refine argP_all.bind fun x s1 _ h1=>?_
 cases fnP c s1 with
 | none=>exact .no
 | some f=>exact argP_all.bind fun y s2 _ h2=>.ok (by rw [h2.2.1,h1.2.1];rfl)
set_option maxHeartbeats 16000000 in
theorem passign_any {W w0:World} {rs:List Res} {c:PX} (hc:c.Ok) {A:Option Addr} {C bp:Nat} {S:Nat→Prop} {s:PS} {B:Option Addr} {D:Nat} {X:List Value} (hp:s.pos≤998000) (hnl:s.names.length≤c.lim) (H:Own W none w0 (.blk bp (parC c A C s B D X) 66 :: .held S A 3 (rowsT c.ts) :: .nms W c.fixed B D s.names :: rs)) :
   Calls Tryz.prog 117 #[.pointer (some ⟨bp,0,none⟩)] w0 fun e w'=>Ans W rs (assignP c s) (fun v t e w'=>e = .returned (.agg v.cells.toArray)∧∃ B D,Own W none w' (.blk bp (parC c A C t B D X) 66 :: .held S A 3 (rowsT c.ts) :: .nms W c.fixed B D t.names :: rs)) e w':=by
 refine enterF func117 rfl ntmps117 rfl (fun a F=>?_);refine cSR fun K1 hK1=>?_;refine sAl H zeroValue44 F rfl rfl ?_;clear F a H;intro b2 a w F H;refine nK hK1 (cSR fun K2 hK2=>sMv F rfl rfl rfl (qNc rfl rfl rfl (qFa (f:=0) (k:=0) underlying66 rfl sizeOf64 rfl rfl rfl rfl rfl ?_)));clear hK1;clear F a;intro a F;refine sCallP call138 F rfl rfl rfl (preg_any hc (by omega) (H.selT 4 [1,2,3,0] rfl rfl)) ?_;rintro e w hq9
 rcases hq9.cases with ⟨p9,e9,hn7,rfl,H⟩ | ⟨v7,t7,hr7,rfl,H⟩
 ·
  refine .inl ⟨_,rfl,?_⟩
  exact And.intro F.nod (Ans.no (by unfold assignP;simp only [hn7,Rs.bind]) H.tail.tail)
 obtain rfl:=(regQ_all v7 t7 hr7).2.1
 refine .inr ⟨_,rfl,?_⟩
 clear F a;intro a F;refine sBd (places:=[(0,1),(1,1),(2,1),(3,2),(5,2),(7,1),(8,1),(9,1)]) zeroValue44 underlying44 (by kernel_rfl) F rfl rfl rfl rfl ?_;clear F a;intro a F;refine sAl H zeroValue44 F rfl rfl ?_;clear F a H;intro b3 a w F H
 refine sSr H 0 ?si F rfl rfl rfl ?s1 rfl rfl ?_
 case si=>exact info_size sizeOf44
 case s1=>first | rfl | (repeat (first | exact one_nil | (apply one_cons;· first | rfl | assumption | exact one_bif rfl rfl)))
 clear H;intro w H;refine nK hK2 (cSR fun K3 hK3=>sMv F rfl rfl rfl (qNc rfl rfl rfl (qFa (f:=0) (k:=0) underlying66 rfl sizeOf64 rfl rfl rfl rfl rfl ?_)));clear hK2;clear F a;intro a F;refine sCallP call134 F rfl rfl rfl (psign_any [61] hc (by (try simp only [PS.next]);omega) (H.selT 5 [1,2,3,0,4] rfl rfl)) ?_;rintro e w hq9
 rcases hq9.cases with ⟨p9,e9,hn12,rfl,H⟩ | ⟨v12,t12,hr12,rfl,H⟩
 ·
  refine .inl ⟨_,rfl,?_⟩
  exact And.intro F.nod (Ans.no (by unfold assignP;simp only [hr7,hn12,Rs.bind]) H.tail.tail.tail)
 obtain rfl:=(signP_all v12 t12 hr12).2
 refine .inr ⟨_,rfl,?_⟩
 clear F a;intro a F;refine nK hK3 ?_;clear hK3;refine cSeq (fun K4 hK4=>?_);refine wp_block ?_;refine cSR fun K5 hK5=>sMv F rfl rfl rfl (qNc rfl rfl rfl (qFa (f:=0) (k:=0) underlying66 rfl sizeOf64 rfl rfl rfl rfl rfl ?_));clear F a;intro a F;refine sCall call139 F rfl rfl rfl (ptakes_any [115,119,97,112] hc (by (try simp only [PS.next]);omega) H) ?_;rintro e w ⟨rfl,H⟩;refine ⟨_,rfl,?_⟩;clear F a;intro a F;refine sAs F rfl rfl rfl (qNK hK5 ?_);clear hK5;clear F a;intro a F
 refine cIf F rfl (fun h15=>?_) (fun h15=>?_)
 ·
  rw [if_pos h15] at H;refine cRegRO (by kernel_rfl) (H.sel [1] rfl rfl) ?_;replace H:=H.drew;refine eTF 0 rfl (by kernel_rfl) F rfl rfl rfl (fun w=>rMv F rfl) (H.sel [1] rfl rfl) qq0 (qTF 1 rfl (by kernel_rfl) rfl rfl rfl (fun a F w=>rMv F rfl) (H.sel [1] rfl rfl) qq0 (qT 2 rfl (by kernel_rfl) rfl rfl rfl rfl (fun a F w H=>rNc F rfl) (H.sel [1] rfl rfl) qq0 (qTF 3 rfl (by kernel_rfl) rfl rfl rfl (fun a F w=>rFa (f:=1) (k:=3) underlying66 rfl sizeOf22 rfl rfl F rfl) (H.sel [1] rfl rfl) qq0 (qTF 6 rfl (by kernel_rfl) rfl rfl rfl (fun a F w=>rMv F rfl) (H.sel [1] rfl rfl) qq0 (qT 7 rfl (by kernel_rfl) rfl rfl rfl rfl (fun a F w H=>rNc F rfl) (H.sel [1] rfl rfl) qq0 (qTF 8 rfl (by kernel_rfl) rfl rfl rfl (fun a F w=>rFa (f:=0) (k:=0) underlying66 rfl sizeOf64 rfl rfl F rfl) (H.sel [1] rfl rfl) qq0 ?_))))));clear F a;intro a F;refine eOne (k:=7) (i:=4) rfl (by kernel_rfl) F rfl (oV F rfl rfl (rLd isAgg22 F rfl (H.cell 0 rfl rfl)) ?_);clear F a;intro a F;refine eKeep (H.sel [1] rfl rfl) ?_;refine eOne (k:=8) (i:=5) rfl (by kernel_rfl) F rfl (oCallP call133 F rfl rfl (ploc_any (s:=s.next.next.next) hc (by (try simp only [PS.next]);omega) (by exact hnl) H) ?_);rintro e w hq9
  rcases hq9.cases with ⟨p9,e9,hn25,rfl,H⟩ | ⟨v25,t25,hr25,rfl,B25,D25,H⟩
  ·
   refine .inl ⟨_,rfl,?_⟩
   exact And.intro F.nod (Ans.no (by unfold assignP;simp only [hr7,hr12,h15,hn25,Rs.bind,if_true,Bool.false_eq_true,if_false,reduceCtorEq]) H.tail.tail)
  obtain ⟨hn6,hp25⟩:=loc_six (s:=s.next.next.next) hnl v25 t25 hr25;simp only [PS.next] at hp25
  refine .inr ⟨_,rfl,?_⟩
  clear F a;intro a F;refine eKeep (H.sel [1] rfl rfl) ?_;refine eOne (k:=9) (i:=9) rfl (by kernel_rfl) F rfl (oCallP call140 F rfl rfl (parg_any hc (by (try simp only [PS.next]);omega) H) ?_);rintro e w hq9
  rcases hq9.cases with ⟨p9,e9,hn29,rfl,H⟩ | ⟨v29,t29,hr29,rfl,H⟩
  ·
   refine .inl ⟨_,rfl,?_⟩
   exact And.intro F.nod (Ans.no (by unfold assignP;simp only [hr7,hr12,h15,hr25,hn29,Rs.bind,if_true,Bool.false_eq_true,if_false,reduceCtorEq]) H.tail.tail.tail)
  obtain rfl:=(argP_all v29 t29 hr29).2.1
  refine .inr ⟨_,rfl,?_⟩
  clear F a;intro a F;refine ePartO (by kernel_rfl) H ?_;refine eTF 10 rfl (by kernel_rfl) F rfl rfl rfl (fun w=>rFa (f:=0) (k:=0) underlying44 rfl sizeOf5 rfl rfl F rfl) H qq0 ?_;clear F a;intro a F;refine eOne (k:=11) (i:=11) rfl (by kernel_rfl) F rfl (oSt H 3 sizeOf5 F rfl rfl rfl rfl rfl ?_);clear H;intro w H;refine ePartO (by kernel_rfl) H ?_;refine eTF 12 rfl (by kernel_rfl) F rfl rfl rfl (fun w=>rFa (f:=2) (k:=2) underlying44 rfl sizeOf5 rfl rfl F rfl) H qq0 ?_;clear F a;intro a F;refine eOne (k:=13) (i:=13) rfl (by kernel_rfl) F rfl (oSt H 3 sizeOf5 F rfl rfl rfl rfl rfl ?_);clear H;intro w H;refine ePartO (by kernel_rfl) H ?_;refine eTF 14 rfl (by kernel_rfl) F rfl rfl rfl (fun w=>rFa (f:=3) (k:=3) underlying44 rfl sizeOf42 rfl rfl F rfl) H qq0 ?_;clear F a;intro a F
  refine eOne (k:=15) (i:=15) rfl (by kernel_rfl) F rfl (oSr H 3 ?si F rfl rfl ?s1 rfl rfl ?_)
  case si=>exact info_size sizeOf42
  case s1=>first | rfl | (repeat (first | exact one_nil | (apply one_cons;· first | rfl | assumption | exact one_bif rfl rfl)))
  clear H;intro w H;refine ePartO (by kernel_rfl) H ?_;refine eNil (k:=16) (by kernel_rfl) ?_;refine hK4 _ _ (cSR fun K6 hK6=>?_);clear hK4
  refine sLr underlying44 rfl ?si F rfl rfl rfl (H.whole 3 rfl) ?_
  case si=>exact info_size sizeOf44
  clear F a;intro a F
  refine sSr H 4 ?si F rfl rfl rfl ?s1 rfl rfl ?_
  case si=>exact info_size sizeOf44
  case s1=>first | rfl | (repeat (first | exact one_nil | (apply one_cons;· first | rfl | assumption | exact one_bif rfl rfl)))
  clear H;intro w H;refine nK hK6 ?_;clear hK6;refine wp_ret ?_;refine bRetC results117 F rfl underlying44 rfl H 4 rfl sizeOf44 rfl ?_
  first
  | exact Ans.ok (v:={ zIns with op:=4,dst:=v7,loc:=v25,aR:=v29.1,aN:=v29.2 }) (by unfold assignP;simp only [hr7,hr12,h15,hr25,hr29,Rs.bind,if_true,Bool.false_eq_true,if_false,reduceCtorEq]) ⟨rfl,_,_,H.selT 5 [0,1,2] rfl rfl⟩
  | exact Ans.ok (v:={ zIns with op:=5,dst:=v7,loc:=v43,aR:=v47.1,aN:=v47.2 }) (by unfold assignP;simp only [hr7,hr12,h15,h33,hr43,hr47,Rs.bind,if_true,Bool.false_eq_true,if_false,reduceCtorEq]) ⟨rfl,_,_,H.selT 5 [0,1,2] rfl rfl⟩
  | exact Ans.ok (v:={ zIns with op:=6,dst:=v7,loc:=v61,aR:=v65.1,aN:=v65.2,bR:=v69.1,bN:=v69.2 }) (by unfold assignP;simp only [hr7,hr12,h15,h33,h51,hr61,hr65,hr69,Rs.bind,if_true,Bool.false_eq_true,if_false,reduceCtorEq]) ⟨rfl,_,_,H.selT 5 [0,1,2] rfl rfl⟩
  | exact Ans.ok (v:={ zIns with op:=1,dst:=v7,loc:=v85,mode:=1 }) (by unfold assignP;simp only [hr7,hr12,h15,h33,h51,h74,hr85,h91,Rs.bind,if_true,Bool.false_eq_true,if_false,reduceCtorEq]) ⟨rfl,_,_,H.selT 5 [0,1,2] rfl rfl⟩
  | exact Ans.ok (v:={ zIns with op:=1,dst:=v7,loc:=v85 }) (by unfold assignP;simp only [hr7,hr12,h15,h33,h51,h74,hr85,h91,Rs.bind,if_true,Bool.false_eq_true,if_false,reduceCtorEq]) ⟨rfl,_,_,H.selT 5 [0,1,2] rfl rfl⟩
  | exact Ans.ok (v:=v14) (by unfold assignP;simp only [hr7,hr12,h15,h33,h51,h74,hr14,Rs.bind,if_true,Bool.false_eq_true,if_false,reduceCtorEq]) ⟨rfl,_,_,H.selT 5 [0,1,2] rfl rfl⟩
 rw [if_neg (by rw [h15];exact Bool.false_ne_true)] at H
 refine cSR fun K7 hK7=>sMv F rfl rfl rfl (qNc rfl rfl rfl (qFa (f:=0) (k:=0) underlying66 rfl sizeOf64 rfl rfl rfl rfl rfl ?_));clear F a;intro a F;refine sCall call139 F rfl rfl rfl (ptakes_any [102,101,116,99,104] hc (by (try simp only [PS.next]);omega) H) ?_;rintro e w ⟨rfl,H⟩;refine ⟨_,rfl,?_⟩;clear F a;intro a F;refine sAs F rfl rfl rfl (qNK hK7 ?_);clear hK7;clear F a;intro a F
 refine cIf F rfl (fun h33=>?_) (fun h33=>?_)
 ·
  rw [if_pos h33] at H;refine cRegRO (by kernel_rfl) (H.sel [1] rfl rfl) ?_;replace H:=H.drew;refine eTF 0 rfl (by kernel_rfl) F rfl rfl rfl (fun w=>rMv F rfl) (H.sel [1] rfl rfl) qq0 (qTF 1 rfl (by kernel_rfl) rfl rfl rfl (fun a F w=>rMv F rfl) (H.sel [1] rfl rfl) qq0 (qT 2 rfl (by kernel_rfl) rfl rfl rfl rfl (fun a F w H=>rNc F rfl) (H.sel [1] rfl rfl) qq0 (qTF 3 rfl (by kernel_rfl) rfl rfl rfl (fun a F w=>rFa (f:=1) (k:=3) underlying66 rfl sizeOf22 rfl rfl F rfl) (H.sel [1] rfl rfl) qq0 (qTF 6 rfl (by kernel_rfl) rfl rfl rfl (fun a F w=>rMv F rfl) (H.sel [1] rfl rfl) qq0 (qT 7 rfl (by kernel_rfl) rfl rfl rfl rfl (fun a F w H=>rNc F rfl) (H.sel [1] rfl rfl) qq0 (qTF 8 rfl (by kernel_rfl) rfl rfl rfl (fun a F w=>rFa (f:=0) (k:=0) underlying66 rfl sizeOf64 rfl rfl F rfl) (H.sel [1] rfl rfl) qq0 ?_))))));clear F a;intro a F;refine eOne (k:=7) (i:=4) rfl (by kernel_rfl) F rfl (oV F rfl rfl (rLd isAgg22 F rfl (H.cell 0 rfl rfl)) ?_);clear F a;intro a F;refine eKeep (H.sel [1] rfl rfl) ?_;refine eOne (k:=8) (i:=5) rfl (by kernel_rfl) F rfl (oCallP call133 F rfl rfl (ploc_any (s:=s.next.next.next) hc (by (try simp only [PS.next]);omega) (by exact hnl) H) ?_);rintro e w hq9
  rcases hq9.cases with ⟨p9,e9,hn43,rfl,H⟩ | ⟨v43,t43,hr43,rfl,B43,D43,H⟩
  ·
   refine .inl ⟨_,rfl,?_⟩
   exact And.intro F.nod (Ans.no (by unfold assignP;simp only [hr7,hr12,h15,h33,hn43,Rs.bind,if_true,Bool.false_eq_true,if_false,reduceCtorEq]) H.tail.tail)
  obtain ⟨hn6,hp43⟩:=loc_six (s:=s.next.next.next) hnl v43 t43 hr43;simp only [PS.next] at hp43
  refine .inr ⟨_,rfl,?_⟩
  clear F a;intro a F;refine eKeep (H.sel [1] rfl rfl) ?_;refine eOne (k:=9) (i:=9) rfl (by kernel_rfl) F rfl (oCallP call140 F rfl rfl (parg_any hc (by (try simp only [PS.next]);omega) H) ?_);rintro e w hq9
  rcases hq9.cases with ⟨p9,e9,hn47,rfl,H⟩ | ⟨v47,t47,hr47,rfl,H⟩
  ·
   refine .inl ⟨_,rfl,?_⟩
   exact And.intro F.nod (Ans.no (by unfold assignP;simp only [hr7,hr12,h15,h33,hr43,hn47,Rs.bind,if_true,Bool.false_eq_true,if_false,reduceCtorEq]) H.tail.tail.tail)
  obtain rfl:=(argP_all v47 t47 hr47).2.1
  refine .inr ⟨_,rfl,?_⟩
  clear F a;intro a F;refine ePartO (by kernel_rfl) H ?_;refine eTF 10 rfl (by kernel_rfl) F rfl rfl rfl (fun w=>rFa (f:=0) (k:=0) underlying44 rfl sizeOf5 rfl rfl F rfl) H qq0 ?_;clear F a;intro a F;refine eOne (k:=11) (i:=11) rfl (by kernel_rfl) F rfl (oSt H 3 sizeOf5 F rfl rfl rfl rfl rfl ?_);clear H;intro w H;refine ePartO (by kernel_rfl) H ?_;refine eTF 12 rfl (by kernel_rfl) F rfl rfl rfl (fun w=>rFa (f:=2) (k:=2) underlying44 rfl sizeOf5 rfl rfl F rfl) H qq0 ?_;clear F a;intro a F;refine eOne (k:=13) (i:=13) rfl (by kernel_rfl) F rfl (oSt H 3 sizeOf5 F rfl rfl rfl rfl rfl ?_);clear H;intro w H;refine ePartO (by kernel_rfl) H ?_;refine eTF 14 rfl (by kernel_rfl) F rfl rfl rfl (fun w=>rFa (f:=3) (k:=3) underlying44 rfl sizeOf42 rfl rfl F rfl) H qq0 ?_;clear F a;intro a F
  refine eOne (k:=15) (i:=15) rfl (by kernel_rfl) F rfl (oSr H 3 ?si F rfl rfl ?s1 rfl rfl ?_)
  case si=>exact info_size sizeOf42
  case s1=>first | rfl | (repeat (first | exact one_nil | (apply one_cons;· first | rfl | assumption | exact one_bif rfl rfl)))
  clear H;intro w H;refine ePartO (by kernel_rfl) H ?_;refine eNil (k:=16) (by kernel_rfl) ?_;refine hK4 _ _ (cSR fun K8 hK8=>?_);clear hK4
  refine sLr underlying44 rfl ?si F rfl rfl rfl (H.whole 3 rfl) ?_
  case si=>exact info_size sizeOf44
  clear F a;intro a F
  refine sSr H 4 ?si F rfl rfl rfl ?s1 rfl rfl ?_
  case si=>exact info_size sizeOf44
  case s1=>first | rfl | (repeat (first | exact one_nil | (apply one_cons;· first | rfl | assumption | exact one_bif rfl rfl)))
  clear H;intro w H;refine nK hK8 ?_;clear hK8;refine wp_ret ?_;refine bRetC results117 F rfl underlying44 rfl H 4 rfl sizeOf44 rfl ?_
  first
  | exact Ans.ok (v:={ zIns with op:=4,dst:=v7,loc:=v25,aR:=v29.1,aN:=v29.2 }) (by unfold assignP;simp only [hr7,hr12,h15,hr25,hr29,Rs.bind,if_true,Bool.false_eq_true,if_false,reduceCtorEq]) ⟨rfl,_,_,H.selT 5 [0,1,2] rfl rfl⟩
  | exact Ans.ok (v:={ zIns with op:=5,dst:=v7,loc:=v43,aR:=v47.1,aN:=v47.2 }) (by unfold assignP;simp only [hr7,hr12,h15,h33,hr43,hr47,Rs.bind,if_true,Bool.false_eq_true,if_false,reduceCtorEq]) ⟨rfl,_,_,H.selT 5 [0,1,2] rfl rfl⟩
  | exact Ans.ok (v:={ zIns with op:=6,dst:=v7,loc:=v61,aR:=v65.1,aN:=v65.2,bR:=v69.1,bN:=v69.2 }) (by unfold assignP;simp only [hr7,hr12,h15,h33,h51,hr61,hr65,hr69,Rs.bind,if_true,Bool.false_eq_true,if_false,reduceCtorEq]) ⟨rfl,_,_,H.selT 5 [0,1,2] rfl rfl⟩
  | exact Ans.ok (v:={ zIns with op:=1,dst:=v7,loc:=v85,mode:=1 }) (by unfold assignP;simp only [hr7,hr12,h15,h33,h51,h74,hr85,h91,Rs.bind,if_true,Bool.false_eq_true,if_false,reduceCtorEq]) ⟨rfl,_,_,H.selT 5 [0,1,2] rfl rfl⟩
  | exact Ans.ok (v:={ zIns with op:=1,dst:=v7,loc:=v85 }) (by unfold assignP;simp only [hr7,hr12,h15,h33,h51,h74,hr85,h91,Rs.bind,if_true,Bool.false_eq_true,if_false,reduceCtorEq]) ⟨rfl,_,_,H.selT 5 [0,1,2] rfl rfl⟩
  | exact Ans.ok (v:=v14) (by unfold assignP;simp only [hr7,hr12,h15,h33,h51,h74,hr14,Rs.bind,if_true,Bool.false_eq_true,if_false,reduceCtorEq]) ⟨rfl,_,_,H.selT 5 [0,1,2] rfl rfl⟩
 rw [if_neg (by rw [h33];exact Bool.false_ne_true)] at H
 refine cSR fun K9 hK9=>sMv F rfl rfl rfl (qNc rfl rfl rfl (qFa (f:=0) (k:=0) underlying66 rfl sizeOf64 rfl rfl rfl rfl rfl ?_));clear F a;intro a F;refine sCall call139 F rfl rfl rfl (ptakes_any [99,97,115] hc (by (try simp only [PS.next]);omega) H) ?_;rintro e w ⟨rfl,H⟩;refine ⟨_,rfl,?_⟩;clear F a;intro a F;refine sAs F rfl rfl rfl (qNK hK9 ?_);clear hK9;clear F a;intro a F
 refine cIf F rfl (fun h51=>?_) (fun h51=>?_)
 ·
  rw [if_pos h51] at H;refine cRegRO (by kernel_rfl) (H.sel [1] rfl rfl) ?_;replace H:=H.drew;refine eTF 0 rfl (by kernel_rfl) F rfl rfl rfl (fun w=>rMv F rfl) (H.sel [1] rfl rfl) qq0 (qTF 1 rfl (by kernel_rfl) rfl rfl rfl (fun a F w=>rMv F rfl) (H.sel [1] rfl rfl) qq0 (qT 2 rfl (by kernel_rfl) rfl rfl rfl rfl (fun a F w H=>rNc F rfl) (H.sel [1] rfl rfl) qq0 (qTF 3 rfl (by kernel_rfl) rfl rfl rfl (fun a F w=>rFa (f:=1) (k:=3) underlying66 rfl sizeOf22 rfl rfl F rfl) (H.sel [1] rfl rfl) qq0 (qTF 6 rfl (by kernel_rfl) rfl rfl rfl (fun a F w=>rMv F rfl) (H.sel [1] rfl rfl) qq0 (qT 7 rfl (by kernel_rfl) rfl rfl rfl rfl (fun a F w H=>rNc F rfl) (H.sel [1] rfl rfl) qq0 (qTF 8 rfl (by kernel_rfl) rfl rfl rfl (fun a F w=>rFa (f:=0) (k:=0) underlying66 rfl sizeOf64 rfl rfl F rfl) (H.sel [1] rfl rfl) qq0 (qTF 10 rfl (by kernel_rfl) rfl rfl rfl (fun a F w=>rMv F rfl) (H.sel [1] rfl rfl) qq0 (qT 11 rfl (by kernel_rfl) rfl rfl rfl rfl (fun a F w H=>rNc F rfl) (H.sel [1] rfl rfl) qq0 (qTF 12 rfl (by kernel_rfl) rfl rfl rfl (fun a F w=>rFa (f:=0) (k:=0) underlying66 rfl sizeOf64 rfl rfl F rfl) (H.sel [1] rfl rfl) qq0 ?_)))))))));clear F a;intro a F;refine eOne (k:=10) (i:=4) rfl (by kernel_rfl) F rfl (oV F rfl rfl (rLd isAgg22 F rfl (H.cell 0 rfl rfl)) ?_);clear F a;intro a F;refine eKeep (H.sel [1] rfl rfl) ?_;refine eOne (k:=11) (i:=5) rfl (by kernel_rfl) F rfl (oCallP call133 F rfl rfl (ploc_any (s:=s.next.next.next) hc (by (try simp only [PS.next]);omega) (by exact hnl) H) ?_);rintro e w hq9
  rcases hq9.cases with ⟨p9,e9,hn61,rfl,H⟩ | ⟨v61,t61,hr61,rfl,B61,D61,H⟩
  ·
   refine .inl ⟨_,rfl,?_⟩
   exact And.intro F.nod (Ans.no (by unfold assignP;simp only [hr7,hr12,h15,h33,h51,hn61,Rs.bind,if_true,Bool.false_eq_true,if_false,reduceCtorEq]) H.tail.tail)
  obtain ⟨hn6,hp61⟩:=loc_six (s:=s.next.next.next) hnl v61 t61 hr61;simp only [PS.next] at hp61
  refine .inr ⟨_,rfl,?_⟩
  clear F a;intro a F;refine eKeep (H.sel [1] rfl rfl) ?_;refine eOne (k:=12) (i:=9) rfl (by kernel_rfl) F rfl (oCallP call140 F rfl rfl (parg_any hc (by (try simp only [PS.next]);omega) H) ?_);rintro e w hq9
  rcases hq9.cases with ⟨p9,e9,hn65,rfl,H⟩ | ⟨v65,t65,hr65,rfl,H⟩
  ·
   refine .inl ⟨_,rfl,?_⟩
   exact And.intro F.nod (Ans.no (by unfold assignP;simp only [hr7,hr12,h15,h33,h51,hr61,hn65,Rs.bind,if_true,Bool.false_eq_true,if_false,reduceCtorEq]) H.tail.tail.tail)
  obtain rfl:=(argP_all v65 t65 hr65).2.1
  refine .inr ⟨_,rfl,?_⟩
  clear F a;intro a F;refine eKeep (H.sel [1] rfl rfl) ?_;refine eOne (k:=13) (i:=13) rfl (by kernel_rfl) F rfl (oCallP call140 F rfl rfl (parg_any hc (by (try simp only [PS.next]);omega) H) ?_);rintro e w hq9
  rcases hq9.cases with ⟨p9,e9,hn69,rfl,H⟩ | ⟨v69,t69,hr69,rfl,H⟩
  ·
   refine .inl ⟨_,rfl,?_⟩
   exact And.intro F.nod (Ans.no (by unfold assignP;simp only [hr7,hr12,h15,h33,h51,hr61,hr65,hn69,Rs.bind,if_true,Bool.false_eq_true,if_false,reduceCtorEq]) H.tail.tail.tail)
  obtain rfl:=(argP_all v69 t69 hr69).2.1
  refine .inr ⟨_,rfl,?_⟩
  clear F a;intro a F;refine ePartO (by kernel_rfl) H ?_;refine eTF 14 rfl (by kernel_rfl) F rfl rfl rfl (fun w=>rFa (f:=0) (k:=0) underlying44 rfl sizeOf5 rfl rfl F rfl) H qq0 ?_;clear F a;intro a F;refine eOne (k:=15) (i:=15) rfl (by kernel_rfl) F rfl (oSt H 3 sizeOf5 F rfl rfl rfl rfl rfl ?_);clear H;intro w H;refine ePartO (by kernel_rfl) H ?_;refine eTF 16 rfl (by kernel_rfl) F rfl rfl rfl (fun w=>rFa (f:=2) (k:=2) underlying44 rfl sizeOf5 rfl rfl F rfl) H qq0 ?_;clear F a;intro a F;refine eOne (k:=17) (i:=17) rfl (by kernel_rfl) F rfl (oSt H 3 sizeOf5 F rfl rfl rfl rfl rfl ?_);clear H;intro w H;refine ePartO (by kernel_rfl) H ?_;refine eTF 18 rfl (by kernel_rfl) F rfl rfl rfl (fun w=>rFa (f:=3) (k:=3) underlying44 rfl sizeOf42 rfl rfl F rfl) H qq0 ?_;clear F a;intro a F
  refine eOne (k:=19) (i:=19) rfl (by kernel_rfl) F rfl (oSr H 3 ?si F rfl rfl ?s1 rfl rfl ?_)
  case si=>exact info_size sizeOf42
  case s1=>first | rfl | (repeat (first | exact one_nil | (apply one_cons;· first | rfl | assumption | exact one_bif rfl rfl)))
  clear H;intro w H;refine ePartO (by kernel_rfl) H ?_;refine eTF 20 rfl (by kernel_rfl) F rfl rfl rfl (fun w=>rFa (f:=4) (k:=5) underlying44 rfl sizeOf42 rfl rfl F rfl) H qq0 ?_;clear F a;intro a F
  refine eOne (k:=21) (i:=21) rfl (by kernel_rfl) F rfl (oSr H 3 ?si F rfl rfl ?s1 rfl rfl ?_)
  case si=>exact info_size sizeOf42
  case s1=>first | rfl | (repeat (first | exact one_nil | (apply one_cons;· first | rfl | assumption | exact one_bif rfl rfl)))
  clear H;intro w H;refine ePartO (by kernel_rfl) H ?_;refine eNil (k:=22) (by kernel_rfl) ?_;refine hK4 _ _ (cSR fun K10 hK10=>?_);clear hK4
  refine sLr underlying44 rfl ?si F rfl rfl rfl (H.whole 3 rfl) ?_
  case si=>exact info_size sizeOf44
  clear F a;intro a F
  refine sSr H 4 ?si F rfl rfl rfl ?s1 rfl rfl ?_
  case si=>exact info_size sizeOf44
  case s1=>first | rfl | (repeat (first | exact one_nil | (apply one_cons;· first | rfl | assumption | exact one_bif rfl rfl)))
  clear H;intro w H;refine nK hK10 ?_;clear hK10;refine wp_ret ?_;refine bRetC results117 F rfl underlying44 rfl H 4 rfl sizeOf44 rfl ?_
  first
  | exact Ans.ok (v:={ zIns with op:=4,dst:=v7,loc:=v25,aR:=v29.1,aN:=v29.2 }) (by unfold assignP;simp only [hr7,hr12,h15,hr25,hr29,Rs.bind,if_true,Bool.false_eq_true,if_false,reduceCtorEq]) ⟨rfl,_,_,H.selT 5 [0,1,2] rfl rfl⟩
  | exact Ans.ok (v:={ zIns with op:=5,dst:=v7,loc:=v43,aR:=v47.1,aN:=v47.2 }) (by unfold assignP;simp only [hr7,hr12,h15,h33,hr43,hr47,Rs.bind,if_true,Bool.false_eq_true,if_false,reduceCtorEq]) ⟨rfl,_,_,H.selT 5 [0,1,2] rfl rfl⟩
  | exact Ans.ok (v:={ zIns with op:=6,dst:=v7,loc:=v61,aR:=v65.1,aN:=v65.2,bR:=v69.1,bN:=v69.2 }) (by unfold assignP;simp only [hr7,hr12,h15,h33,h51,hr61,hr65,hr69,Rs.bind,if_true,Bool.false_eq_true,if_false,reduceCtorEq]) ⟨rfl,_,_,H.selT 5 [0,1,2] rfl rfl⟩
  | exact Ans.ok (v:={ zIns with op:=1,dst:=v7,loc:=v85,mode:=1 }) (by unfold assignP;simp only [hr7,hr12,h15,h33,h51,h74,hr85,h91,Rs.bind,if_true,Bool.false_eq_true,if_false,reduceCtorEq]) ⟨rfl,_,_,H.selT 5 [0,1,2] rfl rfl⟩
  | exact Ans.ok (v:={ zIns with op:=1,dst:=v7,loc:=v85 }) (by unfold assignP;simp only [hr7,hr12,h15,h33,h51,h74,hr85,h91,Rs.bind,if_true,Bool.false_eq_true,if_false,reduceCtorEq]) ⟨rfl,_,_,H.selT 5 [0,1,2] rfl rfl⟩
  | exact Ans.ok (v:=v14) (by unfold assignP;simp only [hr7,hr12,h15,h33,h51,h74,hr14,Rs.bind,if_true,Bool.false_eq_true,if_false,reduceCtorEq]) ⟨rfl,_,_,H.selT 5 [0,1,2] rfl rfl⟩
 rw [if_neg (by rw [h51];exact Bool.false_ne_true)] at H
 refine cSR fun K11 hK11=>sMv F rfl rfl rfl (qNc rfl rfl rfl (qFa (f:=0) (k:=0) underlying66 rfl sizeOf64 rfl rfl rfl rfl rfl ?_));clear F a;intro a F;refine sCall call54 F rfl rfl rfl (pword_any hc (by (try simp only [PS.next]);omega) H) ?_;rintro e w ⟨rfl,H⟩;refine ⟨_,rfl,?_⟩;clear F a;intro a F;refine sCall call119 F rfl rfl rfl (name_any (c.word s.next.next.pos) _ (hc.wordLe _) _ rfl) ?_;rintro e w ⟨rfl,rfl⟩;refine ⟨_,rfl,?_⟩;clear F a;intro a F;refine sAs F rfl rfl rfl (qNK hK11 ?_);clear hK11;clear F a;intro a F
 refine cIf F rfl (fun h74=>?_) (fun h74=>?_)
 ·
  refine cSR fun K12 hK12=>sMv F rfl rfl rfl (qMv rfl rfl rfl (qNc rfl rfl rfl (qFa (f:=1) (k:=3) underlying66 rfl sizeOf22 rfl rfl rfl rfl rfl (qLd isAgg22 rfl rfl rfl (H.cell 0 rfl rfl) ?_))));clear F a;intro a F;refine sCallP call133 F rfl rfl rfl (ploc_any (s:=s.next.next) hc (by (try simp only [PS.next]);omega) (by exact hnl) H) ?_;rintro e w hq9
  rcases hq9.cases with ⟨p9,e9,hn85,rfl,H⟩ | ⟨v85,t85,hr85,rfl,B85,D85,H⟩
  ·
   refine .inl ⟨_,rfl,?_⟩
   exact And.intro F.nod (Ans.no (by unfold assignP;simp only [hr7,hr12,h15,h33,h51,h74,hn85,Rs.bind,if_true,Bool.false_eq_true,if_false,reduceCtorEq]) H.tail.tail)
  obtain ⟨hn6,hp85⟩:=loc_six (s:=s.next.next) hnl v85 t85 hr85;simp only [PS.next] at hp85
  refine .inr ⟨_,rfl,?_⟩
  clear F a;intro a F;refine sFa (f:=0) (k:=0) underlying44 rfl sizeOf5 rfl rfl F rfl rfl rfl ?_;clear F a;intro a F;refine sSt H 3 sizeOf5 F rfl rfl rfl rfl rfl rfl ?_;clear H;intro w H;refine sFa (f:=2) (k:=2) underlying44 rfl sizeOf5 rfl rfl F rfl rfl rfl ?_;clear F a;intro a F;refine sSt H 3 sizeOf5 F rfl rfl rfl rfl rfl rfl ?_;clear H;intro w H;refine nK hK12 (cSR fun K13 hK13=>sMv F rfl rfl rfl (qNc rfl rfl rfl (qFa (f:=0) (k:=0) underlying66 rfl sizeOf64 rfl rfl rfl rfl rfl ?_)));clear hK12;clear F a;intro a F;refine sCall call139 F rfl rfl rfl (ptakes_any [97,99,113] hc (by (try simp only [PS.next]);omega) H) ?_;rintro e w ⟨rfl,H⟩;refine ⟨_,rfl,?_⟩;clear F a;intro a F;refine nK hK13 ?_;clear hK13
  refine cIf F rfl (fun h91=>?_) (fun h91=>?_)
  ·
   rw [if_pos h91] at H;refine cReg (sFa (f:=6) (k:=8) underlying44 rfl sizeOf5 rfl rfl F rfl rfl rfl ?_);clear F a;intro a F;refine sSt H 3 sizeOf5 F rfl rfl rfl rfl rfl rfl ?_;clear H;intro w H;refine nK hK4 (cSR fun K14 hK14=>?_);clear hK4
   refine sLr underlying44 rfl ?si F rfl rfl rfl (H.whole 3 rfl) ?_
   case si=>exact info_size sizeOf44
   clear F a;intro a F
   refine sSr H 4 ?si F rfl rfl rfl ?s1 rfl rfl ?_
   case si=>exact info_size sizeOf44
   case s1=>first | rfl | (repeat (first | exact one_nil | (apply one_cons;· first | rfl | assumption | exact one_bif rfl rfl)))
   clear H;intro w H;refine nK hK14 ?_;clear hK14;refine wp_ret ?_;refine bRetC results117 F rfl underlying44 rfl H 4 rfl sizeOf44 rfl ?_
   first
   | exact Ans.ok (v:={ zIns with op:=4,dst:=v7,loc:=v25,aR:=v29.1,aN:=v29.2 }) (by unfold assignP;simp only [hr7,hr12,h15,hr25,hr29,Rs.bind,if_true,Bool.false_eq_true,if_false,reduceCtorEq]) ⟨rfl,_,_,H.selT 5 [0,1,2] rfl rfl⟩
   | exact Ans.ok (v:={ zIns with op:=5,dst:=v7,loc:=v43,aR:=v47.1,aN:=v47.2 }) (by unfold assignP;simp only [hr7,hr12,h15,h33,hr43,hr47,Rs.bind,if_true,Bool.false_eq_true,if_false,reduceCtorEq]) ⟨rfl,_,_,H.selT 5 [0,1,2] rfl rfl⟩
   | exact Ans.ok (v:={ zIns with op:=6,dst:=v7,loc:=v61,aR:=v65.1,aN:=v65.2,bR:=v69.1,bN:=v69.2 }) (by unfold assignP;simp only [hr7,hr12,h15,h33,h51,hr61,hr65,hr69,Rs.bind,if_true,Bool.false_eq_true,if_false,reduceCtorEq]) ⟨rfl,_,_,H.selT 5 [0,1,2] rfl rfl⟩
   | exact Ans.ok (v:={ zIns with op:=1,dst:=v7,loc:=v85,mode:=1 }) (by unfold assignP;simp only [hr7,hr12,h15,h33,h51,h74,hr85,h91,Rs.bind,if_true,Bool.false_eq_true,if_false,reduceCtorEq]) ⟨rfl,_,_,H.selT 5 [0,1,2] rfl rfl⟩
   | exact Ans.ok (v:={ zIns with op:=1,dst:=v7,loc:=v85 }) (by unfold assignP;simp only [hr7,hr12,h15,h33,h51,h74,hr85,h91,Rs.bind,if_true,Bool.false_eq_true,if_false,reduceCtorEq]) ⟨rfl,_,_,H.selT 5 [0,1,2] rfl rfl⟩
   | exact Ans.ok (v:=v14) (by unfold assignP;simp only [hr7,hr12,h15,h33,h51,h74,hr14,Rs.bind,if_true,Bool.false_eq_true,if_false,reduceCtorEq]) ⟨rfl,_,_,H.selT 5 [0,1,2] rfl rfl⟩
  rw [if_neg (by rw [h91];exact Bool.false_ne_true)] at H
  refine wp_skip (hK4 _ _ (cSR fun K15 hK15=>?_));clear hK4
  refine sLr underlying44 rfl ?si F rfl rfl rfl (H.whole 3 rfl) ?_
  case si=>exact info_size sizeOf44
  clear F a;intro a F
  refine sSr H 4 ?si F rfl rfl rfl ?s1 rfl rfl ?_
  case si=>exact info_size sizeOf44
  case s1=>first | rfl | (repeat (first | exact one_nil | (apply one_cons;· first | rfl | assumption | exact one_bif rfl rfl)))
  clear H;intro w H;refine nK hK15 ?_;clear hK15;refine wp_ret ?_;refine bRetC results117 F rfl underlying44 rfl H 4 rfl sizeOf44 rfl ?_
  first
  | exact Ans.ok (v:={ zIns with op:=4,dst:=v7,loc:=v25,aR:=v29.1,aN:=v29.2 }) (by unfold assignP;simp only [hr7,hr12,h15,hr25,hr29,Rs.bind,if_true,Bool.false_eq_true,if_false,reduceCtorEq]) ⟨rfl,_,_,H.selT 5 [0,1,2] rfl rfl⟩
  | exact Ans.ok (v:={ zIns with op:=5,dst:=v7,loc:=v43,aR:=v47.1,aN:=v47.2 }) (by unfold assignP;simp only [hr7,hr12,h15,h33,hr43,hr47,Rs.bind,if_true,Bool.false_eq_true,if_false,reduceCtorEq]) ⟨rfl,_,_,H.selT 5 [0,1,2] rfl rfl⟩
  | exact Ans.ok (v:={ zIns with op:=6,dst:=v7,loc:=v61,aR:=v65.1,aN:=v65.2,bR:=v69.1,bN:=v69.2 }) (by unfold assignP;simp only [hr7,hr12,h15,h33,h51,hr61,hr65,hr69,Rs.bind,if_true,Bool.false_eq_true,if_false,reduceCtorEq]) ⟨rfl,_,_,H.selT 5 [0,1,2] rfl rfl⟩
  | exact Ans.ok (v:={ zIns with op:=1,dst:=v7,loc:=v85,mode:=1 }) (by unfold assignP;simp only [hr7,hr12,h15,h33,h51,h74,hr85,h91,Rs.bind,if_true,Bool.false_eq_true,if_false,reduceCtorEq]) ⟨rfl,_,_,H.selT 5 [0,1,2] rfl rfl⟩
  | exact Ans.ok (v:={ zIns with op:=1,dst:=v7,loc:=v85 }) (by unfold assignP;simp only [hr7,hr12,h15,h33,h51,h74,hr85,h91,Rs.bind,if_true,Bool.false_eq_true,if_false,reduceCtorEq]) ⟨rfl,_,_,H.selT 5 [0,1,2] rfl rfl⟩
  | exact Ans.ok (v:=v14) (by unfold assignP;simp only [hr7,hr12,h15,h33,h51,h74,hr14,Rs.bind,if_true,Bool.false_eq_true,if_false,reduceCtorEq]) ⟨rfl,_,_,H.selT 5 [0,1,2] rfl rfl⟩
 refine cReg (sMv F rfl rfl rfl ?_);clear F a;intro a F;refine sCallP call141 F rfl rfl rfl (pmove_any v7 hc (by (try simp only [PS.next]);omega) (H.selT 5 [0,1,3,2,4] rfl rfl)) ?_;rintro e w hq9
 rcases hq9.cases with ⟨p9,e9,hn14,rfl,H⟩ | ⟨v14,t14,hr14,rfl,H⟩
 ·
  refine .inl ⟨_,rfl,?_⟩
  exact And.intro F.nod (Ans.no (by unfold assignP;simp only [hr7,hr12,h15,h33,h51,h74,hn14,Rs.bind,if_true,Bool.false_eq_true,if_false,reduceCtorEq]) H.tail.tail)
 rw [← show t14.names=s.names from move_names (s:=s.next.next) v14 t14 hr14] at H
 refine .inr ⟨_,rfl,?_⟩
 clear F a;intro a F;refine nK hK4 (cSR fun K16 hK16=>?_);clear hK4
 refine sLr underlying44 rfl ?si F rfl rfl rfl (H.whole 2 rfl) ?_
 case si=>exact info_size sizeOf44
 clear F a;intro a F
 refine sSr H 4 ?si F rfl rfl rfl ?s1 rfl rfl ?_
 case si=>exact info_size sizeOf44
 case s1=>first | rfl | (repeat (first | exact one_nil | (apply one_cons;· first | rfl | assumption | exact one_bif rfl rfl)))
 clear H;intro w H;refine nK hK16 ?_;clear hK16;refine wp_ret ?_;refine bRetC results117 F rfl underlying44 rfl H 4 rfl sizeOf44 rfl ?_
 first
 | exact Ans.ok (v:={ zIns with op:=4,dst:=v7,loc:=v25,aR:=v29.1,aN:=v29.2 }) (by unfold assignP;simp only [hr7,hr12,h15,hr25,hr29,Rs.bind,if_true,Bool.false_eq_true,if_false,reduceCtorEq]) ⟨rfl,_,_,H.selT 5 [0,1,3] rfl rfl⟩
 | exact Ans.ok (v:={ zIns with op:=5,dst:=v7,loc:=v43,aR:=v47.1,aN:=v47.2 }) (by unfold assignP;simp only [hr7,hr12,h15,h33,hr43,hr47,Rs.bind,if_true,Bool.false_eq_true,if_false,reduceCtorEq]) ⟨rfl,_,_,H.selT 5 [0,1,3] rfl rfl⟩
 | exact Ans.ok (v:={ zIns with op:=6,dst:=v7,loc:=v61,aR:=v65.1,aN:=v65.2,bR:=v69.1,bN:=v69.2 }) (by unfold assignP;simp only [hr7,hr12,h15,h33,h51,hr61,hr65,hr69,Rs.bind,if_true,Bool.false_eq_true,if_false,reduceCtorEq]) ⟨rfl,_,_,H.selT 5 [0,1,3] rfl rfl⟩
 | exact Ans.ok (v:={ zIns with op:=1,dst:=v7,loc:=v85,mode:=1 }) (by unfold assignP;simp only [hr7,hr12,h15,h33,h51,h74,hr85,h91,Rs.bind,if_true,Bool.false_eq_true,if_false,reduceCtorEq]) ⟨rfl,_,_,H.selT 5 [0,1,3] rfl rfl⟩
 | exact Ans.ok (v:={ zIns with op:=1,dst:=v7,loc:=v85 }) (by unfold assignP;simp only [hr7,hr12,h15,h33,h51,h74,hr85,h91,Rs.bind,if_true,Bool.false_eq_true,if_false,reduceCtorEq]) ⟨rfl,_,_,H.selT 5 [0,1,3] rfl rfl⟩
 | exact Ans.ok (v:=v14) (by unfold assignP;simp only [hr7,hr12,h15,h33,h51,h74,hr14,Rs.bind,if_true,Bool.false_eq_true,if_false,reduceCtorEq]) ⟨rfl,_,_,H.selT 5 [0,1,3] rfl rfl⟩
-- PrI
open Go.RowKit
set_option maxRecDepth 100000
theorem baEq (a b:ByteArray):(a == b)=(a.toList == b.toList):=by
 have e:(a == b)=(a.data == b.data):=rfl
 rw [e,Bool.eq_iff_iff,beq_iff_eq,beq_iff_eq]
 exact ⟨fun h=>by rw [toList_data,toList_data,h],fun h=>congrArg ByteArray.data (eq_of_toList h)⟩
def startsM:List (ByteArray × Value):=[(⟨#[102,101,110,99,101]⟩,.func (.func 136) #[] #[]),(⟨#[115,107,105,112]⟩,.func (.func 137) #[] #[])]
def insF (k:Nat):Value:=if k=0 then .func (.func 136) #[] #[] else if k=1 then .func (.func 137) #[] #[] else if k=2 then .func (.func 117) #[] #[] else .func (.func 118) #[] #[]
theorem find_cons (w u:ByteArray) (v:Value) (r:List (ByteArray × Value)):findT w ((u,v) :: r)=if (w.toList == u.toList)=true then some (u,v) else findT w r:=by
 unfold findT
 rw [List.find?_cons,baEq]
 cases w.toList == u.toList <;> rfl
theorem start_fnc {c:PX} {i:Nat} (h:c.kw i [102,101,110,99,101]=true):(findT (c.word i) startsM).map (·.2)=some (insF (startP c i))∧mayP c i=true:=by
 have h2:=h
 rw [← kw_lit] at h2
 refine ⟨?_,?_⟩
 · unfold startsM startP
   rw [find_cons,if_pos h2,if_pos h];rfl
 · unfold mayP;rw [h];rfl
theorem start_skp {c:PX} {i:Nat} (h0:c.kw i [102,101,110,99,101]=false) (h:c.kw i [115,107,105,112]=true):(findT (c.word i) startsM).map (·.2)=some (insF (startP c i))∧mayP c i=true:=by
 have h2:=h
 have h3:=h0
 rw [← kw_lit] at h2 h3
 refine ⟨?_,?_⟩
 · unfold startsM startP
   rw [find_cons,h3,if_neg Bool.false_ne_true,find_cons,if_pos h2,h0,if_neg Bool.false_ne_true,if_pos h];rfl
 · unfold mayP;rw [h0,h];rfl
theorem start_els {c:PX} {i:Nat} (h0:c.kw i [102,101,110,99,101]=false) (h:c.kw i [115,107,105,112]=false):findT (c.word i) startsM=none:=by
 rw [← kw_lit] at h0 h
 unfold startsM
 rw [find_cons,h0,if_neg Bool.false_ne_true,find_cons,h,if_neg Bool.false_ne_true];rfl
theorem start_asg {c:PX} {i:Nat} (h0:c.kw i [102,101,110,99,101]=false) (h:c.kw i [115,107,105,112]=false) (hr:regOk (c.word i)=true):startP c i=2∧mayP c i=true:=by
 unfold startP mayP
 rw [h0,h,hr];exact ⟨rfl,rfl⟩
theorem start_sto {c:PX} {i:Nat} (h0:c.kw i [102,101,110,99,101]=false) (h:c.kw i [115,107,105,112]=false) (hr:regOk (c.word i)=false):startP c i=3∧mayP c i=nameOk (c.word i):=by
 unfold startP mayP
 rw [h0,h,hr];exact ⟨rfl,rfl⟩
theorem pstarts_any {W w0:World} {rs:List Res} (H:Own W none w0 rs):Calls Tryz.prog 115 #[] w0 fun e w'=>∃ b,e = .returned (.map (some b))∧Own W none w' (.mpT b startsM :: rs):=by
 refine enterF Tryz.func115 rfl Tryz.ntmps115 rfl (fun a F=>?_);refine cSR fun K1 hK1=>sAs F rfl rfl rfl (qNK hK1 (qSR fun K2 hK2=>?_));clear hK1;clear F a;intro a F;refine sMkT H F rfl rfl ?_;clear F a H;intro b1 a w F H;refine sInsT H 0 Tryz.underlying147 Tryz.underlying9 F rfl rfl rfl rfl rfl (by kernel_rfl) ?_;clear H;intro w H;refine sInsT H 0 Tryz.underlying147 Tryz.underlying9 F rfl rfl rfl rfl rfl (by kernel_rfl) ?_;clear H;intro w H;refine sMv F rfl rfl rfl (qAs rfl rfl rfl (qNK hK2 ?_));clear hK2;clear F a;intro a F;refine wp_ret ?_;refine bRet Tryz.results115 F rfl ?_
 exact ⟨_,rfl,H⟩
theorem pstart_any {W w0:World} {rs:List Res} {c:PX} (hc:c.Ok) {A:Option Addr} {C bp:Nat} {S:Nat→Prop} {s:PS} {Y:List Value} (hp:s.pos≤1000000) (H:Own W none w0 (.blk bp (curC c A C s Y) 66 :: .held S A 3 (rowsT c.ts) :: rs)) :
   Calls Tryz.prog 63 #[.pointer (some ⟨bp,0,none⟩)] w0 fun e w'=>e = .returned (.tuple #[insF (startP c s.pos),.bool (mayP c s.pos)])∧Own W none w' (.blk bp (curC c A C s Y) 66 :: .held S A 3 (rowsT c.ts) :: rs):=by
 refine enterF Tryz.func63 rfl Tryz.ntmps63 rfl (fun a F=>?_);refine cSR fun K1 hK1=>sAs F rfl rfl rfl (qAs rfl rfl rfl (qNK hK1 (qSR fun K2 hK2=>qMv rfl rfl rfl (qNc rfl rfl rfl (qFa (f:=0) (k:=0) Tryz.underlying66 rfl Tryz.sizeOf64 rfl rfl rfl rfl rfl ?_)))));clear hK1;clear F a;intro a F;refine sCall Tryz.call54 F rfl rfl rfl (pword_any hc hp H) ?_;rintro e w ⟨rfl,H⟩;refine ⟨_,rfl,?_⟩;clear F a;intro a F;refine sAs F rfl rfl rfl (qNK hK2 ?_);clear hK2;clear F a;intro a F;refine cSeq (fun K3 hK3=>?_);refine cSR fun K4 hK4=>?_;refine sCall Tryz.call115 F rfl rfl rfl (pstarts_any H) ?_;rintro e w ⟨b14,rfl,H⟩;refine ⟨_,rfl,?_⟩;clear F a;intro a F;refine sMv F rfl rfl rfl ?_;clear F a;intro a F;refine stepV F rfl rfl rfl (rLkT H 0 Tryz.underlying147 Tryz.underlying9 Tryz.zeroValue112 F rfl rfl rfl) ?_;clear F a;intro a F;refine sMv F rfl rfl rfl (qExt rfl rfl rfl rfl (qExt rfl rfl rfl rfl (qAs rfl rfl rfl (qAs rfl rfl rfl (qNK hK4 (qSR fun K5 hK5=>qMv rfl rfl rfl (qNK hK5 ?_)))))));clear hK4 hK5;clear F a;intro a F
 refine cIf F rfl (fun h19=>?_) (fun h19=>?_)
 ·
  obtain ⟨hf,hm⟩:(findT (c.word s.pos) startsM).map (·.2)=some (insF (startP c s.pos))∧mayP c s.pos=true:=by
    cases k0:c.kw s.pos [102,101,110,99,101] with
    | true=>exact start_fnc k0
    | false=>
      cases k1:c.kw s.pos [115,107,105,112] with
      | true=>exact start_skp k0 k1
      | false=>rw [start_els k0 k1] at h19;cases h19
  refine cSR fun K6 hK6=>sMv F rfl rfl rfl (qAs rfl rfl rfl (qAs rfl rfl rfl (qNK hK6 ?_)));clear hK6;clear F a;intro a F;refine wp_ret ?_;simp only [Exit.then];refine bRet2 Tryz.results63 F rfl rfl ?_
  first
  | exact ⟨by rw [hm];show Ending.returned (.tuple #[((findT (c.word s.pos) startsM).map (·.2)).getD _,.bool true])=_;rw [hf];rfl,H.tail⟩
  | exact ⟨by rw [e1,e2];rfl,H.tail⟩
 have k0:c.kw s.pos [102,101,110,99,101]=false:=by
   cases k0:c.kw s.pos [102,101,110,99,101] with
   | true=>have:=(start_fnc k0).1;rw [Option.map_eq_some_iff] at this;obtain ⟨x,hx,_⟩:=this;rw [hx] at h19;cases h19
   | false=>rfl
 have k1:c.kw s.pos [115,107,105,112]=false:=by
   cases k1:c.kw s.pos [115,107,105,112] with
   | true=>have:=(start_skp k0 k1).1;rw [Option.map_eq_some_iff] at this;obtain ⟨x,hx,_⟩:=this;rw [hx] at h19;cases h19
   | false=>rfl
 refine wp_skip (hK3 _ _ ?_);clear hK3;refine cSeq (fun K7 hK7=>?_);refine cSR fun K8 hK8=>sMv F rfl rfl rfl ?_;clear F a;intro a F;refine sCall Tryz.call116 F rfl rfl rfl (reg_any (c.word s.pos) _ _ rfl) ?_;rintro e w ⟨rfl,rfl⟩;refine ⟨_,rfl,?_⟩;clear F a;intro a F;refine sMv F rfl rfl rfl (qExt rfl rfl rfl rfl (qExt rfl rfl rfl rfl (qAs rfl rfl rfl (qAs rfl rfl rfl (qNK hK8 (qSR fun K9 hK9=>qMv rfl rfl rfl (qNK hK9 ?_)))))));clear hK8 hK9;clear F a;intro a F
 refine cIf F rfl (fun h26=>?_) (fun h26=>?_)
 ·
  obtain ⟨e1,e2⟩:=start_asg k0 k1 h26
  refine cSR fun K10 hK10=>sAs F rfl rfl rfl (qAs rfl rfl rfl (qNK hK10 ?_));clear hK10;clear F a;intro a F;refine wp_ret ?_;simp only [Exit.then];refine bRet2 Tryz.results63 F rfl rfl ?_
  first
  | exact ⟨by rw [hm];show Ending.returned (.tuple #[((findT (c.word s.pos) startsM).map (·.2)).getD _,.bool true])=_;rw [hf];rfl,H.tail⟩
  | exact ⟨by rw [e1,e2];rfl,H.tail⟩
 obtain ⟨e1,e2⟩:=start_sto k0 k1 h26
 refine wp_skip (hK7 _ _ (cSR fun K11 hK11=>sMv F rfl rfl rfl ?_));clear hK7;clear F a;intro a F;refine sCall Tryz.call119 F rfl rfl rfl (name_any (c.word s.pos) _ (hc.wordLe _) _ rfl) ?_;rintro e w ⟨rfl,rfl⟩;refine ⟨_,rfl,?_⟩;clear F a;intro a F;refine sAs F rfl rfl rfl (qAs rfl rfl rfl (qNK hK11 ?_));clear hK11;clear F a;intro a F;refine wp_ret ?_;refine bRet2 Tryz.results63 F rfl rfl ?_
 first
 | exact ⟨by rw [hm];show Ending.returned (.tuple #[((findT (c.word s.pos) startsM).map (·.2)).getD _,.bool true])=_;rw [hf];rfl,H.tail⟩
 | exact ⟨by rw [e1,e2];rfl,H.tail⟩
end Go.Proofs.YtkchaoajegkadaaGreatDoor
