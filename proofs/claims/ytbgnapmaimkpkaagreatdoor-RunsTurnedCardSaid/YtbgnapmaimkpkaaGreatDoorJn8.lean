/-
  Plain Lean: the states of the store buffering test. Conditions: none.
-/
import Derived.Test.YtbgnapmaimkpkaaGreatDoorJn4
import Derived.Test.YtbgnapmaimkpkaaGreatDoorJn7
import Derived.Test.YtbgnapmaimkpkaaGreatDoorCkL
import Derived.Test.YtbgnapmaimkpkaaGreatDoorVcL
set_option linter.unusedSimpArgs false
set_option linter.unusedVariables false
namespace Go.Proofs.YtbgnapmaimkpkaaGreatDoor
-- RnV
set_option maxRecDepth 1000000
def scL:List Nat:=[0,0x1000000000000000000000000000000000000000000000000000000000000000000000001,0x100000000000000000000000000000000000000000000000000000001000000000000000000,0x1000000000000000000000000000000000000000000000000000000000000000000000002,0x101000000000000000000000000000000000000000000000000000001000000000000000001,0x100000000000000000000000000000000000000000000000000000002000000000000000000,0x101000000000000000000000000000000000000000000000000000001000000000000000002,0x101000000000000000000000000000000000000000000000000000001000000000000000102,0x101000000000000000000000000000000000000000000000000000102000000000000000001,0x101000000000000000000000000000000000000000000000000000002000000000000000001,0x101000000000000000000000000000000000000000000000000000102000000000000000002,0x101000000000000000000000000000000000000000000000000000102000000000000000102,0x101000000000000000000000000000000000000000000000000000002000000000000000102]
def tsL:List Nat:=[0,0x1000000000000000000000000000000000000000000000000000000000000000000000000000000000000000000000000000000000000000000000000000000000000000000000000000000000000000000000000000000000000000000000100000000000000000000000000000000000000000000000000000000000000000000000000000000000001,0x100000000000000000000000000000000000000000000000000000000000000000000000000000000000000000000000000000000000000000000000000000000000000000000000101000000000000000000000000000000000000000000000000000000000000000000000000000000000000000000000000000000000000000001000000000000000000,0x1000000000000000000000000000000000000000000000000000000000000000000000000000000000000000000000000000000000000000000000000000000000000000000000000000000000000000000000000000000000000000000000100000000000000000000000000000000000000000000000000000000000000000000000000000000000002,0x1000000000000000000000000000000000000000000000000000000000000000000000001,0x101000000000000000000000000000000000000000000000000000000000000000000000000000000000000000000000000000000000000000000000000000000000000000000000101000000000000000000000000000000000000000000000100000000000000000000000000000000000000000000000000000000000000000001000000000000000001,0x100000000000000000000000000000000000000000000000000000000000000000000000000000000000000000000000000000000000000000000000000000000000000000000000101000000000000000000000000000000000000000000000000000000000000000000000000000000000000000000000000000000000000000002000000000000000000,0x100000000000000000000000000000000000000000000000000000001000000000000000000,0x1000000000000000000000000000000000000000000000000000000000000000000000002,0x101000000000000000000000000000000000000000000000000000000000000000000000000000000000000000000000000000000000000000000000000000000000000000000000101000000000000000000000000000000000000000000000100000000000000000000000000000000000000000000000000000000000000000001000000000000000002,0x100000000000000000000000000000000000000000000000000000000000000000000000000000000000000000000000000000000000000000000000000000000000000000000000101000000000000000000000000000000000000000000000000000000000001000000000000000000000000000000000000000000000000000001000000000000000001,0x101000000000000000000000000000000000000000000000000000000000000000000000000000000000000000000000000000000000000000000000000000000000000000000000101000000000000000000000000000000000000000000000100000000000000000000000000000000000000000000000000000000000000000002000000000000000001,0x1000000000000000000000000000000000000000000000000000000000000000000000000000000000000000000000000000000000000000000000000000000000000000000000000000000000000000000000000000000000000000000000100000000000100000000000000000000000000000000000000000000000000000001000000000000000001,0x100000000000000000000000000000000000000000000000000000002000000000000000000,0x100000000000000000000000000000000000000000000000000000000000000000000000000000000000000000000000000000000000000000000000000000000000000000000000101000000000000000000000000000000000000000000000000000000000001000000000000000000000000000000000000000000000000000001000000000000000002,0x101000000000000000000000000000000000000000000000000000000000000000000000000000000000000000000000000000000000000000000000000000000000000000000000101000000000000000000000000000000000000000000000100000000000000000000000000000000000000000000000000000000000000000002000000000000000002,0x1000000000000000000000000000000000000000000000000000000000000000000000000000000000000000000000000000000000000000000000000000000000000000000000000000000000000000000000000000000000000000000000100000000000100000000000000000000000000000000000000000000000000000001000000000000000002,0x100000000000000000000000000000000000000000000000000000000000000000000000000000000000000000000000000000000000000000000000000000000000000000000000101000000000000000000000000000000000000000000000000000000000001000000000000000000000000000000000000000000000000000102000000000000000001,0x101000000000000000000000000000000000000000000000000000001000000000000000001,0x100000000000000000000000000000000000000000000000000000000000000000000000000000000000000000000000000000000000000000000000000000000000000000000000101000000000000000000000000000000000000000000000000000000000001000000000000000000000000000000000000000000000000000002000000000000000001,0x1000000000000000000000000000000000000000000000000000000000000000000000000000000000000000000000000000000000000000000000000000000000000000000000000000000000000000000000000000000000000000000000100000000000100000000000000000000000000000000000000000000000000000002000000000000000001,0x1000000000000000000000000000000000000000000000000000000000000000000000000000000000000000000000000000000000000000000000000000000000000000000000000000000000000000000000000000000000000000000000100000000000100000000000000000000000000000000000000000000000000000001000000000000000102,0x100000000000000000000000000000000000000000000000000000000000000000000000000000000000000000000000000000000000000000000000000000000000000000000000101000000000000000000000000000000000000000000000000000000000001000000000000000000000000000000000000000000000000000102000000000000000002,0x101000000000000000000000000000000000000000000000000000001000000000000000002,0x100000000000000000000000000000000000000000000000000000000000000000000000000000000000000000000000000000000000000000000000000000000000000000000000101000000000000000000000000000000000000000000000000000000000001000000000000000000000000000000000000000000000000000002000000000000000002,0x1000000000000000000000000000000000000000000000000000000000000000000000000000000000000000000000000000000000000000000000000000000000000000000000000000000000000000000000000000000000000000000000100000000000100000000000000000000000000000000000000000000000000000002000000000000000002,0x101000000000000000000000000000000000000000000000000000102000000000000000001,0x101000000000000000000000000000000000000000000000000000001000000000000000102,0x101000000000000000000000000000000000000000000000000000002000000000000000001,0x1000000000000000000000000000000000000000000000000000000000000000000000000000000000000000000000000000000000000000000000000000000000000000000000000000000000000000000000000000000000000000000000100000000000100000000000000000000000000000000000000000000000000000002000000000000000102,0x101000000000000000000000000000000000000000000000000000102000000000000000002,0x101000000000000000000000000000000000000000000000000000002000000000000000002,0x101000000000000000000000000000000000000000000000000000102000000000000000102,0x101000000000000000000000000000000000000000000000000000002000000000000000102]
def scQ:List (Int × Pss):=[(-1,⟨0,false,0⟩),(0,⟨0,false,0⟩),(0,⟨1,false,0⟩),(1,⟨0,false,0⟩),(1,⟨1,false,0⟩),(2,⟨1,false,0⟩),(3,⟨1,false,0⟩),(4,⟨0,false,0⟩),(4,⟨1,false,0⟩),(5,⟨0,false,0⟩),(6,⟨1,false,0⟩),(7,⟨1,false,0⟩),(9,⟨0,false,0⟩)]
def tsQ:List (Int × Pss):=[(-1,⟨0,false,0⟩),(0,⟨0,false,0⟩),(0,⟨1,false,0⟩),(1,⟨0,false,0⟩),(1,⟨0,true,0⟩),(1,⟨1,false,0⟩),(2,⟨1,false,0⟩),(2,⟨1,true,0⟩),(3,⟨0,true,0⟩),(3,⟨1,false,0⟩),(4,⟨1,false,0⟩),(5,⟨1,false,0⟩),(5,⟨1,true,0⟩),(6,⟨1,true,0⟩),(8,⟨1,false,0⟩),(9,⟨1,false,0⟩),(9,⟨1,true,0⟩),(10,⟨1,false,0⟩),(10,⟨1,true,0⟩),(11,⟨0,true,0⟩),(11,⟨1,true,0⟩),(12,⟨0,false,0⟩),(14,⟨1,false,0⟩),(14,⟨1,true,0⟩),(15,⟨0,true,0⟩),(15,⟨1,true,0⟩),(17,⟨1,true,0⟩),(18,⟨0,false,0⟩),(19,⟨1,true,0⟩),(20,⟨0,false,0⟩),(22,⟨1,true,0⟩),(24,⟨1,true,0⟩),(26,⟨0,false,0⟩),(28,⟨0,false,0⟩)]
theorem sb_right:rightErr sbP=0:=by kernel_rfl
set_option maxHeartbeats 0 in
theorem sc_cert:searchC sbP 1 13 scL 14 0 1 [(-1,⟨0,false,0⟩)] []=some (13,scQ,[10,11,12]):=by kernel_rfl
set_option maxHeartbeats 0 in
theorem ts_cert:searchC sbP 2 1000 tsL 1001 0 1 [(-1,⟨0,false,0⟩)] []=some (34,tsQ,[30,31,32,33]):=by kernel_rfl
-- RnW
set_option maxRecDepth 1000000
def scF:Fnd:=⟨(scL.take 13).map ofN,scQ,[10,11,12]⟩
def tsF:Fnd:=⟨(tsL.take 34).map ofN,tsQ,[30,31,32,33]⟩
theorem sc_reach:reachR sbP 1 13=some scF:=reachC (y0:=0) sb_right (by decide) rfl (by kernel_rfl) sc_cert
theorem ts_reach:reachR sbP 2 1000=some tsF:=reachC (y0:=0) sb_right (by decide) rfl (by kernel_rfl) ts_cert
theorem sc_more:reachR sbP 1 1000=some scF:=(reach_lim (B:=1000) sb_right (by decide) (by decide) (by decide) sc_reach).1 (by decide)
theorem sc_less:reachR sbP 1 12=none:=(reach_lim (B:=12) sb_right (by decide) (by decide) (by decide) sc_reach).2 (by decide)
theorem sb_C {m:UInt8} {n:Int} (hm:knownM m=true) (h1:1≤n) (h2:n≤65536):statesC sbP m n:=⟨hm,h1,h2,sb_right⟩
theorem scR13:statesR sbP 1 13=some scF:=(if_pos (sb_C (by decide) (by decide) (by decide))).trans sc_reach
theorem scR1000:statesR sbP 1 1000=some scF:=(if_pos (sb_C (by decide) (by decide) (by decide))).trans sc_more
theorem tsR1000:statesR sbP 2 1000=some tsF:=(if_pos (sb_C (by decide) (by decide) (by decide))).trans ts_reach
theorem st_E {m:UInt8} {n:Int} {fd:Fnd} (h:statesR sbP m n=some fd):statesE sbP m n=0:=by
 unfold statesR at h
 unfold statesE
 split at h
 · rename_i hC
   rw [if_pos hC,h];rfl
 · cases h
theorem scE12:statesE sbP 1 12=5:=by
 unfold statesE
 rw [if_pos (sb_C (by decide) (by decide) (by decide))]
 show (if (reachR sbP 1 12).isSome=true then (0:Int) else 5)=5
 rw [sc_less];rfl
def outB (x a b:UInt8):By:=fun i=>if i=0 then a else if i=8 then b else if i=32 then x else if i=33 then 1 else 0
def e4:List By:=[outB 1 0 0,outB 1 0 1,outB 1 1 0,outB 1 1 1]
theorem e4_rising:Rising (tl e4):=of_decide_eq_true (p:=List.Pairwise (fun a b=>lexC a b < 0) (tl e4)) (by kernel_rfl)
theorem ts_sub:(finsR tsF).all ((tl e4).contains ·)=true:=by kernel_rfl
theorem ts_sup:(tl e4).all ((finsR tsF).contains ·)=true:=by kernel_rfl
theorem ts_finals {l:List By} (h:FinOut sbP 2 1000 l):tl l=tl e4:=by
 obtain ⟨_,_,h3,h4⟩:=h.2 (st_E tsR1000)
 have hI:=reach_ok sb_right (by decide) (by decide) ts_reach
 refine rising_unique h3 e4_rising fun x=>?_
 rw [h4,← fins_iff hI]
 constructor
 · intro hx
   have:=List.all_eq_true.1 ts_sub x hx
   simpa using this
 · intro hx
   have:=List.all_eq_true.1 ts_sup x hx
   simpa using this
def wayOf (fd:Fnd) (f:By):List Pss:=match hitR fd f with | none=>[] | some k=>wayR fd k
theorem ts_way:wayOf tsF (outB 1 0 0)=[⟨0,false,0⟩,⟨0,false,0⟩,⟨1,false,0⟩,⟨1,false,0⟩,⟨0,true,0⟩,⟨1,true,0⟩]:=by kernel_rfl
theorem sc_way:wayOf scF (outB 1 1 1)=[⟨0,false,0⟩,⟨1,false,0⟩,⟨0,false,0⟩,⟨1,false,0⟩]:=by kernel_rfl
theorem sc_no:(hitR scF (outB 7 1 1)).isSome=false:=by kernel_rfl
theorem ts_yes:(hitR tsF (outB 1 0 0)).isSome=true:=by kernel_rfl
theorem sc_yes:(hitR scF (outB 1 1 1)).isSome=true:=by kernel_rfl
theorem way_of {m:UInt8} {n:Int} {fd:Fnd} (h:statesR sbP m n=some fd) (f:By):wayL sbP m f n=wayOf fd f:=by unfold wayL wayOf;rw [h];rfl
theorem wayE_of {m:UInt8} {n:Int} {fd:Fnd} (h:statesR sbP m n=some fd) (f:By):wayE sbP m f n=if (hitR fd f).isSome=true then 0 else 6:=by
 unfold wayE
 rw [if_pos (st_E h),h]
 show (match hitR fd f with | none=>(6:Int) | some _=>0)=_
 cases hitR fd f <;> rfl
-- RnX
open Go.Proofs.Tryz
open Go.RowKit
set_option maxRecDepth 100000
theorem out_any (x y z:UInt8) (w0:World) :
   Calls Tryz.prog 38 #[Go.Proofs.YtbgnapmaimkpkaaGreatDoor.b8 x,Go.Proofs.YtbgnapmaimkpkaaGreatDoor.b8 y,Go.Proofs.YtbgnapmaimkpkaaGreatDoor.b8 z] w0 fun e w'=>e = .returned (.agg (bs 38 (outB x y z)).toArray)∧Below w0.heap.size w0 w':=by
 have H:=Own.start w0 none
 refine enterF func38 rfl ntmps38 rfl (fun a F=>?_);refine cSR fun K1 hK1=>?_;refine sAlB H zB47 F rfl rfl ?_;clear F a H;intro b6 a w F H;refine nK hK1 (cSR fun K2 hK2=>sMv F rfl rfl rfl (qBaB zB45 underlying45 sizeOf5 rfl rfl rfl (FillB.one rfl rfl (FillB.one (v:=1) rfl rfl FillB.nil)) (qBdB (places:=[(0,32),(32,6)]) zB47 underlying47 (by kernel_rfl) rfl rfl rfl (FillB.row rfl rfl FillB.nil) ?_)));clear hK1;clear F a;intro a F;refine sAlB H zB47 F rfl rfl ?_;clear F a H;intro b7 a w F H;refine sSrB H 0 sizeOf47 F rfl rfl rfl rfl (by omega) ?_;clear H;intro w H;rw [lay_all] at H;refine nK hK2 (cSR fun K3 hK3=>sMv F rfl rfl rfl (qMv rfl rfl rfl (qFa (f:=0) (k:=0) underlying47 rfl sizeOf44 rfl rfl rfl rfl rfl ?_)));clear hK2;clear F a;intro a F
 refine sIa (j:=0) underlying44 sizeOf43 F rfl rfl rfl rfl ?_ ?_
 focus (first | omega | decide | (simp;omega))
 clear F a;intro a F
 refine sIa (j:=0) underlying43 sizeOf5 F rfl rfl rfl rfl ?_ ?_
 focus (first | omega | decide | (simp;omega))
 clear F a;intro a F;refine sStB H 0 sizeOf5 F rfl rfl rfl rfl (by omega) ?_;clear H;intro w H;refine sFa (f:=0) (k:=0) underlying47 rfl sizeOf44 rfl rfl F rfl rfl rfl ?_;clear F a;intro a F
 refine sIa (j:=1) underlying44 sizeOf43 F rfl rfl rfl rfl ?_ ?_
 focus (first | omega | decide | (simp;omega))
 clear F a;intro a F
 refine sIa (j:=0) underlying43 sizeOf5 F rfl rfl rfl rfl ?_ ?_
 focus (first | omega | decide | (simp;omega))
 clear F a;intro a F;refine sStB H 0 sizeOf5 F rfl rfl rfl rfl (by omega) ?_;clear H;intro w H;refine nK hK3 (cSR fun K4 hK4=>sLrB underlying47 rfl sizeOf47 F rfl rfl rfl (H.whole 0 rfl) ?_);clear hK3;clear F a;intro a F;refine sSrB H 1 sizeOf47 F rfl rfl rfl rfl (by omega) ?_;clear H;intro w H;rw [lay_all] at H;refine nK hK4 ?_;clear hK4;refine wp_ret ?_;refine bRetB results38 F rfl underlying47 rfl sizeOf47 H 1 rfl ?_
 refine ⟨?_,H.below⟩
 refine congrArg (fun l:List Value=>Ending.returned (.agg l.toArray)) (bs_ext fun i hi=>?_)
 simp only [put,lay,zb,outB]
 by_cases h0:i=0
 · subst h0;rfl
 by_cases h8:i=8
 · subst h8;rfl
 by_cases h32:i=32
 · subst h32;rfl
 by_cases h33:i=33
 · subst h33;rfl
 rw [if_neg (by omega),if_neg (by omega),if_neg h0,if_neg h8,if_neg h32,if_neg h33]
 split
 · rw [if_neg (by omega),if_neg (by omega)]
 · rfl
theorem pass15_any (t:UInt8) (w0:World) :
   Calls Tryz.prog 39 #[Go.Proofs.YtbgnapmaimkpkaaGreatDoor.b8 t] w0 fun e w'=>e = .returned (.agg (Pss.mk t false 0).cells.toArray)∧Below w0.heap.size w0 w':=by
 have H:=Own.start w0 none
 refine enterF func39 rfl ntmps39 rfl (fun a F=>?_);refine cSR fun K1 hK1=>?_;refine sAl H zeroValue86 F rfl rfl ?_;clear F a H;intro b2 a w F H;refine nK hK1 (cSR fun K2 hK2=>sMv F rfl rfl rfl (qBd (places:=[(0,1),(1,1),(2,1)]) zeroValue86 underlying86 (by kernel_rfl) rfl rfl rfl rfl ?_));clear hK1;clear F a;intro a F
 refine sSr H 0 ?si F rfl rfl rfl ?s1 rfl rfl ?_
 case si=>exact info_size sizeOf86
 case s1=>first | rfl | (repeat (first | exact one_nil | (apply one_cons;· first | rfl | assumption | exact one_bif rfl rfl)))
 clear H;intro w H;refine nK hK2 ?_;clear hK2;refine wp_ret ?_;refine bRetC results39 F rfl underlying86 rfl H 0 rfl sizeOf86 rfl ?_
 exact ⟨rfl,H.below⟩
theorem drain15_any (t:UInt8) (w0:World) :
   Calls Tryz.prog 40 #[Go.Proofs.YtbgnapmaimkpkaaGreatDoor.b8 t] w0 fun e w'=>e = .returned (.agg (Pss.mk t true 0).cells.toArray)∧Below w0.heap.size w0 w':=by
 have H:=Own.start w0 none
 refine enterF func40 rfl ntmps40 rfl (fun a F=>?_);refine cSR fun K1 hK1=>?_;refine sAl H zeroValue86 F rfl rfl ?_;clear F a H;intro b2 a w F H;refine nK hK1 (cSR fun K2 hK2=>sMv F rfl rfl rfl (qBd (places:=[(0,1),(1,1),(2,1)]) zeroValue86 underlying86 (by kernel_rfl) rfl rfl rfl rfl ?_));clear hK1;clear F a;intro a F
 refine sSr H 0 ?si F rfl rfl rfl ?s1 rfl rfl ?_
 case si=>exact info_size sizeOf86
 case s1=>first | rfl | (repeat (first | exact one_nil | (apply one_cons;· first | rfl | assumption | exact one_bif rfl rfl)))
 clear H;intro w H;refine nK hK2 ?_;clear hK2;refine wp_ret ?_;refine bRetC results40 F rfl underlying86 rfl H 0 rfl sizeOf86 rfl ?_
 exact ⟨rfl,H.below⟩
theorem tl_get {l:List By} {i:Nat} {f:By} (h:l[i]? = some f):(tl l)[i]? = some (toL 38 f):=by
 unfold tl
 rw [List.getElem?_map,h];rfl
theorem fins12_any (A B:Option Addr) (CA CB:Nat) (l q:List By) (w0:World) (hA:RowsAt w0 A 38 (l.map (bs 38))) (hB:RowsAt w0 B 38 (q.map (bs 38))) (hl:l.length≤9223372036854775807) (hq:q.length≤9223372036854775807) :
   Calls Tryz.prog 16 #[.slice A l.length CA,.slice B q.length CB] w0 fun e w'=>e = .returned (.bool (decide (tl l=tl q)))∧Below w0.heap.size w0 w':=by
 have H:=Own.start w0 none
 refine enterF func16 rfl ntmps16 rfl (fun a F=>?_);refine cSR fun K1 hK1=>sAs F rfl rfl rfl (qNK hK1 ?_);clear hK1;clear F a;intro a F;refine cSeq (fun K2 hK2=>?_);refine cSR fun K3 hK3=>sMv F rfl rfl rfl (qLen underlying30 rfl rfl rfl (qMv rfl rfl rfl (qLen underlying30 rfl rfl rfl (qBin rfl rfl rfl rfl bNeq (qNK hK3 ?_)))));clear hK3;clear F a;intro a F
 refine cIf F rfl (fun h10=>?_) (fun h10=>?_)
 ·
  replace h10:=bneT h10;refine cSR fun K4 hK4=>sAs F rfl rfl rfl (qNK hK4 ?_);clear hK4;clear F a;intro a F;refine wp_ret ?_;simp only [Exit.then];refine bRet results16 F rfl ?_
  first
  | (have hne:tl l ≠ tl q:=fun e=>by
      have:=congrArg List.length e
      rw [tl_len,tl_len] at this
      omega
     rw [show decide (tl l=tl q)=false from decide_eq_false hne]
     exact ⟨rfl,H.below⟩)
  | (have hne:tl l ≠ tl q:=fun e=>by
      have h1:=tl_get hx
      rw [e,tl_get hy] at h1
      have h2:=toL_eq.1 (Option.some.inj h1).symm
      rw [h2] at h24
      simp at h24
     rw [show decide (tl l=tl q)=false from decide_eq_false hne]
     exact ⟨rfl,H.below⟩)
  | (have he:tl l=tl q:=List.ext_getElem? fun i=>by
      rcases Nat.lt_or_ge i l.length with h | h
      · exact hsame i (by omega)
      · rw [List.getElem?_eq_none (by rw [tl_len];omega),List.getElem?_eq_none (by rw [tl_len];omega)]
     rw [show decide (tl l=tl q)=true from decide_eq_true he]
     exact ⟨rfl,H.below⟩)
 replace h10:=bneF h10;refine wp_skip (hK2 _ _ ?_);clear hK2;refine cSeq (fun K5 hK5=>?_);refine cSR fun K6 hK6=>sMv F rfl rfl rfl (qLen underlying30 rfl rfl rfl (qMv rfl rfl rfl (qNK hK6 ?_)));clear hK6;clear F a;intro a F;refine wp_block ?_
 refine cLoopR [0,1,12] (fun m ups w=>∃ j:Nat,m=l.length - j∧ups=[(13,.int .i64 ((j:Nat):Int))]∧j≤l.length∧(∀ i,i < j→(tl l)[i]? = (tl q)[i]?)∧Own w0 none w []) F (l.length) [(13,.int .i64 ((0:Nat):Int))] (by repeat (first | exact SubR.nil | (apply SubR.cons;· rfl))) ?_ ?_ ?_
 · exact ⟨0,rfl,rfl,by omega,fun i h=>absurd h (by omega),H⟩
 · repeat (first | exact trivial | refine Le.cons rfl ?_)
 clear F
 clear H
 intro m ups a w hI F
 obtain ⟨j,rfl,rfl,hj,hsame,H⟩:=hI
 refine cSR fun K7 hK7=>sBin F rfl rfl rfl rfl bLss (qNK hK7 ?_);clear hK7;clear F a;intro a F;refine cSeq (fun K8 hK8=>?_)
 refine cIf F rfl (fun h14=>?_) (fun h14=>?_)
 ·
  replace h14:=of_decide_eq_true h14
  have hjl:j < l.length:=by omega
  have hjq:j < q.length:=by omega
  obtain ⟨x,hx⟩:∃ x,l[j]? = some x:=⟨_,List.getElem?_eq_getElem hjl⟩
  obtain ⟨y,hy⟩:∃ y,q[j]? = some y:=⟨_,List.getElem?_eq_getElem hjq⟩
  obtain ⟨b1,o1,rfl,hR1⟩:=hA j (bs 38 x) (by rw [List.getElem?_map,hx];rfl)
  obtain ⟨b2,o2,rfl,hR2⟩:=hB j (bs 38 y) (by rw [List.getElem?_map,hy];rfl)
  refine wp_skip (hK8 _ _ ?_);clear hK8;refine cSeq (fun K9 hK9=>?_);refine wp_block ?_;refine cSR fun K10 hK10=>sMv F rfl rfl rfl (qAs rfl rfl rfl (qNK hK10 ?_));clear hK10;clear F a;intro a F;refine cSeq (fun K11 hK11=>?_);refine cRegRO (by kernel_rfl) H ?_;replace H:=H.drew;refine eTF 0 rfl (by kernel_rfl) F rfl rfl rfl (fun w=>rMv F rfl) H qq0 (qTF 1 rfl (by kernel_rfl) rfl rfl rfl (fun a F w=>rMv F rfl) H qq0 ?_);clear F a;intro a F
  refine eTakeF (k:=2) (i:=2) rfl (by kernel_rfl) F rfl rfl rfl (fun w=>rIx underlying30 sizeOf47 F rfl rfl ?_) H (fun _ _ _ h=>h) ?_
  focus exact hjl
  clear F a;intro a F;refine eT 3 rfl (by kernel_rfl) F rfl rfl rfl rfl (fun w H=>rLrB underlying47 rfl sizeOf47 F rfl (H.argR hR1)) H qq0 (qTF 4 rfl (by kernel_rfl) rfl rfl rfl (fun a F w=>rMv F rfl) H qq0 (qTF 5 rfl (by kernel_rfl) rfl rfl rfl (fun a F w=>rMv F rfl) H qq0 ?_));clear F a;intro a F
  refine eTakeF (k:=6) (i:=6) rfl (by kernel_rfl) F rfl rfl rfl (fun w=>rIx underlying30 sizeOf47 F rfl rfl ?_) H (fun _ _ _ h=>h) ?_
  focus exact hjq
  clear F a;intro a F;refine eT 7 rfl (by kernel_rfl) F rfl rfl rfl rfl (fun w H=>rLrB underlying47 rfl sizeOf47 F rfl (H.argR hR2)) H qq0 (qTF 8 rfl (by kernel_rfl) rfl rfl rfl (fun a F w=>rBin F rfl rfl (bNeY eT47 gT47 rfl)) H qq0 ?_);clear F a;intro a F;refine eNil (k:=9) (by kernel_rfl) ?_;refine hK11 _ _ ?_;clear hK11
  refine cIf F rfl (fun h24=>?_) (fun h24=>?_)
  ·
   replace h24:=notT h24;refine cSR fun K12 hK12=>sAs F rfl rfl rfl (qNK hK12 ?_);clear hK12;clear F a;intro a F;refine wp_ret ?_;simp only [Exit.inBlock,Exit.then];refine bRet results16 F rfl ?_
   first
   | (have hne:tl l ≠ tl q:=fun e=>by
       have:=congrArg List.length e
       rw [tl_len,tl_len] at this
       omega
      rw [show decide (tl l=tl q)=false from decide_eq_false hne]
      exact ⟨rfl,H.below⟩)
   | (have hne:tl l ≠ tl q:=fun e=>by
       have h1:=tl_get hx
       rw [e,tl_get hy] at h1
       have h2:=toL_eq.1 (Option.some.inj h1).symm
       rw [h2] at h24
       simp at h24
      rw [show decide (tl l=tl q)=false from decide_eq_false hne]
      exact ⟨rfl,H.below⟩)
   | (have he:tl l=tl q:=List.ext_getElem? fun i=>by
       rcases Nat.lt_or_ge i l.length with h | h
       · exact hsame i (by omega)
       · rw [List.getElem?_eq_none (by rw [tl_len];omega),List.getElem?_eq_none (by rw [tl_len];omega)]
      rw [show decide (tl l=tl q)=true from decide_eq_true he]
      exact ⟨rfl,H.below⟩)
  replace h24:=notF h24;refine wp_skip (hK9 _ _ (cReg ?_));clear hK9
  refine sBin F rfl rfl rfl rfl (bAddN (j:=1) ?_) ?_
  focus omega
  clear F a;intro a F;refine sMv F rfl rfl rfl ?_;clear F a;intro a F;refine sNil ?_
  (have he:toL 38 x=toL 38 y:=toL_eq.2 (by simpa using h24)
   exact ⟨_,by omega,_,⟨j+1,rfl,rfl,by omega,fun i hi=>(by
    rcases Nat.lt_or_ge i j with h | h
    · exact hsame i h
    · obtain rfl:i=j:=by omega
      rw [tl_get hx,tl_get hy,he]),H.sel [] rfl rfl⟩,F.to (by repeat (first | exact trivial | refine Le.cons rfl ?_))⟩)
 replace h14:=of_decide_eq_false h14;refine wp_exit ?_;refine hK5 _ _ (cSR fun K13 hK13=>sAs F rfl rfl rfl (qNK hK13 ?_));clear hK5 hK13;clear F a;intro a F;refine wp_ret ?_;refine bRet results16 F rfl ?_
 first
 | (have hne:tl l ≠ tl q:=fun e=>by
     have:=congrArg List.length e
     rw [tl_len,tl_len] at this
     omega
    rw [show decide (tl l=tl q)=false from decide_eq_false hne]
    exact ⟨rfl,H.below⟩)
 | (have hne:tl l ≠ tl q:=fun e=>by
     have h1:=tl_get hx
     rw [e,tl_get hy] at h1
     have h2:=toL_eq.1 (Option.some.inj h1).symm
     rw [h2] at h24
     simp at h24
    rw [show decide (tl l=tl q)=false from decide_eq_false hne]
    exact ⟨rfl,H.below⟩)
 | (have he:tl l=tl q:=List.ext_getElem? fun i=>by
     rcases Nat.lt_or_ge i l.length with h | h
     · exact hsame i (by omega)
     · rw [List.getElem?_eq_none (by rw [tl_len];omega),List.getElem?_eq_none (by rw [tl_len];omega)]
    rw [show decide (tl l=tl q)=true from decide_eq_true he]
    exact ⟨rfl,H.below⟩)
theorem c13_any (cs:List Value) (w0:World) (hP:ProgAt w0 cs sbP) (hN:NeedsAt w0) :
   Calls Tryz.prog 20 #[.agg cs.toArray,Go.Proofs.YtbgnapmaimkpkaaGreatDoor.b8 1,.int .i64 13] w0 fun e w'=>e = .returned (.tuple #[.int .i64 13,.int .i64 3,.int .i64 0])∧Below w0.heap.size w0 w':=by
 have h:=count_any cs sbP w0 hP hN 1 13 (by decide) (by decide)
 rw [st_E scR13,scR13] at h
 exact h
theorem c12_any (cs:List Value) (w0:World) (hP:ProgAt w0 cs sbP) (hN:NeedsAt w0) :
   Calls Tryz.prog 20 #[.agg cs.toArray,Go.Proofs.YtbgnapmaimkpkaaGreatDoor.b8 1,.int .i64 12] w0 fun e w'=>∃ u v:Int,e = .returned (.tuple #[.int .i64 u,.int .i64 v,.int .i64 5])∧Below w0.heap.size w0 w':=by
 have h:=count_any cs sbP w0 hP hN 1 12 (by decide) (by decide)
 rw [scE12] at h
 exact h.mono fun _ _ h=>⟨_,_,h⟩
theorem f1000_any (cs:List Value) (w0:World) (hP:ProgAt w0 cs sbP) (hN:NeedsAt w0) :
   Calls Tryz.prog 19 #[.agg cs.toArray,Go.Proofs.YtbgnapmaimkpkaaGreatDoor.b8 2,.int .i64 1000] w0 fun e w'=>∃ (A:Option Addr) (c:Nat) (l2:List By),e = .returned (.tuple #[.slice A l2.length c,.int .i64 0])∧tl l2=tl e4∧Own w0 none w' [.rws 47 38 (.slice A l2.length c) (l2.map (bs 38))]:=by
 have h:=finals_any cs sbP w0 hP hN 2 1000 (by decide) (by decide)
 rw [st_E tsR1000] at h
 exact h.mono fun _ _ ⟨A,c,l2,h1,h2,h3⟩=>⟨A,c,l2,h1,ts_finals h2,h3⟩
theorem wts_any (cs:List Value) (w0:World) (hP:ProgAt w0 cs sbP) (hN:NeedsAt w0) :
   Calls Tryz.prog 21 #[.agg cs.toArray,Go.Proofs.YtbgnapmaimkpkaaGreatDoor.b8 2,.agg (bs 38 (outB 1 0 0)).toArray,.int .i64 1000] w0 fun e w'=>∃ A c,e = .returned (.tuple #[.slice A 6 c,.int .i64 0])∧Own w0 none w' [.rws 86 3 (.slice A 6 c) (([⟨0,false,0⟩,⟨0,false,0⟩,⟨1,false,0⟩,⟨1,false,0⟩,⟨0,true,0⟩,⟨1,true,0⟩]:List Pss).map Pss.cells)]:=by
 have h:=way_any cs sbP w0 hP hN 2 (outB 1 0 0) 1000 (by decide) (by decide)
 rw [way_of tsR1000,wayE_of tsR1000,ts_way,if_pos ts_yes] at h
 exact h
theorem wsc_any (cs:List Value) (w0:World) (hP:ProgAt w0 cs sbP) (hN:NeedsAt w0) :
   Calls Tryz.prog 21 #[.agg cs.toArray,Go.Proofs.YtbgnapmaimkpkaaGreatDoor.b8 1,.agg (bs 38 (outB 1 1 1)).toArray,.int .i64 1000] w0 fun e w'=>∃ A c,e = .returned (.tuple #[.slice A 4 c,.int .i64 0])∧Own w0 none w' [.rws 86 3 (.slice A 4 c) (([⟨0,false,0⟩,⟨1,false,0⟩,⟨0,false,0⟩,⟨1,false,0⟩]:List Pss).map Pss.cells)]:=by
 have h:=way_any cs sbP w0 hP hN 1 (outB 1 1 1) 1000 (by decide) (by decide)
 rw [way_of scR1000,wayE_of scR1000,sc_way,if_pos sc_yes] at h
 exact h
theorem wno_any (cs:List Value) (w0:World) (hP:ProgAt w0 cs sbP) (hN:NeedsAt w0) :
   Calls Tryz.prog 21 #[.agg cs.toArray,Go.Proofs.YtbgnapmaimkpkaaGreatDoor.b8 1,.agg (bs 38 (outB 7 1 1)).toArray,.int .i64 1000] w0 fun e w'=>∃ v,e = .returned (.tuple #[v,.int .i64 6])∧Below w0.heap.size w0 w':=by
 have h:=way_any cs sbP w0 hP hN 1 (outB 7 1 1) 1000 (by decide) (by decide)
 rw [wayE_of scR1000,if_neg (by rw [sc_no];decide)] at h
 exact h.mono fun _ _ ⟨A,c,h1,h2⟩=>⟨_,h1,h2.below⟩
set_option maxHeartbeats 1000000 in
theorem awake15_any (w0:World) (hN:NeedsAt w0) :
   Calls Tryz.prog 14 #[] w0 fun e w'=>e = .returned (.bool true)∧Below w0.heap.size w0 w':=by
 have H:=Own.start w0 none
 refine enterF func14 rfl ntmps14 rfl (fun a F=>?_);refine cSR fun K1 hK1=>sAs F rfl rfl rfl (qNK hK1 (qSR fun K2 hK2=>?_));clear hK1;clear F a;intro a F;refine sCall call37 F rfl rfl rfl (buffering_any _) ?_;rintro e w ⟨x1,x2,x3,x4,x5,rfl,H2⟩;replace H:=H.join H2;clear H2;refine ⟨_,rfl,?_⟩;clear F a;intro a F;refine sAl H zeroValue29 F rfl rfl ?_;clear F a H;intro b1 a w F H
 refine sSr H 0 ?si F rfl rfl rfl ?s1 rfl rfl ?_
 case si=>exact info_size sizeOf29
 case s1=>first | rfl | (repeat (first | exact one_nil | (apply one_cons;· first | rfl | assumption | exact one_bif rfl rfl)))
 clear H;intro w H;refine nK hK2 (cSR fun K3 hK3=>?_);clear hK2
 refine sLr underlying29 rfl ?si F rfl rfl rfl (H.whole 0 rfl) ?_
 case si=>exact info_size sizeOf29
 clear F a;intro a F;refine sCall call20 F rfl rfl rfl (c13_any _ _ (sb_prog (H.sel [1,2,3,4,5] rfl rfl)) (hN.own H)) ?_;rintro e w ⟨rfl,hb⟩;replace H:=H.grow hb;clear hb;refine ⟨_,rfl,?_⟩;clear F a;intro a F;refine sMv F rfl rfl rfl (qExt rfl rfl rfl rfl (qExt rfl rfl rfl rfl (qExt rfl rfl rfl rfl (qAs rfl rfl rfl (qAs rfl rfl rfl (qAs rfl rfl rfl (qNK hK3 (qSR fun K4 hK4=>?_))))))));clear hK3;clear F a;intro a F
 refine sLr underlying29 rfl ?si F rfl rfl rfl (H.whole 0 rfl) ?_
 case si=>exact info_size sizeOf29
 clear F a;intro a F;refine sCall call20 F rfl rfl rfl (c12_any _ _ (sb_prog (H.sel [1,2,3,4,5] rfl rfl)) (hN.own H)) ?_;rintro e w ⟨u12,v12,rfl,hb⟩;replace H:=H.grow hb;clear hb;refine ⟨_,rfl,?_⟩;clear F a;intro a F;refine sMv F rfl rfl rfl (qExt rfl rfl rfl rfl (qExt rfl rfl rfl rfl (qExt rfl rfl rfl rfl (qAs rfl rfl rfl (qAs rfl rfl rfl (qAs rfl rfl rfl (qNK hK4 (qSR fun K5 hK5=>?_))))))));clear hK4;clear F a;intro a F
 refine sLr underlying29 rfl ?si F rfl rfl rfl (H.whole 0 rfl) ?_
 case si=>exact info_size sizeOf29
 clear F a;intro a F;refine sCall call19 F rfl rfl rfl (f1000_any _ _ (sb_prog (H.sel [1,2,3,4,5] rfl rfl)) (hN.own H)) ?_;rintro e w ⟨AF,cF,l2,rfl,htl,H2⟩;replace H:=H.join H2;clear H2;refine ⟨_,rfl,?_⟩;clear F a;intro a F;refine sMv F rfl rfl rfl (qExt rfl rfl rfl rfl (qExt rfl rfl rfl rfl (qAs rfl rfl rfl (qAs rfl rfl rfl (qNK hK5 ?_)))));clear hK5;clear F a;intro a F;refine cSeq (fun K6 hK6=>?_);refine cRegRO (by kernel_rfl) H ?_;replace H:=H.drew
 refine eTake (k:=0) (i:=0) rfl (by kernel_rfl) F rfl rfl rfl rfl (fun w H=>rLr underlying29 rfl ?si F rfl (H.whole 1 rfl)) H (fun _ _ _ h=>h) ?_
 case si=>exact info_size sizeOf29
 clear F a;intro a F;refine eOne (k:=1) (i:=1) rfl (by kernel_rfl) F rfl (oCall call38 F rfl rfl (out_any 1 0 0 _) ?_);rintro e w ⟨rfl,hb⟩;replace H:=H.grow hb;clear hb;refine ⟨_,rfl,?_⟩;clear F a;intro a F;refine eKeep H ?_;refine eOne (k:=2) (i:=2) rfl (by kernel_rfl) F rfl (oCall call21 F rfl rfl (wts_any _ _ (sb_prog (H.sel [2,3,4,5,6] rfl rfl)) (hN.own H)) ?_);rintro e w ⟨A1,c1,rfl,H2⟩;replace H:=H.join H2;clear H2;refine ⟨_,rfl,?_⟩;clear F a;intro a F;refine ePartO (by kernel_rfl) H ?_;refine eTF 3 rfl (by kernel_rfl) F rfl rfl rfl (fun w=>rMv F rfl) H qq0 (qTF 4 rfl (by kernel_rfl) rfl rfl rfl (fun a F w=>rExt F rfl rfl) H qq0 (qTF 5 rfl (by kernel_rfl) rfl rfl rfl (fun a F w=>rExt F rfl rfl) H qq0 (qTF 6 rfl (by kernel_rfl) rfl rfl rfl (fun a F w=>rAs F rfl) H qq0 (qTF 7 rfl (by kernel_rfl) rfl rfl rfl (fun a F w=>rAs F rfl) H qq0 ?_))));clear F a;intro a F;refine eNil (k:=8) (by kernel_rfl) ?_;refine hK6 _ _ ?_;clear hK6;refine cSeq (fun K7 hK7=>?_);refine cRegRO (by kernel_rfl) H ?_;replace H:=H.drew
 refine eTake (k:=0) (i:=0) rfl (by kernel_rfl) F rfl rfl rfl rfl (fun w H=>rLr underlying29 rfl ?si F rfl (H.whole 2 rfl)) H (fun _ _ _ h=>h) ?_
 case si=>exact info_size sizeOf29
 clear F a;intro a F;refine eOne (k:=1) (i:=1) rfl (by kernel_rfl) F rfl (oCall call38 F rfl rfl (out_any 1 1 1 _) ?_);rintro e w ⟨rfl,hb⟩;replace H:=H.grow hb;clear hb;refine ⟨_,rfl,?_⟩;clear F a;intro a F;refine eKeep H ?_;refine eOne (k:=2) (i:=2) rfl (by kernel_rfl) F rfl (oCall call21 F rfl rfl (wsc_any _ _ (sb_prog (H.sel [3,4,5,6,7] rfl rfl)) (hN.own H)) ?_);rintro e w ⟨A2,c2,rfl,H2⟩;replace H:=H.join H2;clear H2;refine ⟨_,rfl,?_⟩;clear F a;intro a F;refine ePartO (by kernel_rfl) H ?_;refine eTF 3 rfl (by kernel_rfl) F rfl rfl rfl (fun w=>rMv F rfl) H qq0 (qTF 4 rfl (by kernel_rfl) rfl rfl rfl (fun a F w=>rExt F rfl rfl) H qq0 (qTF 5 rfl (by kernel_rfl) rfl rfl rfl (fun a F w=>rExt F rfl rfl) H qq0 (qTF 6 rfl (by kernel_rfl) rfl rfl rfl (fun a F w=>rAs F rfl) H qq0 (qTF 7 rfl (by kernel_rfl) rfl rfl rfl (fun a F w=>rAs F rfl) H qq0 ?_))));clear F a;intro a F;refine eNil (k:=8) (by kernel_rfl) ?_;refine hK7 _ _ ?_;clear hK7;refine cSeq (fun K8 hK8=>?_);refine cRegRO (by kernel_rfl) H ?_;replace H:=H.drew
 refine eTake (k:=0) (i:=0) rfl (by kernel_rfl) F rfl rfl rfl rfl (fun w H=>rLr underlying29 rfl ?si F rfl (H.whole 3 rfl)) H (fun _ _ _ h=>h) ?_
 case si=>exact info_size sizeOf29
 clear F a;intro a F;refine eOne (k:=1) (i:=1) rfl (by kernel_rfl) F rfl (oCall call38 F rfl rfl (out_any 7 1 1 _) ?_);rintro e w ⟨rfl,hb⟩;replace H:=H.grow hb;clear hb;refine ⟨_,rfl,?_⟩;clear F a;intro a F;refine eKeep H ?_;refine eOne (k:=2) (i:=2) rfl (by kernel_rfl) F rfl (oCall call21 F rfl rfl (wno_any _ _ (sb_prog (H.sel [4,5,6,7,8] rfl rfl)) (hN.own H)) ?_);rintro e w ⟨v49,rfl,hb⟩;replace H:=H.grow hb;clear hb;refine ⟨_,rfl,?_⟩;clear F a;intro a F;refine ePartO (by kernel_rfl) H ?_;refine eTF 3 rfl (by kernel_rfl) F rfl rfl rfl (fun w=>rMv F rfl) H qq0 (qTF 4 rfl (by kernel_rfl) rfl rfl rfl (fun a F w=>rExt F rfl rfl) H qq0 (qTF 5 rfl (by kernel_rfl) rfl rfl rfl (fun a F w=>rExt F rfl rfl) H qq0 (qTF 6 rfl (by kernel_rfl) rfl rfl rfl (fun a F w=>rAs F rfl) H qq0 (qTF 7 rfl (by kernel_rfl) rfl rfl rfl (fun a F w=>rAs F rfl) H qq0 ?_))));clear F a;intro a F;refine eNil (k:=8) (by kernel_rfl) ?_;refine hK8 _ _ (cSR fun K9 hK9=>sMv F rfl rfl rfl (qBin rfl rfl rfl rfl bEql (qMv rfl rfl rfl ?_)));clear hK8;clear F a;intro a F
 refine F.split 54 rfl ?_ ?_ <;> (clear F;intro h54 F)
 ·
  replace h54:=beqT h54;refine sMv F rfl rfl rfl (qBin rfl rfl rfl rfl bEql (qPk rfl rfl rfl rfl (qMv rfl rfl rfl ?_)));clear F a;intro a F
  refine F.split 58 rfl ?_ ?_ <;> (clear F;intro h58 F)
  ·
   replace h58:=beqT h58;refine sMv F rfl rfl rfl (qBin rfl rfl rfl rfl bEql (qPk rfl rfl rfl rfl (qMv rfl rfl rfl ?_)));clear F a;intro a F
   refine F.split 62 rfl ?_ ?_ <;> (clear F;intro h62 F)
   ·
    replace h62:=beqT h62;refine sMv F rfl rfl rfl (qBin rfl rfl rfl rfl bEql (qPk rfl rfl rfl rfl (qMv rfl rfl rfl ?_)));clear F a;intro a F
    refine F.split 66 rfl ?_ ?_ <;> (clear F;intro h66 F)
    ·
     replace h66:=beqT h66;refine sMv F rfl rfl rfl ?_;clear F a;intro a F;refine sCall call38 F rfl rfl rfl (out_any 1 0 0 _) ?_;rintro e w ⟨rfl,hb⟩;replace H:=H.grow hb;clear hb;refine ⟨_,rfl,?_⟩;clear F a;intro a F;refine sCall call38 F rfl rfl rfl (out_any 1 0 1 _) ?_;rintro e w ⟨rfl,hb⟩;replace H:=H.grow hb;clear hb;refine ⟨_,rfl,?_⟩;clear F a;intro a F;refine sCall call38 F rfl rfl rfl (out_any 1 1 0 _) ?_;rintro e w ⟨rfl,hb⟩;replace H:=H.grow hb;clear hb;refine ⟨_,rfl,?_⟩;clear F a;intro a F;refine sCall call38 F rfl rfl rfl (out_any 1 1 1 _) ?_;rintro e w ⟨rfl,hb⟩;replace H:=H.grow hb;clear hb;refine ⟨_,rfl,?_⟩;clear F a;intro a F;refine sBs H underlying30 sizeOf47 zeroValue47 rfl F rfl rfl rfl rfl rfl ?_;clear F a H;intro b72 a w F H;refine sCall call16 F rfl rfl rfl (fins12_any AF _ cF _ l2 e4 _ (H.rowsAt 3 rfl (bs38_len _) (by decide)) (RowsAt.ofRange (sz:=38) (rows:=e4.map (bs 38)) (H.whole 0 rfl) (bs38_len _)) (by have:=(H.rwsLen 3 rfl).2;simp only [maxLen] at this;omega) (by decide)) ?_;rintro e w ⟨rfl,hb⟩;replace H:=H.grow hb;clear hb;refine ⟨_,rfl,?_⟩;clear F a;intro a F;refine sPk F rfl rfl rfl rfl (qMv rfl rfl rfl ?_);clear F a;intro a F
     refine F.split 75 rfl ?_ ?_ <;> (clear F;intro h75 F)
     ·
      refine sMv F rfl rfl rfl (qBin rfl rfl rfl rfl bEql (qPk rfl rfl rfl rfl (qMv rfl rfl rfl ?_)));clear F a;intro a F
      refine F.split 79 rfl ?_ ?_ <;> (clear F;intro h79 F)
      ·
       replace h79:=beqT h79;refine sMv F rfl rfl rfl ?_;clear F a;intro a F;refine sCall call39 F rfl rfl rfl (pass15_any 0 _) ?_;rintro e w ⟨rfl,hb⟩;replace H:=H.grow hb;clear hb;refine ⟨_,rfl,?_⟩;clear F a;intro a F;refine sCall call39 F rfl rfl rfl (pass15_any 0 _) ?_;rintro e w ⟨rfl,hb⟩;replace H:=H.grow hb;clear hb;refine ⟨_,rfl,?_⟩;clear F a;intro a F;refine sCall call39 F rfl rfl rfl (pass15_any 1 _) ?_;rintro e w ⟨rfl,hb⟩;replace H:=H.grow hb;clear hb;refine ⟨_,rfl,?_⟩;clear F a;intro a F;refine sCall call39 F rfl rfl rfl (pass15_any 1 _) ?_;rintro e w ⟨rfl,hb⟩;replace H:=H.grow hb;clear hb;refine ⟨_,rfl,?_⟩;clear F a;intro a F;refine sCall call40 F rfl rfl rfl (drain15_any 0 _) ?_;rintro e w ⟨rfl,hb⟩;replace H:=H.grow hb;clear hb;refine ⟨_,rfl,?_⟩;clear F a;intro a F;refine sCall call40 F rfl rfl rfl (drain15_any 1 _) ?_;rintro e w ⟨rfl,hb⟩;replace H:=H.grow hb;clear hb;refine ⟨_,rfl,?_⟩;clear F a;intro a F;refine sBs H underlying58 sizeOf86 zeroValue86 rfl F rfl rfl rfl rfl rfl ?_;clear F a H;intro b87 a w F H;refine sCall call25 F rfl rfl rfl (passes_any A1 _ c1 _ [⟨0,false,0⟩,⟨0,false,0⟩,⟨1,false,0⟩,⟨1,false,0⟩,⟨0,true,0⟩,⟨1,true,0⟩] [⟨0,false,0⟩,⟨0,false,0⟩,⟨1,false,0⟩,⟨1,false,0⟩,⟨0,true,0⟩,⟨1,true,0⟩] _ (H.rowsAt 3 rfl (rowX _) (by decide)) (RowsAt.ofRange (sz:=3) (rows:=([⟨0,false,0⟩,⟨0,false,0⟩,⟨1,false,0⟩,⟨1,false,0⟩,⟨0,true,0⟩,⟨1,true,0⟩]:List Pss).map Pss.cells) (H.whole 0 rfl) (rowX _)) (by decide) (by decide)) ?_
       rintro e w ⟨rfl,hb⟩;replace H:=H.grow hb;clear hb;refine ⟨_,rfl,?_⟩;clear F a;intro a F;refine sPk F rfl rfl rfl rfl (qMv rfl rfl rfl ?_);clear F a;intro a F
       refine F.split 90 rfl ?_ ?_ <;> (clear F;intro h90 F)
       ·
        refine sMv F rfl rfl rfl (qBin rfl rfl rfl rfl bEql (qPk rfl rfl rfl rfl (qMv rfl rfl rfl ?_)));clear F a;intro a F
        refine F.split 94 rfl ?_ ?_ <;> (clear F;intro h94 F)
        ·
         replace h94:=beqT h94;refine sMv F rfl rfl rfl ?_;clear F a;intro a F;refine sCall call39 F rfl rfl rfl (pass15_any 0 _) ?_;rintro e w ⟨rfl,hb⟩;replace H:=H.grow hb;clear hb;refine ⟨_,rfl,?_⟩;clear F a;intro a F;refine sCall call39 F rfl rfl rfl (pass15_any 1 _) ?_;rintro e w ⟨rfl,hb⟩;replace H:=H.grow hb;clear hb;refine ⟨_,rfl,?_⟩;clear F a;intro a F;refine sCall call39 F rfl rfl rfl (pass15_any 0 _) ?_;rintro e w ⟨rfl,hb⟩;replace H:=H.grow hb;clear hb;refine ⟨_,rfl,?_⟩;clear F a;intro a F;refine sCall call39 F rfl rfl rfl (pass15_any 1 _) ?_;rintro e w ⟨rfl,hb⟩;replace H:=H.grow hb;clear hb;refine ⟨_,rfl,?_⟩;clear F a;intro a F;refine sBs H underlying58 sizeOf86 zeroValue86 rfl F rfl rfl rfl rfl rfl ?_;clear F a H;intro b100 a w F H;refine sCall call25 F rfl rfl rfl (passes_any A2 _ c2 _ [⟨0,false,0⟩,⟨1,false,0⟩,⟨0,false,0⟩,⟨1,false,0⟩] [⟨0,false,0⟩,⟨1,false,0⟩,⟨0,false,0⟩,⟨1,false,0⟩] _ (H.rowsAt 3 rfl (rowX _) (by decide)) (RowsAt.ofRange (sz:=3) (rows:=([⟨0,false,0⟩,⟨1,false,0⟩,⟨0,false,0⟩,⟨1,false,0⟩]:List Pss).map Pss.cells) (H.whole 0 rfl) (rowX _)) (by decide) (by decide)) ?_;rintro e w ⟨rfl,hb⟩;replace H:=H.grow hb;clear hb;refine ⟨_,rfl,?_⟩;clear F a;intro a F;refine sPk F rfl rfl rfl rfl (qMv rfl rfl rfl ?_);clear F a;intro a F
         refine F.split 103 rfl ?_ ?_ <;> (clear F;intro h103 F)
         ·
          refine sMv F rfl rfl rfl (qBin rfl rfl rfl rfl bEql (qPk rfl rfl rfl rfl (qMv rfl rfl rfl ?_)));clear F a;intro a F
          refine F.split 107 rfl ?_ ?_ <;> (clear F;intro h107 F)
          ·
           replace h107:=beqT h107;refine sMv F rfl rfl rfl (qBin rfl rfl rfl rfl bEql (qPk rfl rfl rfl rfl (qAs rfl rfl rfl (qNK hK9 ?_))));clear hK9;clear F a;intro a F;refine wp_ret ?_;refine bRet results14 F rfl ?_
           exact ⟨retB (by kernel_rfl),H.below⟩
          replace h107:=beqF h107
          exact absurd rfl h107
         exact notEq (by kernel_rfl) h103
        replace h94:=beqF h94
        exact absurd rfl h94
       exact notEq (by kernel_rfl) h90
      replace h79:=beqF h79
      exact absurd rfl h79
     exact notEq (decide_eq_true htl) h75
    replace h66:=beqF h66
    exact absurd rfl h66
   replace h62:=beqF h62
   exact absurd rfl h62
  replace h58:=beqF h58
  exact absurd rfl h58
 replace h54:=beqF h54
 exact absurd rfl h54
-- RnY
open Go.Proofs.Tryz
open Go.RowKit
set_option maxRecDepth 100000
theorem states_neg {p:Prg} {m:UInt8} {n:Int} (h:¬ statesC p m n):statesE p m n=2∧statesR p m n=none:=⟨if_neg h,if_neg h⟩
theorem states_pos {p:Prg} {m:UInt8} {n:Int} (h:statesC p m n):(statesE p m n=5∧statesR p m n=none)∨(statesE p m n=0∧∃ fd,statesR p m n=some fd∧reachR p m n.toNat=some fd):=by
 rw [statesE,statesR,if_pos h,if_pos h]
 cases h2:reachR p m n.toNat with
 | none=>exact .inl ⟨rfl,rfl⟩
 | some fd=>exact .inr ⟨rfl,fd,rfl,rfl⟩
theorem most_ok {p:Prg} {m:UInt8} (h:statesE p m 600=0):rightErr p=0∧(1:UInt8)≤m∧m≤3∧1≤(fo (statesR p m 600)).ends.length∧(fo (statesR p m 600)).ends.length≤(fo (statesR p m 600)).list.length∧(fo (statesR p m 600)).list.length≤600∧∃ fd,statesR p m 600=some fd:=by
 obtain ⟨fd,h3,hI,_,hr,hk⟩:=states_some h
 rw [h3]
 show _∧_∧_∧1≤fd.ends.length∧fd.ends.length≤fd.list.length∧fd.list.length≤600∧_
 have h1:=ends_pos hI
 have h2:fd.ends.length≤fd.list.length:=by
   rw [hI.ends];refine Nat.le_trans (List.length_filter_le _ _) ?_
   rw [List.length_range];exact Nat.le_refl _
 have h4:=hI.many
 have hk2:(1:UInt8)≤m∧m≤3:=by unfold knownM at hk;simpa using hk
 exact ⟨hr,hk2.1,hk2.2,Nat.pos_of_ne_zero (fun e=>h1 (List.eq_nil_of_length_eq_zero e)),h2,h4,fd,rfl⟩
theorem most_bad {p:Prg} {m:UInt8} (h:statesE p m 600 ≠ 0):(fo (statesR p m 600)).list.length=0∧(fo (statesR p m 600)).ends.length=0∧((statesE p m 600=5∧rightErr p=0∧(1:UInt8)≤m∧m≤3)∨(statesE p m 600=2∧¬ (rightErr p=0∧(1:UInt8)≤m∧m≤3))):=by
 have hn:=states_none h
 rw [hn]
 refine ⟨rfl,rfl,?_⟩
 have hkn:knownM m=true ↔ (1:UInt8)≤m∧m≤3:=by unfold knownM;simp
 by_cases hC:statesC p m 600
 · obtain ⟨h1,_,_,h4⟩:=hC
   have hC6:statesC p m 600:=⟨h1,by decide,by decide,h4⟩
   rcases states_pos hC6 with h2 | h2
   · exact .inl ⟨h2.1,h4,hkn.1 h1⟩
   · exact absurd h2.1 h
 · exact .inr ⟨(states_neg hC).1,fun ⟨h1,h2⟩=>hC ⟨hkn.2 h2,by decide,by decide,h1⟩⟩
-- RnI
open Go.Proofs.Tryz
open Go.RowKit
set_option maxRecDepth 100000
theorem finals15_any (cs:List Value) (p:Prg) (w0:World) (hP:ProgAt w0 cs p) (hN:NeedsAt w0) (mc:UInt8) (hk:(1:UInt8)≤mc∧mc≤3) :
   Calls Tryz.prog 12 #[.agg cs.toArray,Go.Proofs.YtbgnapmaimkpkaaGreatDoor.b8 mc] w0 fun e w'=>∃ (A:Option Addr) (c:Nat) (l2:List By) (b:Bool),e = .returned (.tuple #[.slice A l2.length c,.bool b,.bool true])∧(b=true ↔ statesE p mc 600=0)∧FinOut p mc 600 l2∧Own w0 none w' [.rws 47 38 (.slice A l2.length c) (l2.map (bs 38))]:=by
 have H:=Own.start w0 none
 have hP0:=hP
 obtain ⟨LA,LC,IA,IC,TA,TC,h,ccs,hp⟩:=hP
 obtain ⟨c1,c2,c3,c4,c5,rfl⟩:=len5 (condAt_len hp.cond)
 have hcs:=hp.cs
 subst hcs;refine enterF func12 rfl ntmps12 rfl (fun a F=>?_);refine cSR fun K1 hK1=>?_;refine sBx H F rfl rfl rfl ?_;clear F a H;intro b2 a w F H;refine sAs F rfl rfl rfl (qAs rfl rfl rfl (qAs rfl rfl rfl (qNK hK1 (qSR fun K2 hK2=>?_))));clear hK1;clear F a;intro a F
 refine sLr underlying29 rfl ?si F rfl rfl rfl (H.whole 0 rfl) ?_
 case si=>exact info_size sizeOf29
 clear F a;intro a F;refine sMv F rfl rfl rfl ?_;clear F a;intro a F;refine sCall call19 F rfl rfl rfl (finals_any _ p _ (hP0.own H) (hN.own H) mc 600 (by decide) (by decide)) ?_;rintro e w ⟨A,c,l2,rfl,hf,H2⟩;replace H:=H.join H2;clear H2;refine ⟨_,rfl,?_⟩;clear F a;intro a F;refine sMv F rfl rfl rfl (qExt rfl rfl rfl rfl (qExt rfl rfl rfl rfl (qAs rfl rfl rfl (qAs rfl rfl rfl (qNK hK2 (qSR fun K3 hK3=>qMv rfl rfl rfl (qBin rfl rfl rfl rfl bEql (qMv rfl rfl rfl ?_))))))));clear hK2;clear F a;intro a F
 refine F.split 18 rfl ?_ ?_ <;> (clear F;intro h18 F)
 ·
  replace h18:=beqT h18;refine sSk F rfl rfl (qSk rfl rfl (qSk rfl rfl (qSk rfl rfl (qSk rfl rfl (qSk rfl rfl (qSk rfl rfl (qPk rfl rfl rfl rfl (qMv rfl rfl rfl (qSk rfl rfl (qSk rfl rfl (qSk rfl rfl (qSk rfl rfl (qSk rfl rfl (qSk rfl rfl (qSk rfl rfl (qPk rfl rfl rfl rfl (qAs rfl rfl rfl (qNK hK3 (qSR fun K4 hK4=>qMv rfl rfl rfl (qMv rfl rfl rfl (qBin rfl rfl rfl rfl bEql (qMv rfl rfl rfl (qMv rfl rfl rfl (qMv rfl rfl rfl (qBin rfl rfl rfl rfl bEql (qMv rfl rfl rfl (qLen underlying30 rfl rfl rfl (qBin rfl rfl rfl rfl bGtr (qBin rfl rfl rfl rfl (bBoolEq underlying4) (qPk rfl rfl rfl rfl (qAs rfl rfl rfl (qAs rfl rfl rfl (qAs rfl rfl rfl (qNK hK4 ?_))))))))))))))))))))))))))))))))));clear hK3 hK4;clear F a;intro a F;refine wp_ret ?_;refine bRet3 results12 F rfl rfl rfl ?_
  first
  | (have hlen:0 < l2.length:=List.length_pos_iff.2 (hf.2 h18).1
     refine ⟨A,c,l2,true,?_,⟨fun _=>h18,fun _=>rfl⟩,hf,H.pick 0 rfl⟩
     simp [h18,hlen])
  | (subst hl0
     refine ⟨A,c,[],false,?_,⟨fun h=>Bool.noConfusion h,fun h=>absurd h h18⟩,hf,H.pick 0 rfl⟩
     simp [h18])
 replace h18:=beqF h18
 have hbad:=most_bad h18
 have hb:statesE p mc 600=5∨statesE p mc 600=2:=hbad.2.2.imp (·.1) (·.1)
 have hb5:statesE p mc 600=5→rightErr p=0:=fun e=>by
  rcases hbad.2.2 with h | h
  · exact h.2.1
  · rw [e] at h;exact absurd h.1 (by decide)
 have hb2:statesE p mc 600=2→¬ rightErr p=0:=fun e=>by
  rcases hbad.2.2 with h | h
  · rw [e] at h;exact absurd h.1 (by decide)
  · exact fun h2=>h.2 ⟨h2,hk⟩
 have hl0:l2=[]:=hf.1 h18
 refine sMv F rfl rfl rfl (qBin rfl rfl rfl rfl bEql (qMv rfl rfl rfl ?_));clear F a;intro a F
 refine F.split 21 rfl ?_ ?_ <;> (clear F;intro h21 F)
 ·
  replace h21:=beqT h21
  refine sLr underlying29 rfl ?si F rfl rfl rfl (H.whole 1 rfl) ?_
  case si=>exact info_size sizeOf29
  clear F a;intro a F;refine sCall call15 F rfl rfl rfl (right_any' _ p _ (hP0.own H) (hN.own H)) ?_;rintro e w ⟨rfl,hb⟩;replace H:=H.grow hb;clear hb;refine ⟨_,rfl,?_⟩;clear F a;intro a F;refine sBin F rfl rfl rfl rfl bEql (qPk rfl rfl rfl rfl (qPk rfl rfl rfl rfl (qMv rfl rfl rfl ?_)));clear F a;intro a F
  refine F.split 27 rfl ?_ ?_ <;> (clear F;intro h27 F)
  ·
   replace h27:=beqT h27;refine sSk F rfl rfl (qSk rfl rfl (qSk rfl rfl (qSk rfl rfl (qSk rfl rfl (qSk rfl rfl (qSk rfl rfl (qPk rfl rfl rfl rfl (qAs rfl rfl rfl (qNK hK3 (qSR fun K5 hK5=>qMv rfl rfl rfl (qMv rfl rfl rfl (qBin rfl rfl rfl rfl bEql (qMv rfl rfl rfl (qMv rfl rfl rfl (qMv rfl rfl rfl (qBin rfl rfl rfl rfl bEql (qMv rfl rfl rfl (qLen underlying30 rfl rfl rfl (qBin rfl rfl rfl rfl bGtr (qBin rfl rfl rfl rfl (bBoolEq underlying4) (qPk rfl rfl rfl rfl (qAs rfl rfl rfl (qAs rfl rfl rfl (qAs rfl rfl rfl (qNK hK5 ?_)))))))))))))))))))))))));clear hK3 hK5;clear F a;intro a F;refine wp_ret ?_;refine bRet3 results12 F rfl rfl rfl ?_
   first
   | (have hlen:0 < l2.length:=List.length_pos_iff.2 (hf.2 h18).1
      refine ⟨A,c,l2,true,?_,⟨fun _=>h18,fun _=>rfl⟩,hf,H.pick 0 rfl⟩
      simp [h18,hlen])
   | (subst hl0
      refine ⟨A,c,[],false,?_,⟨fun h=>Bool.noConfusion h,fun h=>absurd h h18⟩,hf,H.pick 0 rfl⟩
      simp [h18])
  replace h27:=beqF h27
  exact absurd (hb5 h21) h27
 replace h21:=beqF h21;refine sSk F rfl rfl (qSk rfl rfl (qSk rfl rfl (qPk rfl rfl rfl rfl (qPk rfl rfl rfl rfl (qMv rfl rfl rfl (qMv rfl rfl rfl (qBin rfl rfl rfl rfl bEql (qMv rfl rfl rfl ?_))))))));clear F a;intro a F
 refine F.split 30 rfl ?_ ?_ <;> (clear F;intro h30 F)
 ·
  replace h30:=beqT h30
  refine sLr underlying29 rfl ?si F rfl rfl rfl (H.whole 1 rfl) ?_
  case si=>exact info_size sizeOf29
  clear F a;intro a F;refine sCall call15 F rfl rfl rfl (right_any' _ p _ (hP0.own H) (hN.own H)) ?_;rintro e w ⟨rfl,hb⟩;replace H:=H.grow hb;clear hb;refine ⟨_,rfl,?_⟩;clear F a;intro a F;refine sBin F rfl rfl rfl rfl bNeq (qPk rfl rfl rfl rfl (qPk rfl rfl rfl rfl (qAs rfl rfl rfl (qNK hK3 (qSR fun K6 hK6=>qMv rfl rfl rfl (qMv rfl rfl rfl (qBin rfl rfl rfl rfl bEql (qMv rfl rfl rfl (qMv rfl rfl rfl ?_)))))))));clear hK3;clear F a;intro a F
  refine F.split 40 rfl ?_ ?_ <;> (clear F;intro h40 F)
  ·
   replace h40:=bneT h40;refine sMv F rfl rfl rfl (qBin rfl rfl rfl rfl bEql (qMv rfl rfl rfl (qLen underlying30 rfl rfl rfl (qBin rfl rfl rfl rfl bGtr (qBin rfl rfl rfl rfl (bBoolEq underlying4) (qPk rfl rfl rfl rfl (qAs rfl rfl rfl (qAs rfl rfl rfl (qAs rfl rfl rfl (qNK hK6 ?_))))))))));clear hK6;clear F a;intro a F;refine wp_ret ?_;refine bRet3 results12 F rfl rfl rfl ?_
   first
   | (have hlen:0 < l2.length:=List.length_pos_iff.2 (hf.2 h18).1
      refine ⟨A,c,l2,true,?_,⟨fun _=>h18,fun _=>rfl⟩,hf,H.pick 0 rfl⟩
      simp [h18,hlen])
   | (subst hl0
      refine ⟨A,c,[],false,?_,⟨fun h=>Bool.noConfusion h,fun h=>absurd h h18⟩,hf,H.pick 0 rfl⟩
      simp [h18])
  replace h40:=bneF h40
  exact absurd h40 (hb2 h30)
 replace h30:=beqF h30
 exact absurd (hb.resolve_left h21) h30
theorem take_snocT {q:List By} {i:Nat} {y:By} (hy:q[i]? = some y):(tl q).take (i+1)=(tl q).take i++[toL 38 y]:=by
 rw [List.take_add_one,tl_get hy];rfl
theorem within_any (A B:Option Addr) (CA CB:Nat) (l q:List By) (w0:World) (hA:RowsAt w0 A 38 (l.map (bs 38))) (hB:RowsAt w0 B 38 (q.map (bs 38))) (hl:l.length≤9223372036854775807) (hq:q.length≤9223372036854775807) :
   Calls Tryz.prog 13 #[.slice A l.length CA,.slice B q.length CB] w0 fun e w'=>∃ b:Bool,e = .returned (.bool b)∧(b=true ↔ ∀ x ∈ tl l,x ∈ tl q)∧Below w0.heap.size w0 w':=by
 have H:=Own.start w0 none
 refine enterF func13 rfl ntmps13 rfl (fun a F=>?_);refine cSR fun K1 hK1=>sAs F rfl rfl rfl (qNK hK1 ?_);clear hK1;clear F a;intro a F;refine cSeq (fun K2 hK2=>?_);refine cSR fun K3 hK3=>sMv F rfl rfl rfl (qLen underlying30 rfl rfl rfl (qMv rfl rfl rfl (qNK hK3 ?_)));clear hK3;clear F a;intro a F;refine wp_block ?_
 refine cLoopR [1,10,11] (fun m ups w=>∃ j:Nat,m=l.length - j∧ups=[(12,.int .i64 ((j:Nat):Int))]∧j≤l.length∧(∀ x ∈ (tl l).take j,x ∈ tl q)∧Own w0 none w []) F (l.length) [(12,.int .i64 ((0:Nat):Int))] (by repeat (first | exact SubR.nil | (apply SubR.cons;· rfl))) ?_ ?_ ?_
 · exact ⟨0,rfl,rfl,by omega,fun x h=>absurd h (by simp),H⟩
 · repeat (first | exact trivial | refine Le.cons rfl ?_)
 clear F
 clear H
 intro m ups a w hI F
 obtain ⟨j,rfl,rfl,hj,hin,H⟩:=hI
 refine cSR fun K4 hK4=>sBin F rfl rfl rfl rfl bLss (qNK hK4 ?_);clear hK4;clear F a;intro a F;refine cSeq (fun K5 hK5=>?_)
 refine cIf F rfl (fun h13=>?_) (fun h13=>?_)
 ·
  replace h13:=of_decide_eq_true h13
  have hjl:j < l.length:=by omega
  obtain ⟨x,hx⟩:∃ x,l[j]? = some x:=⟨_,List.getElem?_eq_getElem hjl⟩
  obtain ⟨b1,o1,rfl,hR1⟩:=hA j (bs 38 x) (by rw [List.getElem?_map,hx];rfl)
  refine wp_skip (hK5 _ _ ?_);clear hK5;refine cSeq (fun K6 hK6=>?_);refine wp_block ?_;refine cSR fun K7 hK7=>?_
  refine sIx underlying30 sizeOf47 F rfl rfl rfl rfl ?_ ?_
  focus exact hjl
  clear F a;intro a F;refine sLrB underlying47 rfl sizeOf47 F rfl rfl rfl (H.argR hR1) ?_;clear F a;intro a F;refine sAlB H zB47 F rfl rfl ?_;clear F a H;intro b6 a w F H;refine sSrB H 0 sizeOf47 F rfl rfl rfl rfl (by omega) ?_;clear H;intro w H;rw [lay_all] at H;refine nK hK7 (cSR fun K8 hK8=>sAs F rfl rfl rfl (qNK hK8 ?_));clear hK7 hK8;clear F a;intro a F;refine cSeq (fun K9 hK9=>?_);refine cSR fun K10 hK10=>sMv F rfl rfl rfl (qLen underlying30 rfl rfl rfl (qMv rfl rfl rfl (qNK hK10 ?_)));clear hK10;clear F a;intro a F;refine wp_block ?_
  refine cLoopR [1,6,10,11,12,16,17] (fun m ups w=>∃ (i:Nat) (fnd:Bool),m=q.length - i∧ups=[(7,.bool fnd),(18,.int .i64 ((i:Nat):Int))]∧i≤q.length∧(fnd=true ↔ toL 38 x ∈ (tl q).take i)∧Own w0 none w [.blk b6 (bs 38 x) 47]) F (q.length) [(7,.bool false),(18,.int .i64 ((0:Nat):Int))] (by repeat (first | exact SubR.nil | (apply SubR.cons;· rfl))) ?_ ?_ ?_
  · exact ⟨0,false,rfl,rfl,by omega,(by simp),H.sel [0] rfl rfl⟩
  · repeat (first | exact trivial | refine Le.cons rfl ?_)
  clear F
  clear H
  intro m ups a w hI F
  obtain ⟨i,fnd,rfl,rfl,hi,hfnd,H⟩:=hI
  refine cSR fun K11 hK11=>sBin F rfl rfl rfl rfl bLss (qNK hK11 ?_);clear hK11;clear F a;intro a F;refine cSeq (fun K12 hK12=>?_)
  refine cIf F rfl (fun h19=>?_) (fun h19=>?_)
  ·
   replace h19:=of_decide_eq_true h19
   have hiq:i < q.length:=by omega
   obtain ⟨y,hy⟩:∃ y,q[i]? = some y:=⟨_,List.getElem?_eq_getElem hiq⟩
   obtain ⟨b2,o2,rfl,hR2⟩:=hB i (bs 38 y) (by rw [List.getElem?_map,hy];rfl)
   refine wp_skip (hK12 _ _ ?_);clear hK12;refine cSeq (fun K13 hK13=>?_);refine wp_block ?_;refine cSR fun K14 hK14=>?_
   refine sIx underlying30 sizeOf47 F rfl rfl rfl rfl ?_ ?_
   focus exact hiq
   clear F a;intro a F;refine sLrB underlying47 rfl sizeOf47 F rfl rfl rfl (H.argR hR2) ?_;clear F a;intro a F;refine sAlB H zB47 F rfl rfl ?_;clear F a H;intro b9 a w F H;refine sSrB H 0 sizeOf47 F rfl rfl rfl rfl (by omega) ?_;clear H;intro w H;rw [lay_all] at H;refine nK hK14 (cReg (sMv F rfl rfl rfl (qMv rfl rfl rfl ?_)));clear hK14;clear F a;intro a F
   refine F.split 23 rfl ?_ ?_ <;> (clear F;intro h23 F)
   ·
    refine sSk F rfl rfl (qSk rfl rfl (qSk rfl rfl (qPk rfl rfl rfl rfl (qAs rfl rfl rfl (qNK hK13 (qReg ?_))))));clear hK13;clear F a;intro a F
    refine sBin F rfl rfl rfl rfl (bAddN (j:=1) ?_) ?_
    focus omega
    clear F a;intro a F;refine sMv F rfl rfl rfl ?_;clear F a;intro a F;refine sNil ?_
    first
    | exact ⟨_,by omega,_,⟨i+1,true,rfl,rfl,by omega,⟨fun _=>(by rw [take_snocT hy];exact List.mem_append_left _ (hfnd.1 h23)),fun _=>rfl⟩,H.sel [1] rfl rfl⟩,F.to (by repeat (first | exact trivial | refine Le.cons rfl ?_))⟩
    | exact ⟨_,by omega,_,⟨i+1,same 38 x y,rfl,rfl,by omega,(by
       rw [take_snocT hy,List.mem_append,List.mem_singleton,toL_eq]
       exact ⟨.inr,fun h=>h.resolve_left (fun h2=>by rw [hfnd.2 h2] at h23;cases h23)⟩),H.sel [1] rfl rfl⟩,F.to (by repeat (first | exact trivial | refine Le.cons rfl ?_))⟩
   refine sLrB underlying47 rfl sizeOf47 F rfl rfl rfl (H.whole 1 rfl) (qLrB underlying47 rfl sizeOf47 rfl rfl rfl (H.whole 0 rfl) (qBin rfl rfl rfl rfl (bEqY eT47 gT47 rfl) (qPk rfl rfl rfl rfl (qAs rfl rfl rfl (qNK hK13 (qReg ?_))))));clear hK13;clear F a;intro a F
   refine sBin F rfl rfl rfl rfl (bAddN (j:=1) ?_) ?_
   focus omega
   clear F a;intro a F;refine sMv F rfl rfl rfl ?_;clear F a;intro a F;refine sNil ?_
   first
   | exact ⟨_,by omega,_,⟨i+1,true,rfl,rfl,by omega,⟨fun _=>(by rw [take_snocT hy];exact List.mem_append_left _ (hfnd.1 h23)),fun _=>rfl⟩,H.sel [1] rfl rfl⟩,F.to (by repeat (first | exact trivial | refine Le.cons rfl ?_))⟩
   | exact ⟨_,by omega,_,⟨i+1,same 38 x y,rfl,rfl,by omega,(by
      rw [take_snocT hy,List.mem_append,List.mem_singleton,toL_eq]
      exact ⟨.inr,fun h=>h.resolve_left (fun h2=>by rw [hfnd.2 h2] at h23;cases h23)⟩),H.sel [1] rfl rfl⟩,F.to (by repeat (first | exact trivial | refine Le.cons rfl ?_))⟩
  replace h19:=of_decide_eq_false h19
  obtain rfl:i=q.length:=by omega
  rw [List.take_of_length_le (by rw [tl_len];exact Nat.le_refl _)] at hfnd
  refine wp_exit ?_;refine hK9 _ _ (cSR fun K15 hK15=>sMv F rfl rfl rfl (qNot rfl rfl rfl (qNK hK15 ?_)));clear hK9 hK15;clear F a;intro a F
  refine cIf F rfl (fun h30=>?_) (fun h30=>?_)
  ·
   replace h30:=notT h30;refine cSR fun K16 hK16=>sAs F rfl rfl rfl (qNK hK16 ?_);clear hK16;clear F a;intro a F;refine wp_ret ?_;simp only [Exit.inBlock,Exit.then];refine bRet results13 F rfl ?_
   first
   | (have hall:∀ x ∈ tl l,x ∈ tl q:=fun z hz=>hin z (by rw [List.take_of_length_le (by rw [tl_len];omega)];exact hz)
      exact ⟨true,rfl,⟨fun _=>hall,fun _=>rfl⟩,H.below⟩)
   | exact ⟨false,rfl,⟨fun h=>Bool.noConfusion h,fun h=>absurd (hfnd.2 (h _ (List.mem_of_getElem? (tl_get hx)))) (by rw [h30];decide)⟩,H.below⟩
  replace h30:=notF h30;refine wp_skip (hK6 _ _ (cReg ?_));clear hK6
  refine sBin F rfl rfl rfl rfl (bAddN (j:=1) ?_) ?_
  focus omega
  clear F a;intro a F;refine sMv F rfl rfl rfl ?_;clear F a;intro a F;refine sNil ?_
  exact ⟨_,by omega,_,⟨j+1,rfl,rfl,by omega,fun z hz=>(by
   rw [take_snocT hx,List.mem_append,List.mem_singleton] at hz
   rcases hz with h | h
   · exact hin z h
   · rw [h];exact hfnd.1 h30),H.sel [] rfl rfl⟩,F.to (by repeat (first | exact trivial | refine Le.cons rfl ?_))⟩
 replace h13:=of_decide_eq_false h13;refine wp_exit ?_;refine hK2 _ _ (cSR fun K17 hK17=>sAs F rfl rfl rfl (qNK hK17 ?_));clear hK2 hK17;clear F a;intro a F;refine wp_ret ?_;refine bRet results13 F rfl ?_
 first
 | (have hall:∀ x ∈ tl l,x ∈ tl q:=fun z hz=>hin z (by rw [List.take_of_length_le (by rw [tl_len];omega)];exact hz)
    exact ⟨true,rfl,⟨fun _=>hall,fun _=>rfl⟩,H.below⟩)
 | exact ⟨false,rfl,⟨fun h=>Bool.noConfusion h,fun h=>absurd (hfnd.2 (h _ (List.mem_of_getElem? (tl_get hx)))) (by rw [h30];decide)⟩,H.below⟩
theorem fin_short {p:Prg} {m:UInt8} {l:List By} (hf:FinOut p m 600 l):l.length≤9223372036854775807:=by
 by_cases h:statesE p m 600=0
 · have:=(hf.2 h).2.1;omega
 · rw [hf.1 h];decide
theorem within_true (A B:Option Addr) (CA CB:Nat) (l q:List By) (w0:World) (hA:RowsAt w0 A 38 (l.map (bs 38))) (hB:RowsAt w0 B 38 (q.map (bs 38))) (hl:l.length≤9223372036854775807) (hq:q.length≤9223372036854775807) (h:∀ x ∈ tl l,x ∈ tl q) :
   Calls Tryz.prog 13 #[.slice A l.length CA,.slice B q.length CB] w0 fun e w'=>e = .returned (.bool true)∧Below w0.heap.size w0 w':=
 (within_any A B CA CB l q w0 hA hB hl hq).mono fun e w' hh=>by
   obtain ⟨b,he,hb,hB⟩:=hh
   exact ⟨by rw [he,hb.2 h],hB⟩
-- TuP
set_option maxRecDepth 100000
theorem lenSub {α:Type}:∀ {l q:List α},l.Nodup→(∀ x ∈ l,x ∈ q)→l.length≤q.length
 | [],_,_,_=>Nat.zero_le _
 | x :: r,q,hn,h=>by
   obtain ⟨a,b,rfl⟩:=List.append_of_mem (h x (by simp))
   have hn':=List.nodup_cons.1 hn
   have:=lenSub (l:=r) (q:=a++b) hn'.2 (fun y hy=>by
     have:=h y (by simp [hy])
     rw [List.mem_append,List.mem_cons] at this
     rcases this with h1 | h1 | h1
     · exact List.mem_append.2 (.inl h1)
     · rw [h1] at hy;exact absurd hy hn'.1
     · exact List.mem_append.2 (.inr h1))
   simp only [List.length_append,List.length_cons] at this ⊢
   omega
structure IsPerm (n:Nat) (l:List Int):Prop where
 len:l.length=n
 rng:∀ i ∈ l,0≤i∧i < (n:Int)
 nod:l.Nodup
def posZ (l:List Int) (i:Nat):Nat:=l.findIdx (fun x=>x == (i:Int))
def idxZ (l:List Int) (k:Nat):Nat:=(l.getD k 0).toNat
theorem idx_at {n:Nat} {l:List Int} (h:IsPerm n l) {k:Nat} (hk:k < n):l[k]? = some ((idxZ l k:Nat):Int)∧idxZ l k < n:=by
 have hl:k < l.length:=by rw [h.len];exact hk
 have h1:=h.rng _ (List.getElem_mem hl)
 have e:l[k]? = some l[k]:=List.getElem?_eq_getElem hl
 unfold idxZ
 rw [List.getD_eq_getElem?_getD,e]
 show some l[k]=some ((l[k].toNat:Nat):Int)∧l[k].toNat < n
 exact ⟨by rw [Int.toNat_of_nonneg h1.1],by omega⟩
theorem nod_at {l:List Int} (h:l.Nodup) {i j:Nat} {x:Int} (hi:l[i]? = some x) (hj:l[j]? = some x):i=j:=by
 obtain ⟨h1,h2⟩:=List.getElem?_eq_some_iff.1 hi
 obtain ⟨h3,h4⟩:=List.getElem?_eq_some_iff.1 hj
 have hp:=List.pairwise_iff_getElem.1 h
 rcases Nat.lt_trichotomy i j with h | h | h
 · exact absurd (h2.trans h4.symm) (hp i j h1 h3 h)
 · exact h
 · exact absurd (h4.trans h2.symm) (hp j i h3 h1 h)
theorem perm_mem {n:Nat} {l:List Int} (h:IsPerm n l) {i:Nat} (hi:i < n):(i:Int) ∈ l:=by
 apply Decidable.byContradiction
 intro hne
 have:=lenSub (l:=(i:Int) :: l) (q:=(List.range n).map fun (k:Nat)=>(k:Int)) (List.nodup_cons.2 ⟨hne,h.nod⟩) (fun x hx=>by
   rw [List.mem_map]
   rcases List.mem_cons.1 hx with e | e
   · exact ⟨i,List.mem_range.2 hi,e.symm⟩
   · have:=h.rng x e
     exact ⟨x.toNat,List.mem_range.2 (by omega),Int.toNat_of_nonneg this.1⟩)
 rw [List.length_cons,List.length_map,List.length_range,h.len] at this
 omega
theorem pos_at {n:Nat} {l:List Int} (h:IsPerm n l) {i:Nat} (hi:i < n):posZ l i < n∧l[posZ l i]? = some (i:Int):=by
 have hm:=perm_mem h hi
 have hlt:posZ l i < l.length:=List.findIdx_lt_length_of_exists ⟨_,hm,by simp⟩
 have:=List.findIdx_getElem (p:=fun x=>x == (i:Int)) (xs:=l) (w:=hlt)
 rw [beq_iff_eq] at this
 refine ⟨by rw [← h.len];exact hlt,?_⟩
 rw [List.getElem?_eq_getElem hlt]
 exact congrArg some this
theorem pos_of {n:Nat} {l:List Int} (h:IsPerm n l) {k i:Nat} (hi:i < n) (hk:l[k]? = some (i:Int)):posZ l i=k:=nod_at h.nod (pos_at h hi).2 hk
theorem pos_idx {n:Nat} {l:List Int} (h:IsPerm n l) {k:Nat} (hk:k < n):posZ l (idxZ l k)=k:=pos_of h (idx_at h hk).2 (idx_at h hk).1
theorem idx_pos {n:Nat} {l:List Int} (h:IsPerm n l) {i:Nat} (hi:i < n):idxZ l (posZ l i)=i:=by
 have:=(pos_at h hi).2
 unfold idxZ
 rw [List.getD_eq_getElem?_getD,this]
 rfl
def newN (l:List Int) (b:UInt8):UInt8:=UInt8.ofNat (posZ l b.toNat)
theorem newN_nat {n:Nat} {l:List Int} (h:IsPerm n l) (hn:n≤256) {b:UInt8} (hb:b.toNat < n):(newN l b).toNat=posZ l b.toNat:=by
 have:=(pos_at h hb).1
 unfold newN
 rw [UInt8.toNat_ofNat'];omega
def turnI (l:List Int) (x:Ins):Ins:={ x with loc:=if hasB x.op 2=true then newN l x.loc else x.loc }
def turnH (T L:List Int):Nat→Cnd→Cnd
 | 0,c=>c
 | h+1,.mk k t n v kids=>.mk k (if k=1 then newN T t else t) (if k=2 then newN L n else n) v (kids.map (turnH T L h))
def turnPr (h:Nat) (p:Prg) (T L:List Int):Prg:=
 { p with locs:=(List.range p.locs.length).map (fun k=>p.locs.getD (idxZ L k) ByteArray.empty),init:=(List.range p.locs.length).map (fun k=>p.init.getD (idxZ L k) 0),threads:=(List.range p.threads.length).map (fun k=>(p.threads.getD (idxZ T k) []).map (turnI L)),cond:=turnH T L h p.cond }
def finT (f:By) (T L:List Int):By:=fun i=>
 if i < 32 then (if i / 8 < T.length then f (idxZ T (i / 8) * 8+i % 8) else f i) else if i - 32 < L.length then f (32+idxZ L (i - 32)) else f i
theorem condOk_turn {n m:Nat} {T L:List Int} (hT:IsPerm n T) (hL:IsPerm m L) (hn:n≤256) (hm:m≤256):∀ (h d:Nat) (c:Cnd),condOk (n:Int) (m:Int) d c=true→condOk (n:Int) (m:Int) d (turnH T L h c)=true
 | 0,_,_,hc=>hc
 | h+1,0,_,hc=>by cases hc
 | h+1,d+1,.mk k t q v kids,hc=>by
   have hal:kids.all (condOk (n:Int) (m:Int) d)=true→(kids.map (turnH T L h)).all (condOk (n:Int) (m:Int) d)=true:=fun hk=>by
     rw [List.all_map,List.all_eq_true]
     exact fun y hy=>condOk_turn hT hL hn hm h d y (List.all_eq_true.1 hk y hy)
   show condOk (n:Int) (m:Int) (d+1) (.mk k (if k=1 then newN T t else t) (if k=2 then newN L q else q) v (kids.map (turnH T L h)))=true
   unfold condOk at hc ⊢
   rw [List.length_map]
   by_cases h0:k=0
   · rw [if_pos h0] at hc ⊢;rw [h0];exact hc
   · rw [if_neg h0] at hc ⊢
     by_cases h1:k=1
     · rw [if_pos h1] at hc ⊢
       rw [if_pos h1,h1,if_neg (by decide)]
       simp only [Bool.and_eq_true,decide_eq_true_eq] at hc ⊢
       have ht:t.toNat < n:=by omega
       have:=newN_nat hT hn ht
       have:=(pos_at hT ht).1
       exact ⟨⟨by omega,hc.1.2⟩,hc.2⟩
     · rw [if_neg h1] at hc ⊢
       by_cases h2:k=2
       · rw [if_pos h2] at hc ⊢
         rw [if_neg h1,if_pos h2]
         simp only [Bool.and_eq_true,decide_eq_true_eq] at hc ⊢
         have ht:q.toNat < m:=by omega
         have:=newN_nat hL hm ht
         have:=(pos_at hL ht).1
         exact ⟨⟨by omega,hc.1.2⟩,hc.2⟩
       · rw [if_neg h2] at hc ⊢
         rw [if_neg h1,if_neg h2]
         by_cases h3:k=3∨k=4
         · rw [if_pos h3] at hc ⊢
           simp only [Bool.and_eq_true] at hc ⊢
           exact ⟨hc.1,hal hc.2⟩
         · rw [if_neg h3] at hc ⊢
           by_cases h5:k=5
           · rw [if_pos h5] at hc ⊢
             simp only [Bool.and_eq_true] at hc ⊢
             exact ⟨hc.1,hal hc.2⟩
           · rw [if_neg h5] at hc;cases hc
end Go.Proofs.YtbgnapmaimkpkaaGreatDoor
