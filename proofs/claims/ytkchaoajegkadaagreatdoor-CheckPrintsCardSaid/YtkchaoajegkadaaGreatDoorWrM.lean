/-
  WALK2. Package print: conditions. Conditions: the condition lies in the base world's memory; the laid table of powers of ten.
-/
import Derived.Test.YtkchaoajegkadaaGreatDoorJn21
set_option linter.unusedSimpArgs false
set_option linter.unusedVariables false
namespace Go.Proofs.YtkchaoajegkadaaGreatDoor
open Go.Proofs.Tryz
open Go.RowKit
set_option maxRecDepth 100000
theorem own_words {W w:World} {rs:List Res} {b:Nat} {bt:TypeId} {l:List ByteArray} (H:Own W none w (.blk b (l.map Value.string) bt :: rs)):Own W none w (.held (· = b) (some ⟨b,0,none⟩) 1 (strC l) :: rs):=by
 have hb:=H.blk 0 rfl
 exact H.seen (.held (· = b) (some ⟨b,0,none⟩) 1 (strC l)) (show ∀ (j:Nat) (cs:List Value),(strC l)[j]? = some cs→∃ b' off,some ⟨b,0,none⟩=some (⟨b',off,none⟩:Addr)∧b'=b∧w.rangeAt b' (off+j * 1) cs from fun j cs hj=>by
   unfold strC at hj
   rw [List.getElem?_map] at hj
   obtain ⟨s,hs,rfl⟩:=Option.map_eq_some_iff.1 hj
   refine ⟨b,0,rfl,rfl,fun k u hk=>?_⟩
   have hk0:k=0:=by have:=(List.getElem?_eq_some_iff.1 hk).1;simp at this;exact this
   subst hk0
   cases hk
   have:=hb.cell j (v:=.string s) (by rw [List.getElem?_map,hs];rfl)
   simpa using this) (fun c hc=>hc)
theorem own_noWords {W w:World} {rs:List Res} (H:Own W none w rs):Own W none w (.held (fun _=>False) none 1 (strC []) :: rs):=
 H.void (.held (fun _=>False) none 1 (strC [])) (show ∀ (j:Nat) (cs:List Value),(strC [])[j]? = some cs→∃ b' off,none=some (⟨b',off,none⟩:Addr)∧False∧w.rangeAt b' (off+j * 1) cs from fun j cs hj=>by simp [strC] at hj) (fun _ h=>h)
theorem reg_words (t n:UInt8):mk (numT t)++⟨#[58]⟩++mk (regT n)=mk (numT t++[58]++regT n):=by rw [mk_append,mk_append];rfl
theorem reg_bytes (t n:UInt8):(mk (numT t)++⟨#[58]⟩++mk (regT n)).data.toList=numT t++[58]++regT n:=by rw [reg_words];rfl
set_option maxHeartbeats 8000000 in
theorem cond_of {locs:List ByteArray} {LA:Option Addr} {LC bp:Nat} {R:Res} {W:World} (hl:locs.length≤9223372036854775807) (hs:∀ s ∈ locs,s.size≤140737488351232) (hR:Rd W R LA 1 (strC locs)) (hT:TenAt W):∀ h,CondWr locs LA LC bp R W h:=by
 intro h
 induction h with
 | zero=>exact fun w0 rs v cs c hc _=>hc.elim
 | succ h ih=>
 intro w0 rs v cs c hc hW
 obtain ⟨k,t,n,val,kids⟩:=c
 obtain ⟨A0,C0,rfl,hkl,hA⟩:=hc
 obtain ⟨A,C,tx,wi,lg,H,ht,hv⟩:=hW
 have q1:=numT_len t
 have q2:=regT_len n
 have q3:=numT_len val
 have q4:=locT_len hs n
 have z1:(mk (numT t)).size=(numT t).length:=mk_size _
 have z2:(mk (regT n)).size=(regT n).length:=mk_size _
 have z3:(⟨#[58]⟩:ByteArray).size=1:=rfl
 have z4:(mk (numT t)++⟨#[58]⟩:ByteArray).size=(numT t).length+1:=by rw [ByteArray.size_append,z1,z3]
 have hw1:∀ s ∈ ([mk (numT t)++⟨#[58]⟩++mk (regT n),⟨#[61]⟩,mk (numT val)]:List ByteArray),s.size≤140737488355328:=by
   intro s h
   simp only [List.mem_cons,List.not_mem_nil,or_false] at h
   rcases h with rfl | rfl | rfl <;> first | (rw [ByteArray.size_append,z4,z2];omega) | (rw [mk_size];omega) | decide
 have hw2:∀ s ∈ ([mk (locT locs n),⟨#[61]⟩,mk (numT val)]:List ByteArray),s.size≤140737488355328:=by
   intro s h
   simp only [List.mem_cons,List.not_mem_nil,or_false] at h
   rcases h with rfl | rfl | rfl <;> first | (rw [mk_size];omega) | decide
 refine enterF func33 rfl ntmps33 rfl (fun a F=>?_);refine cSR fun K1 hK1=>?_;refine sBx H F rfl rfl rfl ?_;clear F a H;intro b3 a w F H;refine nK hK1 ?_;clear hK1;refine cSeq (fun K2 hK2=>?_);refine cSR fun K3 hK3=>sMv F rfl rfl rfl (qNc rfl rfl rfl (qFa (f:=0) (k:=0) underlying58 rfl sizeOf56 rfl rfl rfl rfl rfl (qFa (f:=2) (k:=2) underlying56 rfl sizeOf4 rfl rfl rfl rfl rfl (qLd isAgg4 rfl rfl rfl (H.cell 1 rfl rfl) (qNK hK3 ?_)))));clear hK3;clear F a;intro a F
 refine cIf F rfl (fun h8=>?_) (fun h8=>?_)
 ·
  have hlg:lg=true:=h8
  subst hlg;refine wp_ret ?_;simp only [Exit.then];refine bEndR results33 F ?_;rw [condWd]
  first
  | (rw [if_pos e0];exact ⟨rfl,A1,C1,tx1,wi1,lg1,H.selT 4 [0,1,2] rfl rfl,ht1,hv1⟩)
  | (rw [if_neg n0,if_pos e1,← reg_bytes t n];exact ⟨rfl,A1,C1,tx1,wi1,lg1,H.selT 4 [0,1,2] rfl rfl,ht1,hv1⟩)
  | (rw [if_neg n0,if_neg n1,if_pos e2];exact ⟨rfl,A1,C1,tx1,wi1,lg1,H.selT 4 [0,1,2] rfl rfl,ht1,hv1⟩)
  | (rw [if_neg n0,if_neg n1,if_neg n2,if_pos e5];exact ⟨rfl,A2,C2,tx2,wi2,lg2,H.selT 5 [0,1,2] rfl rfl,ht2,hv2⟩)
  | (rw [if_neg n0,if_neg n1,if_neg n2,if_neg n5,if_pos e3];exact ⟨rfl,A2,C2,tx2,wi2,lg2,H.selT 5 [0,1,2] rfl rfl,ht2,hv2⟩)
  | (rw [if_neg n0,if_neg n1,if_neg n2,if_neg n5,if_neg n3,if_pos e4];exact ⟨rfl,A2,C2,tx2,wi2,lg2,H.selT 5 [0,1,2] rfl rfl,ht2,hv2⟩)
  | (rw [if_neg n0,if_neg n1,if_neg n2,if_neg n5,if_neg n3,if_neg n4];exact ⟨rfl,A1,C1,tx1,wi1,lg1,H.selT 4 [0,1,2] rfl rfl,ht1,hv1⟩)
  | (rcases hv with ⟨h,_⟩ | ⟨_,h⟩
     · cases h
     · exact ⟨rfl,WrAt.long (H.selT 4 [1,2,3] rfl rfl) ht h (wordsW_len _ _)⟩)
 refine wp_skip (hK2 _ _ (cSR fun K4 hK4=>sFa (f:=0) (k:=0) underlying27 rfl sizeOf5 rfl rfl F rfl rfl rfl (qLd isAgg5 rfl rfl rfl (H.cell 0 rfl rfl) (qNK hK4 ?_))));clear hK2 hK4;clear F a;intro a F;refine wp_block ?_;refine cSR fun K5 hK5=>sBin F rfl rfl rfl rfl (bEqlB (y:=0)) (qAs rfl rfl rfl (qNK hK5 ?_));clear hK5;clear F a;intro a F
 refine cIf F rfl (fun h14=>?_) (fun h14=>?_)
 ·
  replace h14:=beqT h14
  have e0:k=0:=h14
  refine cReg (sMv F rfl rfl rfl ?_);clear F a;intro a F;refine sBs1 H underlying22 sizeOf9 zeroValue9 rfl F rfl rfl rfl rfl ?_;clear F a H;intro b17 a w F H;refine sCall call44 F rfl rfl rfl (wwords1 (v:=v) [⟨#[116,114,117,101]⟩] (by simp) (by decide) (H.selT 5 [0,2,3,4,1] rfl rfl) ht hv) ?_;rintro e w ⟨rfl,hW⟩
  obtain ⟨A1,C1,tx1,wi1,lg1,H,ht1,hv1⟩:=hW
  refine ⟨_,rfl,?_⟩;clear F a;intro a F;refine sNil ?_
  first | refine bEnd results33 F ?_ | (simp only [Exit.then,Exit.inBlock,if_true];(repeat (first | rw [if_pos rfl] | rw [if_neg (by decide)]));refine bEnd results33 F ?_)
  rw [condWd]
  first
  | (rw [if_pos e0];exact ⟨rfl,A1,C1,tx1,wi1,lg1,H.selT 4 [0,1,2] rfl rfl,ht1,hv1⟩)
  | (rw [if_neg n0,if_pos e1,← reg_bytes t n];exact ⟨rfl,A1,C1,tx1,wi1,lg1,H.selT 4 [0,1,2] rfl rfl,ht1,hv1⟩)
  | (rw [if_neg n0,if_neg n1,if_pos e2];exact ⟨rfl,A1,C1,tx1,wi1,lg1,H.selT 4 [0,1,2] rfl rfl,ht1,hv1⟩)
  | (rw [if_neg n0,if_neg n1,if_neg n2,if_pos e5];exact ⟨rfl,A2,C2,tx2,wi2,lg2,H.selT 5 [0,1,2] rfl rfl,ht2,hv2⟩)
  | (rw [if_neg n0,if_neg n1,if_neg n2,if_neg n5,if_pos e3];exact ⟨rfl,A2,C2,tx2,wi2,lg2,H.selT 5 [0,1,2] rfl rfl,ht2,hv2⟩)
  | (rw [if_neg n0,if_neg n1,if_neg n2,if_neg n5,if_neg n3,if_pos e4];exact ⟨rfl,A2,C2,tx2,wi2,lg2,H.selT 5 [0,1,2] rfl rfl,ht2,hv2⟩)
  | (rw [if_neg n0,if_neg n1,if_neg n2,if_neg n5,if_neg n3,if_neg n4];exact ⟨rfl,A1,C1,tx1,wi1,lg1,H.selT 4 [0,1,2] rfl rfl,ht1,hv1⟩)
  | (rcases hv with ⟨h,_⟩ | ⟨_,h⟩
     · cases h
     · exact ⟨rfl,WrAt.long (H.selT 4 [1,2,3] rfl rfl) ht h (wordsW_len _ _)⟩)
 replace h14:=beqF h14
 have n0:¬ k=0:=h14
 refine cSR fun K6 hK6=>sBin F rfl rfl rfl rfl (bEqlB (y:=1)) (qAs rfl rfl rfl (qNK hK6 ?_));clear hK6;clear F a;intro a F
 refine cIf F rfl (fun h19=>?_) (fun h19=>?_)
 ·
  replace h19:=beqT h19
  have e1:k=1:=h19
  refine cRegRO (by kernel_rfl) H ?_;replace H:=H.drew;refine eTF 0 rfl (by kernel_rfl) F rfl rfl rfl (fun w=>rMv F rfl) H qq0 (qTF 1 rfl (by kernel_rfl) rfl rfl rfl (fun a F w=>rFa (f:=1) (k:=1) underlying27 rfl sizeOf5 rfl rfl F rfl) H qq0 (qT 2 rfl (by kernel_rfl) rfl rfl rfl rfl (fun a F w H=>rLd isAgg5 F rfl (H.cell 0 rfl rfl)) H qq0 (qTF 5 rfl (by kernel_rfl) rfl rfl rfl (fun a F w=>rFa (f:=2) (k:=2) underlying27 rfl sizeOf5 rfl rfl F rfl) H qq0 (qT 6 rfl (by kernel_rfl) rfl rfl rfl rfl (fun a F w H=>rLd isAgg5 F rfl (H.cell 0 rfl rfl)) H qq0 (qTF 9 rfl (by kernel_rfl) rfl rfl rfl (fun a F w=>rFa (f:=3) (k:=3) underlying27 rfl sizeOf5 rfl rfl F rfl) H qq0 (qT 10 rfl (by kernel_rfl) rfl rfl rfl rfl (fun a F w H=>rLd isAgg5 F rfl (H.cell 0 rfl rfl)) H qq0 ?_))))));clear F a;intro a F;refine eOne (k:=7) (i:=3) rfl (by kernel_rfl) F rfl (oCall call46 F rfl rfl (wnum_any t _ (hT.below H.below)) ?_);rintro e w ⟨rfl,hb⟩;replace H:=H.grow hb;clear hb;refine ⟨_,rfl,?_⟩;clear F a;intro a F;refine eKeep H ?_;refine eTF 4 rfl (by kernel_rfl) F rfl rfl rfl (fun w=>rBin F rfl rfl (bStrAdd (Nat.le_trans (Nat.add_le_add (Nat.le_of_eq z1) (Nat.le_of_eq z3)) (by omega)))) H qq0 ?_;clear F a;intro a F;refine eOne (k:=9) (i:=7) rfl (by kernel_rfl) F rfl (oCall call65 F rfl rfl (wreg_any n _ (hT.below H.below)) ?_);rintro e w ⟨rfl,hb⟩;replace H:=H.grow hb;clear hb;refine ⟨_,rfl,?_⟩;clear F a;intro a F;refine eKeep H ?_;refine eTF 8 rfl (by kernel_rfl) F rfl rfl rfl (fun w=>rBin F rfl rfl (bStrAdd (Nat.le_trans (Nat.add_le_add (Nat.le_of_eq z4) (Nat.le_of_eq z2)) (by omega)))) H qq0 ?_;clear F a;intro a F
  refine eOne (k:=11) (i:=11) rfl (by kernel_rfl) F rfl (oCall call46 F rfl rfl (wnum_any val _ (hT.below H.below)) ?_);rintro e w ⟨rfl,hb⟩;replace H:=H.grow hb;clear hb;refine ⟨_,rfl,?_⟩;clear F a;intro a F;refine ePartO (by kernel_rfl) H ?_;refine eOne (k:=12) (i:=12) rfl (by kernel_rfl) F rfl (oBs H underlying22 sizeOf9 zeroValue9 rfl F rfl rfl rfl rfl ?_);clear F a H;intro b33 a w F H;refine ePartO (by kernel_rfl) H ?_;refine eOne (k:=13) (i:=13) rfl (by kernel_rfl) F rfl (oCall call44 F rfl rfl (wwords1 (v:=v) [mk (numT t)++⟨#[58]⟩++mk (regT n),⟨#[61]⟩,mk (numT val)] (by simp) hw1 (H.selT 5 [0,2,3,4,1] rfl rfl) ht hv) ?_);rintro e w ⟨rfl,hW⟩
  obtain ⟨A1,C1,tx1,wi1,lg1,H,ht1,hv1⟩:=hW
  refine ⟨_,rfl,?_⟩;clear F a;intro a F;refine ePartO (by kernel_rfl) H ?_;refine eNil (k:=14) (by kernel_rfl) ?_
  first | refine bEnd results33 F ?_ | (simp only [Exit.then,Exit.inBlock,if_true];(repeat (first | rw [if_pos rfl] | rw [if_neg (by decide)]));refine bEnd results33 F ?_)
  rw [condWd]
  first
  | (rw [if_pos e0];exact ⟨rfl,A1,C1,tx1,wi1,lg1,H.selT 4 [0,1,2] rfl rfl,ht1,hv1⟩)
  | (rw [if_neg n0,if_pos e1,← reg_bytes t n];exact ⟨rfl,A1,C1,tx1,wi1,lg1,H.selT 4 [0,1,2] rfl rfl,ht1,hv1⟩)
  | (rw [if_neg n0,if_neg n1,if_pos e2];exact ⟨rfl,A1,C1,tx1,wi1,lg1,H.selT 4 [0,1,2] rfl rfl,ht1,hv1⟩)
  | (rw [if_neg n0,if_neg n1,if_neg n2,if_pos e5];exact ⟨rfl,A2,C2,tx2,wi2,lg2,H.selT 5 [0,1,2] rfl rfl,ht2,hv2⟩)
  | (rw [if_neg n0,if_neg n1,if_neg n2,if_neg n5,if_pos e3];exact ⟨rfl,A2,C2,tx2,wi2,lg2,H.selT 5 [0,1,2] rfl rfl,ht2,hv2⟩)
  | (rw [if_neg n0,if_neg n1,if_neg n2,if_neg n5,if_neg n3,if_pos e4];exact ⟨rfl,A2,C2,tx2,wi2,lg2,H.selT 5 [0,1,2] rfl rfl,ht2,hv2⟩)
  | (rw [if_neg n0,if_neg n1,if_neg n2,if_neg n5,if_neg n3,if_neg n4];exact ⟨rfl,A1,C1,tx1,wi1,lg1,H.selT 4 [0,1,2] rfl rfl,ht1,hv1⟩)
  | (rcases hv with ⟨h,_⟩ | ⟨_,h⟩
     · cases h
     · exact ⟨rfl,WrAt.long (H.selT 4 [1,2,3] rfl rfl) ht h (wordsW_len _ _)⟩)
 replace h19:=beqF h19
 have n1:¬ k=1:=h19
 refine cSR fun K7 hK7=>sBin F rfl rfl rfl rfl (bEqlB (y:=2)) (qAs rfl rfl rfl (qNK hK7 ?_));clear hK7;clear F a;intro a F
 refine cIf F rfl (fun h35=>?_) (fun h35=>?_)
 ·
  replace h35:=beqT h35
  have e2:k=2:=h35
  refine cRegRO (by kernel_rfl) H ?_;replace H:=H.drew;refine eTF 0 rfl (by kernel_rfl) F rfl rfl rfl (fun w=>rMv F rfl) H qq0 (qTF 1 rfl (by kernel_rfl) rfl rfl rfl (fun a F w=>rMv F rfl) H qq0 (qTF 2 rfl (by kernel_rfl) rfl rfl rfl (fun a F w=>rFa (f:=2) (k:=2) underlying27 rfl sizeOf5 rfl rfl F rfl) H qq0 (qT 3 rfl (by kernel_rfl) rfl rfl rfl rfl (fun a F w H=>rLd isAgg5 F rfl (H.cell 0 rfl rfl)) H qq0 (qTF 5 rfl (by kernel_rfl) rfl rfl rfl (fun a F w=>rFa (f:=3) (k:=3) underlying27 rfl sizeOf5 rfl rfl F rfl) H qq0 (qT 6 rfl (by kernel_rfl) rfl rfl rfl rfl (fun a F w H=>rLd isAgg5 F rfl (H.cell 0 rfl rfl)) H qq0 ?_)))));clear F a;intro a F;refine eOne (k:=6) (i:=4) rfl (by kernel_rfl) F rfl (oCall call66 F rfl rfl (wlocB_any locs n hl (H.whole 1 rfl) (locsR hR H 3 rfl)) ?_);rintro e w ⟨rfl,hb⟩;replace H:=H.grow hb;clear hb;refine ⟨_,rfl,?_⟩;clear F a;intro a F;refine eKeep H ?_;refine eOne (k:=7) (i:=7) rfl (by kernel_rfl) F rfl (oCall call46 F rfl rfl (wnum_any val _ (hT.below H.below)) ?_);rintro e w ⟨rfl,hb⟩;replace H:=H.grow hb;clear hb;refine ⟨_,rfl,?_⟩;clear F a;intro a F;refine ePartO (by kernel_rfl) H ?_;refine eOne (k:=8) (i:=8) rfl (by kernel_rfl) F rfl (oBs H underlying22 sizeOf9 zeroValue9 rfl F rfl rfl rfl rfl ?_);clear F a H;intro b45 a w F H;refine ePartO (by kernel_rfl) H ?_;refine eOne (k:=9) (i:=9) rfl (by kernel_rfl) F rfl (oCall call44 F rfl rfl (wwords1 (v:=v) [mk (locT locs n),⟨#[61]⟩,mk (numT val)] (by simp) hw2 (H.selT 5 [0,2,3,4,1] rfl rfl) ht hv) ?_)
  rintro e w ⟨rfl,hW⟩
  obtain ⟨A1,C1,tx1,wi1,lg1,H,ht1,hv1⟩:=hW
  refine ⟨_,rfl,?_⟩;clear F a;intro a F;refine ePartO (by kernel_rfl) H ?_;refine eNil (k:=10) (by kernel_rfl) ?_
  first | refine bEnd results33 F ?_ | (simp only [Exit.then,Exit.inBlock,if_true];(repeat (first | rw [if_pos rfl] | rw [if_neg (by decide)]));refine bEnd results33 F ?_)
  rw [condWd]
  first
  | (rw [if_pos e0];exact ⟨rfl,A1,C1,tx1,wi1,lg1,H.selT 4 [0,1,2] rfl rfl,ht1,hv1⟩)
  | (rw [if_neg n0,if_pos e1,← reg_bytes t n];exact ⟨rfl,A1,C1,tx1,wi1,lg1,H.selT 4 [0,1,2] rfl rfl,ht1,hv1⟩)
  | (rw [if_neg n0,if_neg n1,if_pos e2];exact ⟨rfl,A1,C1,tx1,wi1,lg1,H.selT 4 [0,1,2] rfl rfl,ht1,hv1⟩)
  | (rw [if_neg n0,if_neg n1,if_neg n2,if_pos e5];exact ⟨rfl,A2,C2,tx2,wi2,lg2,H.selT 5 [0,1,2] rfl rfl,ht2,hv2⟩)
  | (rw [if_neg n0,if_neg n1,if_neg n2,if_neg n5,if_pos e3];exact ⟨rfl,A2,C2,tx2,wi2,lg2,H.selT 5 [0,1,2] rfl rfl,ht2,hv2⟩)
  | (rw [if_neg n0,if_neg n1,if_neg n2,if_neg n5,if_neg n3,if_pos e4];exact ⟨rfl,A2,C2,tx2,wi2,lg2,H.selT 5 [0,1,2] rfl rfl,ht2,hv2⟩)
  | (rw [if_neg n0,if_neg n1,if_neg n2,if_neg n5,if_neg n3,if_neg n4];exact ⟨rfl,A1,C1,tx1,wi1,lg1,H.selT 4 [0,1,2] rfl rfl,ht1,hv1⟩)
  | (rcases hv with ⟨h,_⟩ | ⟨_,h⟩
     · cases h
     · exact ⟨rfl,WrAt.long (H.selT 4 [1,2,3] rfl rfl) ht h (wordsW_len _ _)⟩)
 replace h35:=beqF h35
 have n2:¬ k=2:=h35
 refine cSR fun K8 hK8=>sBin F rfl rfl rfl rfl (bEqlB (y:=5)) (qAs rfl rfl rfl (qNK hK8 ?_));clear hK8;clear F a;intro a F
 refine cIf F rfl (fun h47=>?_) (fun h47=>?_)
 ·
  replace h47:=beqT h47
  have e5:k=5:=h47
  refine cSR fun K9 hK9=>sMv F rfl rfl rfl ?_;clear F a;intro a F;refine sBs1 H underlying22 sizeOf9 zeroValue9 rfl F rfl rfl rfl rfl ?_;clear F a H;intro b50 a w F H;refine sCall call44 F rfl rfl rfl (wwords1 (v:=v) [⟨#[33]⟩] (by simp) (by decide) (H.selT 5 [0,2,3,4,1] rfl rfl) ht hv) ?_;rintro e w ⟨rfl,hW⟩
  obtain ⟨A1,C1,tx1,wi1,lg1,H,ht1,hv1⟩:=hW
  refine ⟨_,rfl,?_⟩;clear F a;intro a F;refine nK hK9 (cReg (sMv F rfl rfl rfl (qFa (f:=4) (k:=4) underlying27 rfl sizeOf25 rfl rfl rfl rfl rfl (qLd isAgg25 rfl rfl rfl (H.cell 3 rfl rfl) ?_))));clear hK9;clear F a;intro a F;refine sCall call67 F rfl rfl rfl (kids_of ih _ _ (wordsW v [[33]]) A0 C0 kids true none 0 (fun _=>False) [] (by simp) (by simp) hkl hA ⟨A1,C1,tx1,wi1,lg1,(own_noWords H).selT 5 [1,2,3,0,4] rfl rfl,ht1,hv1⟩) ?_;rintro e w ⟨rfl,hW⟩
  obtain ⟨A2,C2,tx2,wi2,lg2,H,ht2,hv2⟩:=hW
  refine ⟨_,rfl,?_⟩;clear F a;intro a F;refine sNil ?_
  first | refine bEnd results33 F ?_ | (simp only [Exit.then,Exit.inBlock,if_true];(repeat (first | rw [if_pos rfl] | rw [if_neg (by decide)]));refine bEnd results33 F ?_)
  rw [condWd]
  first
  | (rw [if_pos e0];exact ⟨rfl,A1,C1,tx1,wi1,lg1,H.selT 4 [0,1,2] rfl rfl,ht1,hv1⟩)
  | (rw [if_neg n0,if_pos e1,← reg_bytes t n];exact ⟨rfl,A1,C1,tx1,wi1,lg1,H.selT 4 [0,1,2] rfl rfl,ht1,hv1⟩)
  | (rw [if_neg n0,if_neg n1,if_pos e2];exact ⟨rfl,A1,C1,tx1,wi1,lg1,H.selT 4 [0,1,2] rfl rfl,ht1,hv1⟩)
  | (rw [if_neg n0,if_neg n1,if_neg n2,if_pos e5];exact ⟨rfl,A2,C2,tx2,wi2,lg2,H.selT 5 [0,1,2] rfl rfl,ht2,hv2⟩)
  | (rw [if_neg n0,if_neg n1,if_neg n2,if_neg n5,if_pos e3];exact ⟨rfl,A2,C2,tx2,wi2,lg2,H.selT 5 [0,1,2] rfl rfl,ht2,hv2⟩)
  | (rw [if_neg n0,if_neg n1,if_neg n2,if_neg n5,if_neg n3,if_pos e4];exact ⟨rfl,A2,C2,tx2,wi2,lg2,H.selT 5 [0,1,2] rfl rfl,ht2,hv2⟩)
  | (rw [if_neg n0,if_neg n1,if_neg n2,if_neg n5,if_neg n3,if_neg n4];exact ⟨rfl,A1,C1,tx1,wi1,lg1,H.selT 4 [0,1,2] rfl rfl,ht1,hv1⟩)
  | (rcases hv with ⟨h,_⟩ | ⟨_,h⟩
     · cases h
     · exact ⟨rfl,WrAt.long (H.selT 4 [1,2,3] rfl rfl) ht h (wordsW_len _ _)⟩)
 replace h47:=beqF h47
 have n5:¬ k=5:=h47
 refine cSR fun K10 hK10=>sBin F rfl rfl rfl rfl (bEqlB (y:=3)) (qAs rfl rfl rfl (qNK hK10 ?_));clear hK10;clear F a;intro a F
 refine cIf F rfl (fun h56=>?_) (fun h56=>?_)
 ·
  replace h56:=beqT h56
  have e3:k=3:=h56
  refine cReg (sMv F rfl rfl rfl (qFa (f:=4) (k:=4) underlying27 rfl sizeOf25 rfl rfl rfl rfl rfl (qLd isAgg25 rfl rfl rfl (H.cell 0 rfl rfl) ?_)));clear F a;intro a F;refine sBs1 H underlying22 sizeOf9 zeroValue9 rfl F rfl rfl rfl rfl ?_;clear F a H;intro b61 a w F H;refine sCall call67 F rfl rfl rfl (kids_of ih _ _ v A0 C0 kids true _ 1 _ [⟨#[38]⟩] (by simp) (by decide) hkl hA ⟨A,C,tx,wi,lg,(own_words (l:=[⟨#[38]⟩]) H).selT 5 [2,3,4,0,1] rfl rfl,ht,hv⟩) ?_;rintro e w ⟨rfl,hW⟩
  obtain ⟨A2,C2,tx2,wi2,lg2,H,ht2,hv2⟩:=hW
  refine ⟨_,rfl,?_⟩;clear F a;intro a F;refine sNil ?_
  first | refine bEnd results33 F ?_ | (simp only [Exit.then,Exit.inBlock,if_true];(repeat (first | rw [if_pos rfl] | rw [if_neg (by decide)]));refine bEnd results33 F ?_)
  rw [condWd]
  first
  | (rw [if_pos e0];exact ⟨rfl,A1,C1,tx1,wi1,lg1,H.selT 4 [0,1,2] rfl rfl,ht1,hv1⟩)
  | (rw [if_neg n0,if_pos e1,← reg_bytes t n];exact ⟨rfl,A1,C1,tx1,wi1,lg1,H.selT 4 [0,1,2] rfl rfl,ht1,hv1⟩)
  | (rw [if_neg n0,if_neg n1,if_pos e2];exact ⟨rfl,A1,C1,tx1,wi1,lg1,H.selT 4 [0,1,2] rfl rfl,ht1,hv1⟩)
  | (rw [if_neg n0,if_neg n1,if_neg n2,if_pos e5];exact ⟨rfl,A2,C2,tx2,wi2,lg2,H.selT 5 [0,1,2] rfl rfl,ht2,hv2⟩)
  | (rw [if_neg n0,if_neg n1,if_neg n2,if_neg n5,if_pos e3];exact ⟨rfl,A2,C2,tx2,wi2,lg2,H.selT 5 [0,1,2] rfl rfl,ht2,hv2⟩)
  | (rw [if_neg n0,if_neg n1,if_neg n2,if_neg n5,if_neg n3,if_pos e4];exact ⟨rfl,A2,C2,tx2,wi2,lg2,H.selT 5 [0,1,2] rfl rfl,ht2,hv2⟩)
  | (rw [if_neg n0,if_neg n1,if_neg n2,if_neg n5,if_neg n3,if_neg n4];exact ⟨rfl,A1,C1,tx1,wi1,lg1,H.selT 4 [0,1,2] rfl rfl,ht1,hv1⟩)
  | (rcases hv with ⟨h,_⟩ | ⟨_,h⟩
     · cases h
     · exact ⟨rfl,WrAt.long (H.selT 4 [1,2,3] rfl rfl) ht h (wordsW_len _ _)⟩)
 replace h56:=beqF h56
 have n3:¬ k=3:=h56
 refine cSR fun K11 hK11=>sBin F rfl rfl rfl rfl (bEqlB (y:=4)) (qAs rfl rfl rfl (qNK hK11 ?_));clear hK11;clear F a;intro a F
 refine cIf F rfl (fun h63=>?_) (fun h63=>?_)
 ·
  replace h63:=beqT h63
  have e4:k=4:=h63
  refine cReg (sMv F rfl rfl rfl (qFa (f:=4) (k:=4) underlying27 rfl sizeOf25 rfl rfl rfl rfl rfl (qLd isAgg25 rfl rfl rfl (H.cell 0 rfl rfl) ?_)));clear F a;intro a F;refine sBs1 H underlying22 sizeOf9 zeroValue9 rfl F rfl rfl rfl rfl ?_;clear F a H;intro b68 a w F H;refine sCall call67 F rfl rfl rfl (kids_of ih _ _ v A0 C0 kids false _ 1 _ [⟨#[124]⟩] (by simp) (by decide) hkl hA ⟨A,C,tx,wi,lg,(own_words (l:=[⟨#[124]⟩]) H).selT 5 [2,3,4,0,1] rfl rfl,ht,hv⟩) ?_;rintro e w ⟨rfl,hW⟩
  obtain ⟨A2,C2,tx2,wi2,lg2,H,ht2,hv2⟩:=hW
  refine ⟨_,rfl,?_⟩;clear F a;intro a F;refine sNil ?_
  first | refine bEnd results33 F ?_ | (simp only [Exit.then,Exit.inBlock,if_true];(repeat (first | rw [if_pos rfl] | rw [if_neg (by decide)]));refine bEnd results33 F ?_)
  rw [condWd]
  first
  | (rw [if_pos e0];exact ⟨rfl,A1,C1,tx1,wi1,lg1,H.selT 4 [0,1,2] rfl rfl,ht1,hv1⟩)
  | (rw [if_neg n0,if_pos e1,← reg_bytes t n];exact ⟨rfl,A1,C1,tx1,wi1,lg1,H.selT 4 [0,1,2] rfl rfl,ht1,hv1⟩)
  | (rw [if_neg n0,if_neg n1,if_pos e2];exact ⟨rfl,A1,C1,tx1,wi1,lg1,H.selT 4 [0,1,2] rfl rfl,ht1,hv1⟩)
  | (rw [if_neg n0,if_neg n1,if_neg n2,if_pos e5];exact ⟨rfl,A2,C2,tx2,wi2,lg2,H.selT 5 [0,1,2] rfl rfl,ht2,hv2⟩)
  | (rw [if_neg n0,if_neg n1,if_neg n2,if_neg n5,if_pos e3];exact ⟨rfl,A2,C2,tx2,wi2,lg2,H.selT 5 [0,1,2] rfl rfl,ht2,hv2⟩)
  | (rw [if_neg n0,if_neg n1,if_neg n2,if_neg n5,if_neg n3,if_pos e4];exact ⟨rfl,A2,C2,tx2,wi2,lg2,H.selT 5 [0,1,2] rfl rfl,ht2,hv2⟩)
  | (rw [if_neg n0,if_neg n1,if_neg n2,if_neg n5,if_neg n3,if_neg n4];exact ⟨rfl,A1,C1,tx1,wi1,lg1,H.selT 4 [0,1,2] rfl rfl,ht1,hv1⟩)
  | (rcases hv with ⟨h,_⟩ | ⟨_,h⟩
     · cases h
     · exact ⟨rfl,WrAt.long (H.selT 4 [1,2,3] rfl rfl) ht h (wordsW_len _ _)⟩)
 replace h63:=beqF h63
 have n4:¬ k=4:=h63
 refine cReg (sMv F rfl rfl rfl ?_);clear F a;intro a F;refine sBs1 H underlying22 sizeOf9 zeroValue9 rfl F rfl rfl rfl rfl ?_;clear F a H;intro b12 a w F H;refine sCall call44 F rfl rfl rfl (wwords1 (v:=v) [⟨#[63]⟩] (by simp) (by decide) (H.selT 5 [0,2,3,4,1] rfl rfl) ht hv) ?_;rintro e w ⟨rfl,hW⟩
 obtain ⟨A1,C1,tx1,wi1,lg1,H,ht1,hv1⟩:=hW
 refine ⟨_,rfl,?_⟩;clear F a;intro a F;refine sNil ?_
 first | refine bEnd results33 F ?_ | (simp only [Exit.then,Exit.inBlock,if_true];(repeat (first | rw [if_pos rfl] | rw [if_neg (by decide)]));refine bEnd results33 F ?_)
 rw [condWd]
 first
 | (rw [if_pos e0];exact ⟨rfl,A1,C1,tx1,wi1,lg1,H.selT 4 [0,1,2] rfl rfl,ht1,hv1⟩)
 | (rw [if_neg n0,if_pos e1,← reg_bytes t n];exact ⟨rfl,A1,C1,tx1,wi1,lg1,H.selT 4 [0,1,2] rfl rfl,ht1,hv1⟩)
 | (rw [if_neg n0,if_neg n1,if_pos e2];exact ⟨rfl,A1,C1,tx1,wi1,lg1,H.selT 4 [0,1,2] rfl rfl,ht1,hv1⟩)
 | (rw [if_neg n0,if_neg n1,if_neg n2,if_pos e5];exact ⟨rfl,A2,C2,tx2,wi2,lg2,H.selT 5 [0,1,2] rfl rfl,ht2,hv2⟩)
 | (rw [if_neg n0,if_neg n1,if_neg n2,if_neg n5,if_pos e3];exact ⟨rfl,A2,C2,tx2,wi2,lg2,H.selT 5 [0,1,2] rfl rfl,ht2,hv2⟩)
 | (rw [if_neg n0,if_neg n1,if_neg n2,if_neg n5,if_neg n3,if_pos e4];exact ⟨rfl,A2,C2,tx2,wi2,lg2,H.selT 5 [0,1,2] rfl rfl,ht2,hv2⟩)
 | (rw [if_neg n0,if_neg n1,if_neg n2,if_neg n5,if_neg n3,if_neg n4];exact ⟨rfl,A1,C1,tx1,wi1,lg1,H.selT 4 [0,1,2] rfl rfl,ht1,hv1⟩)
 | (rcases hv with ⟨h,_⟩ | ⟨_,h⟩
    · cases h
    · exact ⟨rfl,WrAt.long (H.selT 4 [1,2,3] rfl rfl) ht h (wordsW_len _ _)⟩)
end Go.Proofs.YtkchaoajegkadaaGreatDoor
