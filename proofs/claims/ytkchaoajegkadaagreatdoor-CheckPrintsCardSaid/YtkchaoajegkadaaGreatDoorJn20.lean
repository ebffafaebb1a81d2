/-
  WALK2. Package print: the words of instructions, by their forms, from the third (printed by wip/mkfmt.py). Conditions: as in WrD.
-/
import Derived.Test.YtkchaoajegkadaaGreatDoorJn19
import Derived.Test.YtkchaoajegkadaaGreatDoorJn5
set_option linter.unusedSimpArgs false
set_option linter.unusedVariables false
namespace Go.Proofs.YtkchaoajegkadaaGreatDoor
-- WrE
open Go.Proofs.Tryz
open Go.RowKit
set_option maxRecDepth 100000
section
variable {W w0:World} {rs:List Res} {bp V:Nat} {LA:Option Addr} {LC:Nat} {R:Res} {locs:List ByteArray} {v:WS}
theorem fmt3_any (x:Ins) (hl:locs.length≤9223372036854775807) (hs:∀ s ∈ locs,s.size≤140737488351232) (hR:Rd W R LA 1 (strC locs)) (hT:TenAt W) (hW:WrF W w0 rs V bp R LA LC locs v) :
   Calls Tryz.prog 106 #[.agg x.cells.toArray,.pointer (some ⟨V,0,none⟩)] w0 fun e w'=>e = .returned (.tuple #[])∧WrF W w' rs V bp R LA LC locs (wordsW v ([locT locs x.loc,[61],argT x.aR x.aN]++modeT x.mode 0 2 [114,101,108])):=by
 obtain ⟨A,C,tx,wi,lg,H,ht,hv⟩:=hW
 have q0:=locT_len hs x.loc
 have q1:=argT_len x.aR x.aN
 have hws:∀ s ∈ ([mk (locT locs x.loc),⟨#[61]⟩,mk (argT x.aR x.aN)]:List ByteArray),s.size≤140737488355328:=by
   intro s h
   simp only [List.mem_cons,List.not_mem_nil,or_false] at h
   rcases h with rfl | rfl | rfl <;> first | (rw [mk_size];omega) | decide
 refine enterF func106 rfl ntmps106 rfl (fun a F=>?_);refine cSR fun K1 hK1=>?_;refine sBx H F rfl rfl rfl ?_;clear F a H;intro b2 a w F H;refine nK hK1 ?_;clear hK1;refine cSeq (fun K2 hK2=>?_);refine cRegRO (by kernel_rfl) H ?_;replace H:=H.drew;refine eT 0 rfl (by kernel_rfl) F rfl rfl rfl rfl (fun w H=>rLd isAgg94 F rfl (H.cell 3 rfl rfl)) H qq0 (qT 1 rfl (by kernel_rfl) rfl rfl rfl rfl (fun a F w H=>rLd isAgg94 F rfl (H.cell 3 rfl rfl)) H qq0 (qTF 2 rfl (by kernel_rfl) rfl rfl rfl (fun a F w=>rFa (f:=2) (k:=2) underlying44 rfl sizeOf5 rfl rfl F rfl) H qq0 (qT 3 rfl (by kernel_rfl) rfl rfl rfl rfl (fun a F w H=>rLd isAgg5 F rfl (H.cell 0 rfl rfl)) H qq0 (qTF 5 rfl (by kernel_rfl) rfl rfl rfl (fun a F w=>rFa (f:=3) (k:=3) underlying44 rfl sizeOf42 rfl rfl F rfl) H qq0 ?_))));clear F a;intro a F
 refine eTake (k:=5) (i:=6) rfl (by kernel_rfl) F rfl rfl rfl rfl (fun w H=>rLr underlying42 rfl ?si F rfl (H.range 0 rfl _ 2)) H (fun _ _ _ h=>h) ?_
 case si=>exact info_size sizeOf42
 clear F a;intro a F;refine eOne (k:=6) (i:=4) rfl (by kernel_rfl) F rfl (oCall call66 F rfl rfl (wlocB_any locs x.loc hl (H.whole 1 rfl) (locsR hR H 4 rfl)) ?_);rintro e w ⟨rfl,hb⟩;replace H:=H.grow hb;clear hb;refine ⟨_,rfl,?_⟩;clear F a;intro a F;refine eKeep H ?_;refine eOne (k:=7) (i:=7) rfl (by kernel_rfl) F rfl (oCall call107 F rfl rfl (warg_any x.aR x.aN _ (hT.below H.below)) ?_);rintro e w ⟨rfl,hb⟩;replace H:=H.grow hb;clear hb;refine ⟨_,rfl,?_⟩;clear F a;intro a F;refine eKeep H ?_;refine eOne (k:=8) (i:=8) rfl (by kernel_rfl) F rfl (oBs H underlying22 sizeOf9 zeroValue9 rfl F rfl rfl rfl rfl ?_);clear F a H;intro b11 a w F H;refine eKeep H.tail ?_;refine eOne (k:=9) (i:=9) rfl (by kernel_rfl) F rfl (oCall call44 F rfl rfl (wwords1 (v:=v) [mk (locT locs x.loc),⟨#[61]⟩,mk (argT x.aR x.aN)] (by simp) hws (H.selT 6 [0,2,3,4,5,1] rfl rfl) ht hv) ?_);rintro e w ⟨rfl,hW⟩
 obtain ⟨A1,C1,tx1,wi1,lg1,H,ht1,hv1⟩:=hW
 refine ⟨_,rfl,?_⟩;clear F a;intro a F;refine ePartO (by kernel_rfl) H ?_;refine eNil (k:=10) (by kernel_rfl) ?_;refine hK2 _ _ (cReg (sLd isAgg94 F rfl rfl rfl (H.cell 2 rfl rfl) (qFa (f:=6) (k:=8) underlying44 rfl sizeOf5 rfl rfl rfl rfl rfl (qLd isAgg5 rfl rfl rfl (H.cell 4 rfl rfl) ?_))));clear hK2;clear F a;intro a F;refine sCall call105 F rfl rfl rfl (wmode_any x.mode 0 2 ⟨#[114,101,108]⟩ (by decide) ⟨A1,C1,tx1,wi1,lg1,H,ht1,hv1⟩) ?_;rintro e w ⟨rfl,hW⟩
 obtain ⟨A2,C2,tx2,wi2,lg2,H,ht2,hv2⟩:=hW
 refine ⟨_,rfl,?_⟩;clear F a;intro a F;refine sNil ?_
 first | refine bEnd results106 F ?_ | (simp only [Exit.then,Exit.inBlock,if_true];(repeat (first | rw [if_pos rfl] | rw [if_neg (by decide)]));refine bEnd results106 F ?_)
 exact ⟨rfl,A2,C2,tx2,wi2,lg2,H.selT 5 [0,1,2,3] rfl rfl,ht2,hv2⟩
theorem fmt4_any (x:Ins) (hl:locs.length≤9223372036854775807) (hs:∀ s ∈ locs,s.size≤140737488351232) (hR:Rd W R LA 1 (strC locs)) (hT:TenAt W) (hW:WrF W w0 rs V bp R LA LC locs v) :
   Calls Tryz.prog 108 #[.agg x.cells.toArray,.pointer (some ⟨V,0,none⟩)] w0 fun e w'=>e = .returned (.tuple #[])∧WrF W w' rs V bp R LA LC locs (wordsW v ([regT x.dst,[61],argT x.aR x.aN,fnT x.fn 1 3,argT x.bR x.bN])):=by
 obtain ⟨A,C,tx,wi,lg,H,ht,hv⟩:=hW
 have q0:=regT_len x.dst
 have q1:=argT_len x.aR x.aN
 have q2:=fnT_len x.fn 1 3
 have q3:=argT_len x.bR x.bN
 have hws:∀ s ∈ ([mk (regT x.dst),⟨#[61]⟩,mk (argT x.aR x.aN),mk (fnT x.fn 1 3),mk (argT x.bR x.bN)]:List ByteArray),s.size≤140737488355328:=by
   intro s h
   simp only [List.mem_cons,List.not_mem_nil,or_false] at h
   rcases h with rfl | rfl | rfl | rfl | rfl <;> first | (rw [mk_size];omega) | decide
 refine enterF func108 rfl ntmps108 rfl (fun a F=>?_);refine cSR fun K1 hK1=>?_;refine sBx H F rfl rfl rfl ?_;clear F a H;intro b2 a w F H;refine nK hK1 ?_;clear hK1;refine cRegRO (by kernel_rfl) H ?_;replace H:=H.drew;refine eT 0 rfl (by kernel_rfl) F rfl rfl rfl rfl (fun w H=>rLd isAgg94 F rfl (H.cell 3 rfl rfl)) H qq0 (qTF 1 rfl (by kernel_rfl) rfl rfl rfl (fun a F w=>rFa (f:=1) (k:=1) underlying44 rfl sizeOf5 rfl rfl F rfl) H qq0 (qT 2 rfl (by kernel_rfl) rfl rfl rfl rfl (fun a F w H=>rLd isAgg5 F rfl (H.cell 0 rfl rfl)) H qq0 (qTF 4 rfl (by kernel_rfl) rfl rfl rfl (fun a F w=>rFa (f:=3) (k:=3) underlying44 rfl sizeOf42 rfl rfl F rfl) H qq0 ?_)));clear F a;intro a F
 refine eTake (k:=4) (i:=5) rfl (by kernel_rfl) F rfl rfl rfl rfl (fun w H=>rLr underlying42 rfl ?si F rfl (H.range 0 rfl _ 2)) H (fun _ _ _ h=>h) ?_
 case si=>exact info_size sizeOf42
 clear F a;intro a F;refine eTF 7 rfl (by kernel_rfl) F rfl rfl rfl (fun w=>rFa (f:=5) (k:=7) underlying44 rfl sizeOf5 rfl rfl F rfl) H qq0 (qT 8 rfl (by kernel_rfl) rfl rfl rfl rfl (fun a F w H=>rLd isAgg5 F rfl (H.cell 0 rfl rfl)) H qq0 (qTF 10 rfl (by kernel_rfl) rfl rfl rfl (fun a F w=>rFa (f:=4) (k:=5) underlying44 rfl sizeOf42 rfl rfl F rfl) H qq0 ?_));clear F a;intro a F
 refine eTake (k:=8) (i:=11) rfl (by kernel_rfl) F rfl rfl rfl rfl (fun w H=>rLr underlying42 rfl ?si F rfl (H.range 0 rfl _ 2)) H (fun _ _ _ h=>h) ?_
 case si=>exact info_size sizeOf42
 clear F a;intro a F;refine eOne (k:=9) (i:=3) rfl (by kernel_rfl) F rfl (oCall call65 F rfl rfl (wreg_any x.dst _ (hT.below H.below)) ?_);rintro e w ⟨rfl,hb⟩;replace H:=H.grow hb;clear hb;refine ⟨_,rfl,?_⟩;clear F a;intro a F;refine eKeep H ?_;refine eOne (k:=10) (i:=6) rfl (by kernel_rfl) F rfl (oCall call107 F rfl rfl (warg_any x.aR x.aN _ (hT.below H.below)) ?_);rintro e w ⟨rfl,hb⟩;replace H:=H.grow hb;clear hb;refine ⟨_,rfl,?_⟩;clear F a;intro a F;refine eKeep H ?_;refine eOne (k:=11) (i:=9) rfl (by kernel_rfl) F rfl (oCall call109 F rfl rfl (wsign_any x.fn 1 3 _) ?_);rintro e w ⟨rfl,hb⟩;replace H:=H.grow hb;clear hb;refine ⟨_,rfl,?_⟩;clear F a;intro a F;refine eKeep H ?_;refine eOne (k:=12) (i:=12) rfl (by kernel_rfl) F rfl (oCall call107 F rfl rfl (warg_any x.bR x.bN _ (hT.below H.below)) ?_);rintro e w ⟨rfl,hb⟩;replace H:=H.grow hb;clear hb;refine ⟨_,rfl,?_⟩;clear F a;intro a F;refine eKeep H ?_;refine eOne (k:=13) (i:=13) rfl (by kernel_rfl) F rfl (oBs H underlying22 sizeOf9 zeroValue9 rfl F rfl rfl rfl rfl ?_);clear F a H;intro b16 a w F H;refine eKeep H.tail ?_;refine eOne (k:=14) (i:=14) rfl (by kernel_rfl) F rfl (oCall call44 F rfl rfl (wwords1 (v:=v) [mk (regT x.dst),⟨#[61]⟩,mk (argT x.aR x.aN),mk (fnT x.fn 1 3),mk (argT x.bR x.bN)] (by simp) hws (H.selT 6 [0,2,3,4,5,1] rfl rfl) ht hv) ?_);rintro e w ⟨rfl,hW⟩
 obtain ⟨A1,C1,tx1,wi1,lg1,H,ht1,hv1⟩:=hW
 refine ⟨_,rfl,?_⟩;clear F a;intro a F;refine ePartO (by kernel_rfl) H ?_;refine eNil (k:=15) (by kernel_rfl) ?_
 first | refine bEnd results108 F ?_ | (simp only [Exit.then,Exit.inBlock,if_true];(repeat (first | rw [if_pos rfl] | rw [if_neg (by decide)]));refine bEnd results108 F ?_)
 exact ⟨rfl,A1,C1,tx1,wi1,lg1,H.selT 5 [0,1,2,3] rfl rfl,ht1,hv1⟩
theorem fmt5_any (x:Ins) (hl:locs.length≤9223372036854775807) (hs:∀ s ∈ locs,s.size≤140737488351232) (hR:Rd W R LA 1 (strC locs)) (hT:TenAt W) (hW:WrF W w0 rs V bp R LA LC locs v) :
   Calls Tryz.prog 110 #[.agg x.cells.toArray,.pointer (some ⟨V,0,none⟩)] w0 fun e w'=>e = .returned (.tuple #[])∧WrF W w' rs V bp R LA LC locs (wordsW v ([regT x.dst,[61],[115,119,97,112],locT locs x.loc,argT x.aR x.aN])):=by
 obtain ⟨A,C,tx,wi,lg,H,ht,hv⟩:=hW
 have q0:=regT_len x.dst
 have q1:=locT_len hs x.loc
 have q2:=argT_len x.aR x.aN
 have hws:∀ s ∈ ([mk (regT x.dst),⟨#[61]⟩,⟨#[115,119,97,112]⟩,mk (locT locs x.loc),mk (argT x.aR x.aN)]:List ByteArray),s.size≤140737488355328:=by
   intro s h
   simp only [List.mem_cons,List.not_mem_nil,or_false] at h
   rcases h with rfl | rfl | rfl | rfl | rfl <;> first | (rw [mk_size];omega) | decide
 refine enterF func110 rfl ntmps110 rfl (fun a F=>?_);refine cSR fun K1 hK1=>?_;refine sBx H F rfl rfl rfl ?_;clear F a H;intro b2 a w F H;refine nK hK1 ?_;clear hK1;refine cRegRO (by kernel_rfl) H ?_;replace H:=H.drew;refine eT 0 rfl (by kernel_rfl) F rfl rfl rfl rfl (fun w H=>rLd isAgg94 F rfl (H.cell 3 rfl rfl)) H qq0 (qTF 1 rfl (by kernel_rfl) rfl rfl rfl (fun a F w=>rFa (f:=1) (k:=1) underlying44 rfl sizeOf5 rfl rfl F rfl) H qq0 (qT 2 rfl (by kernel_rfl) rfl rfl rfl rfl (fun a F w H=>rLd isAgg5 F rfl (H.cell 0 rfl rfl)) H qq0 (qT 4 rfl (by kernel_rfl) rfl rfl rfl rfl (fun a F w H=>rLd isAgg94 F rfl (H.cell 3 rfl rfl)) H qq0 (qTF 5 rfl (by kernel_rfl) rfl rfl rfl (fun a F w=>rFa (f:=2) (k:=2) underlying44 rfl sizeOf5 rfl rfl F rfl) H qq0 (qT 6 rfl (by kernel_rfl) rfl rfl rfl rfl (fun a F w H=>rLd isAgg5 F rfl (H.cell 0 rfl rfl)) H qq0 (qTF 8 rfl (by kernel_rfl) rfl rfl rfl (fun a F w=>rFa (f:=3) (k:=3) underlying44 rfl sizeOf42 rfl rfl F rfl) H qq0 ?_))))));clear F a;intro a F
 refine eTake (k:=7) (i:=9) rfl (by kernel_rfl) F rfl rfl rfl rfl (fun w H=>rLr underlying42 rfl ?si F rfl (H.range 0 rfl _ 2)) H (fun _ _ _ h=>h) ?_
 case si=>exact info_size sizeOf42
 clear F a;intro a F;refine eOne (k:=8) (i:=3) rfl (by kernel_rfl) F rfl (oCall call65 F rfl rfl (wreg_any x.dst _ (hT.below H.below)) ?_);rintro e w ⟨rfl,hb⟩;replace H:=H.grow hb;clear hb;refine ⟨_,rfl,?_⟩;clear F a;intro a F;refine eKeep H ?_;refine eOne (k:=9) (i:=7) rfl (by kernel_rfl) F rfl (oCall call66 F rfl rfl (wlocB_any locs x.loc hl (H.whole 1 rfl) (locsR hR H 4 rfl)) ?_);rintro e w ⟨rfl,hb⟩;replace H:=H.grow hb;clear hb;refine ⟨_,rfl,?_⟩;clear F a;intro a F;refine eKeep H ?_;refine eOne (k:=10) (i:=10) rfl (by kernel_rfl) F rfl (oCall call107 F rfl rfl (warg_any x.aR x.aN _ (hT.below H.below)) ?_);rintro e w ⟨rfl,hb⟩;replace H:=H.grow hb;clear hb;refine ⟨_,rfl,?_⟩;clear F a;intro a F;refine eKeep H ?_;refine eOne (k:=11) (i:=11) rfl (by kernel_rfl) F rfl (oBs H underlying22 sizeOf9 zeroValue9 rfl F rfl rfl rfl rfl ?_);clear F a H;intro b14 a w F H;refine eKeep H.tail ?_;refine eOne (k:=12) (i:=12) rfl (by kernel_rfl) F rfl (oCall call44 F rfl rfl (wwords1 (v:=v) [mk (regT x.dst),⟨#[61]⟩,⟨#[115,119,97,112]⟩,mk (locT locs x.loc),mk (argT x.aR x.aN)] (by simp) hws (H.selT 6 [0,2,3,4,5,1] rfl rfl) ht hv) ?_);rintro e w ⟨rfl,hW⟩
 obtain ⟨A1,C1,tx1,wi1,lg1,H,ht1,hv1⟩:=hW
 refine ⟨_,rfl,?_⟩;clear F a;intro a F;refine ePartO (by kernel_rfl) H ?_;refine eNil (k:=13) (by kernel_rfl) ?_
 first | refine bEnd results110 F ?_ | (simp only [Exit.then,Exit.inBlock,if_true];(repeat (first | rw [if_pos rfl] | rw [if_neg (by decide)]));refine bEnd results110 F ?_)
 exact ⟨rfl,A1,C1,tx1,wi1,lg1,H.selT 5 [0,1,2,3] rfl rfl,ht1,hv1⟩
theorem fmt6_any (x:Ins) (hl:locs.length≤9223372036854775807) (hs:∀ s ∈ locs,s.size≤140737488351232) (hR:Rd W R LA 1 (strC locs)) (hT:TenAt W) (hW:WrF W w0 rs V bp R LA LC locs v) :
   Calls Tryz.prog 111 #[.agg x.cells.toArray,.pointer (some ⟨V,0,none⟩)] w0 fun e w'=>e = .returned (.tuple #[])∧WrF W w' rs V bp R LA LC locs (wordsW v ([regT x.dst,[61],[102,101,116,99,104],locT locs x.loc,argT x.aR x.aN])):=by
 obtain ⟨A,C,tx,wi,lg,H,ht,hv⟩:=hW
 have q0:=regT_len x.dst
 have q1:=locT_len hs x.loc
 have q2:=argT_len x.aR x.aN
 have hws:∀ s ∈ ([mk (regT x.dst),⟨#[61]⟩,⟨#[102,101,116,99,104]⟩,mk (locT locs x.loc),mk (argT x.aR x.aN)]:List ByteArray),s.size≤140737488355328:=by
   intro s h
   simp only [List.mem_cons,List.not_mem_nil,or_false] at h
   rcases h with rfl | rfl | rfl | rfl | rfl <;> first | (rw [mk_size];omega) | decide
 refine enterF func111 rfl ntmps111 rfl (fun a F=>?_);refine cSR fun K1 hK1=>?_;refine sBx H F rfl rfl rfl ?_;clear F a H;intro b2 a w F H;refine nK hK1 ?_;clear hK1;refine cRegRO (by kernel_rfl) H ?_;replace H:=H.drew;refine eT 0 rfl (by kernel_rfl) F rfl rfl rfl rfl (fun w H=>rLd isAgg94 F rfl (H.cell 3 rfl rfl)) H qq0 (qTF 1 rfl (by kernel_rfl) rfl rfl rfl (fun a F w=>rFa (f:=1) (k:=1) underlying44 rfl sizeOf5 rfl rfl F rfl) H qq0 (qT 2 rfl (by kernel_rfl) rfl rfl rfl rfl (fun a F w H=>rLd isAgg5 F rfl (H.cell 0 rfl rfl)) H qq0 (qT 4 rfl (by kernel_rfl) rfl rfl rfl rfl (fun a F w H=>rLd isAgg94 F rfl (H.cell 3 rfl rfl)) H qq0 (qTF 5 rfl (by kernel_rfl) rfl rfl rfl (fun a F w=>rFa (f:=2) (k:=2) underlying44 rfl sizeOf5 rfl rfl F rfl) H qq0 (qT 6 rfl (by kernel_rfl) rfl rfl rfl rfl (fun a F w H=>rLd isAgg5 F rfl (H.cell 0 rfl rfl)) H qq0 (qTF 8 rfl (by kernel_rfl) rfl rfl rfl (fun a F w=>rFa (f:=3) (k:=3) underlying44 rfl sizeOf42 rfl rfl F rfl) H qq0 ?_))))));clear F a;intro a F
 refine eTake (k:=7) (i:=9) rfl (by kernel_rfl) F rfl rfl rfl rfl (fun w H=>rLr underlying42 rfl ?si F rfl (H.range 0 rfl _ 2)) H (fun _ _ _ h=>h) ?_
 case si=>exact info_size sizeOf42
 clear F a;intro a F;refine eOne (k:=8) (i:=3) rfl (by kernel_rfl) F rfl (oCall call65 F rfl rfl (wreg_any x.dst _ (hT.below H.below)) ?_);rintro e w ⟨rfl,hb⟩;replace H:=H.grow hb;clear hb;refine ⟨_,rfl,?_⟩;clear F a;intro a F;refine eKeep H ?_;refine eOne (k:=9) (i:=7) rfl (by kernel_rfl) F rfl (oCall call66 F rfl rfl (wlocB_any locs x.loc hl (H.whole 1 rfl) (locsR hR H 4 rfl)) ?_);rintro e w ⟨rfl,hb⟩;replace H:=H.grow hb;clear hb;refine ⟨_,rfl,?_⟩;clear F a;intro a F;refine eKeep H ?_;refine eOne (k:=10) (i:=10) rfl (by kernel_rfl) F rfl (oCall call107 F rfl rfl (warg_any x.aR x.aN _ (hT.below H.below)) ?_);rintro e w ⟨rfl,hb⟩;replace H:=H.grow hb;clear hb;refine ⟨_,rfl,?_⟩;clear F a;intro a F;refine eKeep H ?_;refine eOne (k:=11) (i:=11) rfl (by kernel_rfl) F rfl (oBs H underlying22 sizeOf9 zeroValue9 rfl F rfl rfl rfl rfl ?_);clear F a H;intro b14 a w F H;refine eKeep H.tail ?_;refine eOne (k:=12) (i:=12) rfl (by kernel_rfl) F rfl (oCall call44 F rfl rfl (wwords1 (v:=v) [mk (regT x.dst),⟨#[61]⟩,⟨#[102,101,116,99,104]⟩,mk (locT locs x.loc),mk (argT x.aR x.aN)] (by simp) hws (H.selT 6 [0,2,3,4,5,1] rfl rfl) ht hv) ?_);rintro e w ⟨rfl,hW⟩
 obtain ⟨A1,C1,tx1,wi1,lg1,H,ht1,hv1⟩:=hW
 refine ⟨_,rfl,?_⟩;clear F a;intro a F;refine ePartO (by kernel_rfl) H ?_;refine eNil (k:=13) (by kernel_rfl) ?_
 first | refine bEnd results111 F ?_ | (simp only [Exit.then,Exit.inBlock,if_true];(repeat (first | rw [if_pos rfl] | rw [if_neg (by decide)]));refine bEnd results111 F ?_)
 exact ⟨rfl,A1,C1,tx1,wi1,lg1,H.selT 5 [0,1,2,3] rfl rfl,ht1,hv1⟩
theorem fmt7_any (x:Ins) (hl:locs.length≤9223372036854775807) (hs:∀ s ∈ locs,s.size≤140737488351232) (hR:Rd W R LA 1 (strC locs)) (hT:TenAt W) (hW:WrF W w0 rs V bp R LA LC locs v) :
   Calls Tryz.prog 112 #[.agg x.cells.toArray,.pointer (some ⟨V,0,none⟩)] w0 fun e w'=>e = .returned (.tuple #[])∧WrF W w' rs V bp R LA LC locs (wordsW v ([regT x.dst,[61],[99,97,115],locT locs x.loc,argT x.aR x.aN,argT x.bR x.bN])):=by
 obtain ⟨A,C,tx,wi,lg,H,ht,hv⟩:=hW
 have q0:=regT_len x.dst
 have q1:=locT_len hs x.loc
 have q2:=argT_len x.aR x.aN
 have q3:=argT_len x.bR x.bN
 have hws:∀ s ∈ ([mk (regT x.dst),⟨#[61]⟩,⟨#[99,97,115]⟩,mk (locT locs x.loc),mk (argT x.aR x.aN),mk (argT x.bR x.bN)]:List ByteArray),s.size≤140737488355328:=by
   intro s h
   simp only [List.mem_cons,List.not_mem_nil,or_false] at h
   rcases h with rfl | rfl | rfl | rfl | rfl | rfl <;> first | (rw [mk_size];omega) | decide
 refine enterF func112 rfl ntmps112 rfl (fun a F=>?_);refine cSR fun K1 hK1=>?_;refine sBx H F rfl rfl rfl ?_;clear F a H;intro b2 a w F H;refine nK hK1 ?_;clear hK1;refine cRegRO (by kernel_rfl) H ?_;replace H:=H.drew;refine eT 0 rfl (by kernel_rfl) F rfl rfl rfl rfl (fun w H=>rLd isAgg94 F rfl (H.cell 3 rfl rfl)) H qq0 (qTF 1 rfl (by kernel_rfl) rfl rfl rfl (fun a F w=>rFa (f:=1) (k:=1) underlying44 rfl sizeOf5 rfl rfl F rfl) H qq0 (qT 2 rfl (by kernel_rfl) rfl rfl rfl rfl (fun a F w H=>rLd isAgg5 F rfl (H.cell 0 rfl rfl)) H qq0 (qT 4 rfl (by kernel_rfl) rfl rfl rfl rfl (fun a F w H=>rLd isAgg94 F rfl (H.cell 3 rfl rfl)) H qq0 (qTF 5 rfl (by kernel_rfl) rfl rfl rfl (fun a F w=>rFa (f:=2) (k:=2) underlying44 rfl sizeOf5 rfl rfl F rfl) H qq0 (qT 6 rfl (by kernel_rfl) rfl rfl rfl rfl (fun a F w H=>rLd isAgg5 F rfl (H.cell 0 rfl rfl)) H qq0 (qTF 8 rfl (by kernel_rfl) rfl rfl rfl (fun a F w=>rFa (f:=3) (k:=3) underlying44 rfl sizeOf42 rfl rfl F rfl) H qq0 ?_))))));clear F a;intro a F
 refine eTake (k:=7) (i:=9) rfl (by kernel_rfl) F rfl rfl rfl rfl (fun w H=>rLr underlying42 rfl ?si F rfl (H.range 0 rfl _ 2)) H (fun _ _ _ h=>h) ?_
 case si=>exact info_size sizeOf42
 clear F a;intro a F;refine eTF 11 rfl (by kernel_rfl) F rfl rfl rfl (fun w=>rFa (f:=4) (k:=5) underlying44 rfl sizeOf42 rfl rfl F rfl) H qq0 ?_;clear F a;intro a F
 refine eTake (k:=9) (i:=12) rfl (by kernel_rfl) F rfl rfl rfl rfl (fun w H=>rLr underlying42 rfl ?si F rfl (H.range 0 rfl _ 2)) H (fun _ _ _ h=>h) ?_
 case si=>exact info_size sizeOf42
 clear F a;intro a F;refine eOne (k:=10) (i:=3) rfl (by kernel_rfl) F rfl (oCall call65 F rfl rfl (wreg_any x.dst _ (hT.below H.below)) ?_);rintro e w ⟨rfl,hb⟩;replace H:=H.grow hb;clear hb;refine ⟨_,rfl,?_⟩;clear F a;intro a F;refine eKeep H ?_;refine eOne (k:=11) (i:=7) rfl (by kernel_rfl) F rfl (oCall call66 F rfl rfl (wlocB_any locs x.loc hl (H.whole 1 rfl) (locsR hR H 4 rfl)) ?_);rintro e w ⟨rfl,hb⟩;replace H:=H.grow hb;clear hb;refine ⟨_,rfl,?_⟩;clear F a;intro a F;refine eKeep H ?_;refine eOne (k:=12) (i:=10) rfl (by kernel_rfl) F rfl (oCall call107 F rfl rfl (warg_any x.aR x.aN _ (hT.below H.below)) ?_);rintro e w ⟨rfl,hb⟩;replace H:=H.grow hb;clear hb;refine ⟨_,rfl,?_⟩;clear F a;intro a F;refine eKeep H ?_;refine eOne (k:=13) (i:=13) rfl (by kernel_rfl) F rfl (oCall call107 F rfl rfl (warg_any x.bR x.bN _ (hT.below H.below)) ?_);rintro e w ⟨rfl,hb⟩;replace H:=H.grow hb;clear hb;refine ⟨_,rfl,?_⟩;clear F a;intro a F;refine eKeep H ?_;refine eOne (k:=14) (i:=14) rfl (by kernel_rfl) F rfl (oBs H underlying22 sizeOf9 zeroValue9 rfl F rfl rfl rfl rfl ?_);clear F a H;intro b17 a w F H;refine eKeep H.tail ?_;refine eOne (k:=15) (i:=15) rfl (by kernel_rfl) F rfl (oCall call44 F rfl rfl (wwords1 (v:=v) [mk (regT x.dst),⟨#[61]⟩,⟨#[99,97,115]⟩,mk (locT locs x.loc),mk (argT x.aR x.aN),mk (argT x.bR x.bN)] (by simp) hws (H.selT 6 [0,2,3,4,5,1] rfl rfl) ht hv) ?_);rintro e w ⟨rfl,hW⟩
 obtain ⟨A1,C1,tx1,wi1,lg1,H,ht1,hv1⟩:=hW
 refine ⟨_,rfl,?_⟩;clear F a;intro a F;refine ePartO (by kernel_rfl) H ?_;refine eNil (k:=16) (by kernel_rfl) ?_
 first | refine bEnd results112 F ?_ | (simp only [Exit.then,Exit.inBlock,if_true];(repeat (first | rw [if_pos rfl] | rw [if_neg (by decide)]));refine bEnd results112 F ?_)
 exact ⟨rfl,A1,C1,tx1,wi1,lg1,H.selT 5 [0,1,2,3] rfl rfl,ht1,hv1⟩
theorem fmt9_any (x:Ins) (hl:locs.length≤9223372036854775807) (hs:∀ s ∈ locs,s.size≤140737488351232) (hR:Rd W R LA 1 (strC locs)) (hT:TenAt W) (hW:WrF W w0 rs V bp R LA LC locs v) :
   Calls Tryz.prog 114 #[.agg x.cells.toArray,.pointer (some ⟨V,0,none⟩)] w0 fun e w'=>e = .returned (.tuple #[])∧WrF W w' rs V bp R LA LC locs (wordsW v ([[115,107,105,112],numT x.skip,[105,102],argT x.aR x.aN,fnT x.fn 4 6,argT x.bR x.bN])):=by
 obtain ⟨A,C,tx,wi,lg,H,ht,hv⟩:=hW
 have q0:=numT_len x.skip
 have q1:=argT_len x.aR x.aN
 have q2:=fnT_len x.fn 4 6
 have q3:=argT_len x.bR x.bN
 have hws:∀ s ∈ ([⟨#[115,107,105,112]⟩,mk (numT x.skip),⟨#[105,102]⟩,mk (argT x.aR x.aN),mk (fnT x.fn 4 6),mk (argT x.bR x.bN)]:List ByteArray),s.size≤140737488355328:=by
   intro s h
   simp only [List.mem_cons,List.not_mem_nil,or_false] at h
   rcases h with rfl | rfl | rfl | rfl | rfl | rfl <;> first | (rw [mk_size];omega) | decide
 refine enterF func114 rfl ntmps114 rfl (fun a F=>?_);refine cSR fun K1 hK1=>?_;refine sBx H F rfl rfl rfl ?_;clear F a H;intro b2 a w F H;refine nK hK1 ?_;clear hK1;refine cRegRO (by kernel_rfl) H ?_;replace H:=H.drew;refine eT 0 rfl (by kernel_rfl) F rfl rfl rfl rfl (fun w H=>rLd isAgg94 F rfl (H.cell 3 rfl rfl)) H qq0 (qTF 1 rfl (by kernel_rfl) rfl rfl rfl (fun a F w=>rFa (f:=7) (k:=9) underlying44 rfl sizeOf5 rfl rfl F rfl) H qq0 (qT 2 rfl (by kernel_rfl) rfl rfl rfl rfl (fun a F w H=>rLd isAgg5 F rfl (H.cell 0 rfl rfl)) H qq0 (qTF 4 rfl (by kernel_rfl) rfl rfl rfl (fun a F w=>rFa (f:=3) (k:=3) underlying44 rfl sizeOf42 rfl rfl F rfl) H qq0 ?_)));clear F a;intro a F
 refine eTake (k:=4) (i:=5) rfl (by kernel_rfl) F rfl rfl rfl rfl (fun w H=>rLr underlying42 rfl ?si F rfl (H.range 0 rfl _ 2)) H (fun _ _ _ h=>h) ?_
 case si=>exact info_size sizeOf42
 clear F a;intro a F;refine eTF 7 rfl (by kernel_rfl) F rfl rfl rfl (fun w=>rFa (f:=5) (k:=7) underlying44 rfl sizeOf5 rfl rfl F rfl) H qq0 (qT 8 rfl (by kernel_rfl) rfl rfl rfl rfl (fun a F w H=>rLd isAgg5 F rfl (H.cell 0 rfl rfl)) H qq0 (qTF 10 rfl (by kernel_rfl) rfl rfl rfl (fun a F w=>rFa (f:=4) (k:=5) underlying44 rfl sizeOf42 rfl rfl F rfl) H qq0 ?_));clear F a;intro a F
 refine eTake (k:=8) (i:=11) rfl (by kernel_rfl) F rfl rfl rfl rfl (fun w H=>rLr underlying42 rfl ?si F rfl (H.range 0 rfl _ 2)) H (fun _ _ _ h=>h) ?_
 case si=>exact info_size sizeOf42
 clear F a;intro a F;refine eOne (k:=9) (i:=3) rfl (by kernel_rfl) F rfl (oCall call46 F rfl rfl (wnum_any x.skip _ (hT.below H.below)) ?_);rintro e w ⟨rfl,hb⟩;replace H:=H.grow hb;clear hb;refine ⟨_,rfl,?_⟩;clear F a;intro a F;refine eKeep H ?_;refine eOne (k:=10) (i:=6) rfl (by kernel_rfl) F rfl (oCall call107 F rfl rfl (warg_any x.aR x.aN _ (hT.below H.below)) ?_);rintro e w ⟨rfl,hb⟩;replace H:=H.grow hb;clear hb;refine ⟨_,rfl,?_⟩;clear F a;intro a F;refine eKeep H ?_;refine eOne (k:=11) (i:=9) rfl (by kernel_rfl) F rfl (oCall call109 F rfl rfl (wsign_any x.fn 4 6 _) ?_);rintro e w ⟨rfl,hb⟩;replace H:=H.grow hb;clear hb;refine ⟨_,rfl,?_⟩;clear F a;intro a F;refine eKeep H ?_;refine eOne (k:=12) (i:=12) rfl (by kernel_rfl) F rfl (oCall call107 F rfl rfl (warg_any x.bR x.bN _ (hT.below H.below)) ?_);rintro e w ⟨rfl,hb⟩;replace H:=H.grow hb;clear hb;refine ⟨_,rfl,?_⟩;clear F a;intro a F;refine eKeep H ?_;refine eOne (k:=13) (i:=13) rfl (by kernel_rfl) F rfl (oBs H underlying22 sizeOf9 zeroValue9 rfl F rfl rfl rfl rfl ?_);clear F a H;intro b16 a w F H;refine eKeep H.tail ?_;refine eOne (k:=14) (i:=14) rfl (by kernel_rfl) F rfl (oCall call44 F rfl rfl (wwords1 (v:=v) [⟨#[115,107,105,112]⟩,mk (numT x.skip),⟨#[105,102]⟩,mk (argT x.aR x.aN),mk (fnT x.fn 4 6),mk (argT x.bR x.bN)] (by simp) hws (H.selT 6 [0,2,3,4,5,1] rfl rfl) ht hv) ?_);rintro e w ⟨rfl,hW⟩
 obtain ⟨A1,C1,tx1,wi1,lg1,H,ht1,hv1⟩:=hW
 refine ⟨_,rfl,?_⟩;clear F a;intro a F;refine ePartO (by kernel_rfl) H ?_;refine eNil (k:=15) (by kernel_rfl) ?_
 first | refine bEnd results114 F ?_ | (simp only [Exit.then,Exit.inBlock,if_true];(repeat (first | rw [if_pos rfl] | rw [if_neg (by decide)]));refine bEnd results114 F ?_)
 exact ⟨rfl,A1,C1,tx1,wi1,lg1,H.selT 5 [0,1,2,3] rfl rfl,ht1,hv1⟩
theorem fmt8_any (x:Ins) (hW:WrF W w0 rs V bp R LA LC locs v) :
   Calls Tryz.prog 113 #[.agg x.cells.toArray,.pointer (some ⟨V,0,none⟩)] w0 fun e w'=>e = .returned (.tuple #[])∧WrF W w' rs V bp R LA LC locs (wordsW v ([102,101,110,99,101] :: (if x.mode=4 then [[108,111,97,100,115]] else modeT x.mode 3 5 [115,116,111,114,101,115]))):=by
 obtain ⟨A,C,tx,wi,lg,H,ht,hv⟩:=hW
 refine enterF func113 rfl ntmps113 rfl (fun a F=>?_);refine cSR fun K1 hK1=>?_;refine sBx H F rfl rfl rfl ?_;clear F a H;intro b2 a w F H;refine nK hK1 (cSR fun K2 hK2=>sLd isAgg94 F rfl rfl rfl (H.cell 3 rfl rfl) ?_);clear hK1;clear F a;intro a F;refine sBs1 H underlying22 sizeOf9 zeroValue9 rfl F rfl rfl rfl rfl ?_;clear F a H;intro b4 a w F H;refine sCall call44 F rfl rfl rfl (wwords1 (v:=v) [⟨#[102,101,110,99,101]⟩] (by simp) (by decide) (H.selT 6 [0,2,3,4,5,1] rfl rfl) ht hv) ?_;rintro e w ⟨rfl,hW⟩
 obtain ⟨A1,C1,tx1,wi1,lg1,H,ht1,hv1⟩:=hW
 refine ⟨_,rfl,?_⟩;clear F a;intro a F;refine nK hK2 ?_;clear hK2;refine cSeq (fun K3 hK3=>?_);refine cSR fun K4 hK4=>sFa (f:=6) (k:=8) underlying44 rfl sizeOf5 rfl rfl F rfl rfl rfl (qLd isAgg5 rfl rfl rfl (H.cell 4 rfl rfl) (qBin rfl rfl rfl rfl (bEqlB (y:=4)) (qNK hK4 ?_)));clear hK4;clear F a;intro a F
 refine cIf F rfl (fun h8=>?_) (fun h8=>?_)
 ·
  replace h8:=beqT h8
  have h4:x.mode=4:=h8
  refine cSR fun K5 hK5=>sLd isAgg94 F rfl rfl rfl (H.cell 2 rfl rfl) ?_;clear F a;intro a F;refine sBs1 H underlying22 sizeOf9 zeroValue9 rfl F rfl rfl rfl rfl ?_;clear F a H;intro b10 a w F H;refine sCall call44 F rfl rfl rfl (wwords1 (v:=wordsW v [[102,101,110,99,101]]) [⟨#[108,111,97,100,115]⟩] (by simp) (by decide) H ht1 hv1) ?_;rintro e w ⟨rfl,hW⟩
  obtain ⟨A2,C2,tx2,wi2,lg2,H,ht2,hv2⟩:=hW
  refine ⟨_,rfl,?_⟩;clear F a;intro a F;refine nK hK5 ?_;clear hK5;refine wp_ret ?_;simp only [Exit.then];refine bEndR results113 F ?_
  first
  | (rw [if_pos h4];exact ⟨rfl,A2,C2,tx2,wi2,lg2,H.selT 5 [0,1,2,3] rfl rfl,ht2,hv2⟩)
  | (rw [if_neg h4];exact ⟨rfl,A2,C2,tx2,wi2,lg2,H.selT 5 [0,1,2,3] rfl rfl,ht2,hv2⟩)
 replace h8:=beqF h8
 have h4:¬ x.mode=4:=h8
 refine wp_skip (hK3 _ _ (cReg (sLd isAgg94 F rfl rfl rfl (H.cell 2 rfl rfl) (qFa (f:=6) (k:=8) underlying44 rfl sizeOf5 rfl rfl rfl rfl rfl (qLd isAgg5 rfl rfl rfl (H.cell 4 rfl rfl) ?_)))));clear hK3;clear F a;intro a F;refine sCall call105 F rfl rfl rfl (wmode_any x.mode 3 5 ⟨#[115,116,111,114,101,115]⟩ (by decide) ⟨A1,C1,tx1,wi1,lg1,H,ht1,hv1⟩) ?_;rintro e w ⟨rfl,hW⟩
 obtain ⟨A2,C2,tx2,wi2,lg2,H,ht2,hv2⟩:=hW
 refine ⟨_,rfl,?_⟩;clear F a;intro a F;refine sNil ?_
 first | refine bEnd results113 F ?_ | (simp only [Exit.then,Exit.inBlock,if_true];(repeat (first | rw [if_pos rfl] | rw [if_neg (by decide)]));refine bEnd results113 F ?_)
 first
 | (rw [if_pos h4];exact ⟨rfl,A2,C2,tx2,wi2,lg2,H.selT 5 [0,1,2,3] rfl rfl,ht2,hv2⟩)
 | (rw [if_neg h4];exact ⟨rfl,A2,C2,tx2,wi2,lg2,H.selT 5 [0,1,2,3] rfl rfl,ht2,hv2⟩)
end
-- VsB
open Go.RowKit
set_option maxRecDepth 100000
section
variable {P:Program} {l:List Oper} {Q:Exit→Act→World→Prop} {N:Nat} {a:Act} {env:List (Nat × Value)} {rest:List Oper} {d:Tmp} {ty:TypeId} {pos:String} {af:Array Edge} {g:Option (Nat × Bool)} {w:World}
theorem sBa {t e:TypeId} {n size:Nat} {parts:List (Nat × Operand)} {ps:List (Nat × Value)} {zs:Array Value} {cs:List Value} (hz:∀ w,(zeroValue t).run P w = .ok (.agg zs) w) (hu:P.underlying t=some (.array n e)) (hs:∀ w,(sizeOf e).run P w = .ok size w)
   (F:Has N a env) (hg:wants l env g=true) (hN:Nat.blt d N=true) (he:evP env parts=some ps) (hf:fillL (fun i=>some (i * size,size)) zs.toList ps=some cs)
   (K:∀ a,Has N a ((d,.agg cs.toArray) :: env)→wpList P l.toArray Q rest a w):wpList P l.toArray Q (⟨some d,.build t parts.toArray,ty,pos,af,g⟩ :: rest) a w:=
 stepV F hg rfl hN (rBa hz hu hs F he hf) K
theorem qBa {t e:TypeId} {n size:Nat} {parts:List (Nat × Operand)} {ps:List (Nat × Value)} {zs:Array Value} {cs:List Value} (hz:∀ w,(zeroValue t).run P w = .ok (.agg zs) w) (hu:P.underlying t=some (.array n e)) (hs:∀ w,(sizeOf e).run P w = .ok size w) (hg:wants l env g=true) (hN:Nat.blt d N=true) (he:evP env parts=some ps) (hf:fillL (fun i=>some (i * size,size)) zs.toList ps=some cs) (K:∀ a,Has N a ((d,.agg cs.toArray) :: env)→wpList P l.toArray Q rest a w):∀ a,Has N a env→wpList P l.toArray Q (⟨some d,.build t parts.toArray,ty,pos,af,g⟩ :: rest) a w:=fun a F=>sBa hz hu hs F hg hN he hf K
end
-- WrF
open Go.RowKit
set_option maxRecDepth 100000
def fmtFns (V:Nat):List Value:=[.func (.func 103) #[] #[.pointer (some ⟨V,0,none⟩)],.func (.func 104) #[] #[.pointer (some ⟨V,0,none⟩)],.func (.func 106) #[] #[.pointer (some ⟨V,0,none⟩)],
 .func (.func 108) #[] #[.pointer (some ⟨V,0,none⟩)],.func (.func 110) #[] #[.pointer (some ⟨V,0,none⟩)],.func (.func 111) #[] #[.pointer (some ⟨V,0,none⟩)],
 .func (.func 112) #[] #[.pointer (some ⟨V,0,none⟩)],.func (.func 113) #[] #[.pointer (some ⟨V,0,none⟩)],.func (.func 114) #[] #[.pointer (some ⟨V,0,none⟩)]]
theorem formats_any {W w0:World} {rs:List Res} {bp:Nat} (H:Own W none w0 rs) :
   Calls Tryz.prog 61 #[.pointer (some ⟨bp,0,none⟩)] w0 fun e w'=>∃ V,e = .returned (.agg (fmtFns V).toArray)∧Own W none w' (.blk V [.pointer (some ⟨bp,0,none⟩)] 94 :: rs):=by
 refine enterF Tryz.func61 rfl Tryz.ntmps61 rfl (fun a F=>?_);refine cSR fun K1 hK1=>?_;refine sBx H F rfl rfl rfl ?_;clear F a H;intro b1 a w F H;refine sAl H Tryz.zeroValue110 F rfl rfl ?_;clear F a H;intro b2 a w F H;refine nK hK1 (cSR fun K2 hK2=>sFn F rfl rfl rfl rfl (qFn rfl rfl rfl rfl (qFn rfl rfl rfl rfl (qFn rfl rfl rfl rfl (qFn rfl rfl rfl rfl (qFn rfl rfl rfl rfl (qFn rfl rfl rfl rfl (qFn rfl rfl rfl rfl (qFn rfl rfl rfl rfl (qBa Tryz.zeroValue110 Tryz.underlying110 Tryz.sizeOf109 rfl rfl rfl rfl ?_))))))))));clear hK1;clear F a;intro a F
 refine sSr H 0 ?si F rfl rfl rfl ?s1 rfl rfl ?_
 case si=>exact info_size Tryz.sizeOf110
 case s1=>first | rfl | (repeat (first | exact one_nil | (apply one_cons;· first | rfl | assumption | exact one_bif rfl rfl)))
 clear H;intro w H;refine nK hK2 ?_;clear hK2;refine wp_ret ?_;refine bRetC Tryz.results61 F rfl Tryz.underlying110 rfl H 0 rfl Tryz.sizeOf110 rfl ?_
 exact ⟨b1,rfl,H.selT 2 [1] rfl rfl⟩
theorem wordW_len (w:WS) (s:List UInt8):w.1.length≤(wordW w s).1.length:=by simp only [wordW,List.length_append];omega
theorem wordsW_len (l:List (List UInt8)):∀ w:WS,w.1.length≤(wordsW w l).1.length:=by
 induction l with
 | nil=>intro w;exact Nat.le_refl _
 | cons s r ih=>intro w;exact Nat.le_trans (wordW_len w s) (ih _)
theorem lineW_len (w:WS):w.1.length≤(lineW w).1.length:=by simp only [lineW,List.length_append];omega
theorem codeW_len (locs:List ByteArray) (l:List Ins):∀ (b:Bool) (w:WS),w.1.length≤(codeW locs b w l).1.length:=by
 induction l with
 | nil=>intro b w;exact Nat.le_refl _
 | cons x r ih=>
   intro b w
   refine Nat.le_trans (Nat.le_trans ?_ (wordsW_len (insT locs x) _)) (ih false _)
   cases b
   · exact lineW_len w
   · exact Nat.le_refl _
section
variable {W w0:World} {rs:List Res} {bp V:Nat} {LA:Option Addr} {LC:Nat} {R:Res} {locs:List ByteArray} {v:WS}
theorem fmt_all (k:Nat) (f:Value) (x:Ins) (hf:(fmtFns V)[k]? = some f) (hx:x.op.toNat=k) (hl:locs.length≤9223372036854775807) (hs:∀ s ∈ locs,s.size≤140737488351232) (hR:Rd W R LA 1 (strC locs)) (hT:TenAt W) (hW:WrF W w0 rs V bp R LA LC locs v) :
   CallsF Tryz.prog f [.agg x.cells.toArray] w0 fun e w'=>e = .returned (.tuple #[])∧WrF W w' rs V bp R LA LC locs (wordsW v (insT locs x)):=by
 have hop:∀ n:UInt8,n.toNat=k→x.op=n:=fun n hn=>UInt8.toNat_inj.1 (hx.trans hn.symm)
 match k,hf with
 | 0,hf=>cases hf;rw [show insT locs x=[[63]] from by unfold insT;simp [hop 0 rfl]];exact ⟨_,[],[.pointer (some ⟨V,0,none⟩)],rfl,Tryz.call103,fmt1_any x hW⟩
 | 1,hf=>cases hf;rw [show insT locs x=[regT x.dst,[61],locT locs x.loc]++modeT x.mode 0 1 [97,99,113] from by unfold insT;simp [hop 1 rfl]];exact ⟨_,[],[.pointer (some ⟨V,0,none⟩)],rfl,Tryz.call104,fmt2_any x hl hs hR hT hW⟩
 | 2,hf=>cases hf;rw [show insT locs x=[locT locs x.loc,[61],argT x.aR x.aN]++modeT x.mode 0 2 [114,101,108] from by unfold insT;simp [hop 2 rfl]];exact ⟨_,[],[.pointer (some ⟨V,0,none⟩)],rfl,Tryz.call106,fmt3_any x hl hs hR hT hW⟩
 | 3,hf=>cases hf;rw [show insT locs x=[regT x.dst,[61],argT x.aR x.aN,fnT x.fn 1 3,argT x.bR x.bN] from by unfold insT;simp [hop 3 rfl]];exact ⟨_,[],[.pointer (some ⟨V,0,none⟩)],rfl,Tryz.call108,fmt4_any x hl hs hR hT hW⟩
 | 4,hf=>cases hf;rw [show insT locs x=[regT x.dst,[61],[115,119,97,112],locT locs x.loc,argT x.aR x.aN] from by unfold insT;simp [hop 4 rfl]];exact ⟨_,[],[.pointer (some ⟨V,0,none⟩)],rfl,Tryz.call110,fmt5_any x hl hs hR hT hW⟩
 | 5,hf=>cases hf;rw [show insT locs x=[regT x.dst,[61],[102,101,116,99,104],locT locs x.loc,argT x.aR x.aN] from by unfold insT;simp [hop 5 rfl]];exact ⟨_,[],[.pointer (some ⟨V,0,none⟩)],rfl,Tryz.call111,fmt6_any x hl hs hR hT hW⟩
 | 6,hf=>cases hf;rw [show insT locs x=[regT x.dst,[61],[99,97,115],locT locs x.loc,argT x.aR x.aN,argT x.bR x.bN] from by unfold insT;simp [hop 6 rfl]];exact ⟨_,[],[.pointer (some ⟨V,0,none⟩)],rfl,Tryz.call112,fmt7_any x hl hs hR hT hW⟩
 | 7,hf=>cases hf;rw [show insT locs x=[102,101,110,99,101] :: (if x.mode=4 then [[108,111,97,100,115]] else modeT x.mode 3 5 [115,116,111,114,101,115]) from by unfold insT;simp [hop 7 rfl]];exact ⟨_,[],[.pointer (some ⟨V,0,none⟩)],rfl,Tryz.call113,fmt8_any x hW⟩
 | 8,hf=>cases hf;rw [show insT locs x=[[115,107,105,112],numT x.skip,[105,102],argT x.aR x.aN,fnT x.fn 4 6,argT x.bR x.bN] from by unfold insT;simp [hop 8 rfl]];exact ⟨_,[],[.pointer (some ⟨V,0,none⟩)],rfl,Tryz.call114,fmt9_any x hl hs hR hT hW⟩
 | n+9,hf=>simp [fmtFns] at hf
end
end Go.Proofs.YtkchaoajegkadaaGreatDoor
