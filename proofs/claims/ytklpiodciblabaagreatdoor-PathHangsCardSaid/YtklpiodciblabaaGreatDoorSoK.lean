/-
  WALK2. slices.Sort at bytes. Conditions: the slice is the caller's own, or empty.
-/
import Derived.Test.YtklpiodciblabaaGreatDoorSoJ
set_option linter.unusedSimpArgs false
set_option linter.unusedVariables false
namespace Go.Proofs.YtklpiodciblabaaGreatDoor
open Go.RowKit
set_option maxRecDepth 100000
theorem insSort0_any (A : Option Addr) (c : Nat) (w0 : World) : Calls Tryz.prog 111 #[.slice A 0 c, .int .i64 0, .int .i64 0] w0 fun e w' => e = .returned (.tuple #[]) ∧ Below w0.heap.size w0 w' := by
  have H := Own.start w0 none
  refine enterF Tryz.func111 rfl Tryz.ntmps111 rfl (fun a F => ?_);refine cSR fun K1 hK1=>sMv F rfl rfl rfl ?_;clear F a;intro a F
  refine sBin F rfl rfl rfl rfl (bAddI ?_) ?_
  focus omega
  clear F a; intro a F;refine sAs F rfl rfl rfl (qNK hK1 ?_);clear hK1;clear F a;intro a F;refine wp_block ?_
  refine cLoopR [0, 1, 2] (fun m ups w => m = 0 ∧ ups = [(6, .int .i64 1)] ∧ Own w0 none w []) F (0) [(6, .int .i64 1)] (by repeat (first | exact SubR.nil | (apply SubR.cons; · rfl))) ?_ ?_ ?_
  · exact ⟨rfl, rfl, H⟩
  · repeat (first | exact trivial | refine Le.cons rfl ?_)
  clear F
  clear H
  intro m ups a w hI F
  obtain ⟨rfl, rfl, H⟩ := hI
  refine cSeq (fun K2 hK2 => ?_);refine cSR fun K3 hK3=>sMv F rfl rfl rfl (qMv rfl rfl rfl (qBin rfl rfl rfl rfl bLss (qNK hK3 ?_)));clear hK3;clear F a;intro a F
  refine cIf F rfl (fun h12 => ?_) (fun h12 => ?_)
  ·
   replace h12 := of_decide_eq_true h12
   omega
  replace h12 := of_decide_eq_false h12;refine wp_exit ?_
  first | refine bEnd Tryz.results111 F ?_ | (simp only [Exit.then, Exit.inBlock, if_true]; (repeat (first | rw [if_pos rfl] | rw [if_neg (by decide)])); refine bEnd Tryz.results111 F ?_)
  exact ⟨rfl, H.below⟩
theorem pdq0_any (A : Option Addr) (c : Nat) (v : Int) (w0 : World) : Calls Tryz.prog 86 #[.slice A 0 c, .int .i64 0, .int .i64 0, .int .i64 v] w0 fun e w' => e = .returned (.tuple #[]) ∧ Below w0.heap.size w0 w' := by
  have H := Own.start w0 none
  refine enterF Tryz.func86 rfl Tryz.ntmps86 rfl (fun a F => ?_);refine cSR fun K1 hK1=>sAs F rfl rfl rfl (qNK hK1 (qSR fun K2 hK2=>qAs rfl rfl rfl (qNK hK2 ?_)));clear hK1 hK2;clear F a;intro a F;refine wp_block ?_
  refine cLoopR [0] (fun m ups w => m = 0 ∧ ups = [(1, .int .i64 0), (2, .int .i64 0), (3, .int .i64 v), (8, .bool true), (9, .bool true)] ∧ Own w0 none w []) F (0) [(1, .int .i64 0), (2, .int .i64 0), (3, .int .i64 v), (8, .bool true), (9, .bool true)] (by repeat (first | exact SubR.nil | (apply SubR.cons; · rfl))) ?_ ?_ ?_
  · exact ⟨rfl, rfl, H⟩
  · repeat (first | exact trivial | refine Le.cons rfl ?_)
  clear F
  clear H
  intro m ups a w hI F
  obtain ⟨rfl, rfl, H⟩ := hI
  refine wp_block ?_;refine cSR fun K3 hK3=>sMv F rfl rfl rfl (qMv rfl rfl rfl ?_);clear F a;intro a F
  refine sBin F rfl rfl rfl rfl (bSubI ?_) ?_
  focus omega
  clear F a; intro a F;refine sAs F rfl rfl rfl (qNK hK3 ?_);clear hK3;clear F a;intro a F;refine cSeq (fun K4 hK4 => ?_);refine cSR fun K5 hK5=>sMv F rfl rfl rfl (qBin rfl rfl rfl rfl bLeq (qNK hK5 ?_));clear hK5;clear F a;intro a F
  refine cIf F rfl (fun h23 => ?_) (fun h23 => ?_)
  ·
   replace h23 := of_decide_eq_true h23;refine cSR fun K6 hK6=>sMv F rfl rfl rfl (qMv rfl rfl rfl (qMv rfl rfl rfl ?_));clear F a;intro a F;refine sCall Tryz.call111 F rfl rfl rfl (insSort0_any A c _) ?_;rintro e w ⟨rfl, hb⟩;replace H := H.grow hb; clear hb;refine ⟨_, rfl, ?_⟩;clear F a; intro a F;refine nK hK6 ?_;clear hK6;refine wp_ret ?_;simp only [Exit.inBlock, Exit.then];refine bEndR Tryz.results86 F ?_
   exact ⟨rfl, H.below⟩
  replace h23 := of_decide_eq_false h23
  omega
theorem sort0_any (A : Option Addr) (c : Nat) (w0 : World) : Calls Tryz.prog 45 #[.slice A 0 c] w0 fun e w' => e = .returned (.tuple #[]) ∧ Below w0.heap.size w0 w' := by
  have H := Own.start w0 none
  refine enterF Tryz.func45 rfl Tryz.ntmps45 rfl (fun a F => ?_);refine cSR fun K1 hK1=>sMv F rfl rfl rfl (qLen Tryz.underlying23 rfl rfl rfl (qAs rfl rfl rfl (qNK hK1 (qReg (qMv rfl rfl rfl (qMv rfl rfl rfl (qMv rfl rfl rfl (qCv Tryz.underlying3 Tryz.underlying137 rfl rfl rfl (wrapU (by omega)) ?_))))))));clear hK1;clear F a;intro a F;refine sCall Tryz.call87 F rfl rfl rfl (lenW_any 0 _ (by omega)) ?_;rintro e w ⟨r, rfl, _, _, hb⟩;replace H := H.grow hb; clear hb;refine ⟨_, rfl, ?_⟩;clear F a; intro a F;refine sCall Tryz.call86 F rfl rfl rfl (pdq0_any A c _ _) ?_;rintro e w ⟨rfl, hb⟩;replace H := H.grow hb; clear hb;refine ⟨_, rfl, ?_⟩;clear F a; intro a F;refine sNil ?_
  first | refine bEnd Tryz.results45 F ?_ | (simp only [Exit.then, Exit.inBlock, if_true]; (repeat (first | rw [if_pos rfl] | rw [if_neg (by decide)])); refine bEnd Tryz.results45 F ?_)
  exact ⟨rfl, H.below⟩
theorem sortB_any (g n c : Nat) (d : By) (W : World) (row : Option Nat) (rs : List Res) (w0 : World) (H : Own W row w0 (.byt g n c d :: rs)) (hn : n ≤ 1000000) :
    Calls Tryz.prog 45 #[.slice (some ⟨g, 0, none⟩) n c] w0 fun e w' => e = .returned (.tuple #[]) ∧ ∃ d', Sm 0 n d d' ∧ Srt 0 n d' ∧ Own W row w' (.byt g n c d' :: rs) := by
  refine enterF Tryz.func45 rfl Tryz.ntmps45 rfl (fun a F => ?_);refine cSR fun K1 hK1=>sMv F rfl rfl rfl (qLen Tryz.underlying23 rfl rfl rfl (qAs rfl rfl rfl (qNK hK1 (qReg (qMv rfl rfl rfl (qMv rfl rfl rfl (qMv rfl rfl rfl (qCv Tryz.underlying3 Tryz.underlying137 rfl rfl rfl (wrapU (by omega)) ?_))))))));clear hK1;clear F a;intro a F;refine sCall Tryz.call87 F rfl rfl rfl (lenW_any n _ (by omega)) ?_;rintro e w ⟨r, rfl, _, hr, hb⟩;replace H := H.grow hb; clear hb;refine ⟨_, rfl, ?_⟩;clear F a; intro a F;refine sCall Tryz.call86 F rfl rfl rfl (pdq_any g n c hn W row rs n 0 n r d _ (by omega) H (Nat.le_refl _) (Nat.zero_le _) (by omega) (.inl rfl)) ?_;rintro e w ⟨rfl, e9, hs9, hr9, H2⟩
  replace H := H2; clear H2
  refine ⟨_, rfl, ?_⟩;clear F a; intro a F;refine sNil ?_
  first | refine bEnd Tryz.results45 F ?_ | (simp only [Exit.then, Exit.inBlock, if_true]; (repeat (first | rw [if_pos rfl] | rw [if_neg (by decide)])); refine bEnd Tryz.results45 F ?_)
  exact ⟨rfl, e9, hs9, hr9, H⟩
end Go.Proofs.YtklpiodciblabaaGreatDoor
