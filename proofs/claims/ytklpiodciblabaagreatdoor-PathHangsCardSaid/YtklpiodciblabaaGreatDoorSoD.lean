/-
  WALK2. slices.Sort at bytes: heapSort. Conditions: the slice is the caller's own.
-/
import Derived.Test.YtklpiodciblabaaGreatDoorSoC
set_option linter.unusedSimpArgs false
set_option linter.unusedVariables false
namespace Go.Proofs.YtklpiodciblabaaGreatDoor
open Go.RowKit
set_option maxRecDepth 100000
theorem Hs.pre {f hi i : Nat} {d : By} (h : Hs f hi (i + 1) d) : Hp f (0 + 1) i (swp d f (f + i)) := fun k c h1 h2 h3 => by
  unfold swp
  rw [if_neg (by omega), if_neg (by omega), if_neg (by omega), if_neg (by omega)]
  exact h.heap k c (Nat.zero_le _) h2 (by omega)
set_option maxHeartbeats 2000000 in
theorem heap_any (g n c : Nat) (d : By) (lo up : Nat) (W : World) (row : Option Nat) (rs : List Res) (w0 : World) (H : Own W row w0 (.byt g n c d :: rs)) (hb : up ≤ n) (hn : n ≤ 1000000) (hlo : lo < up) :
    Calls Tryz.prog 112 #[.slice (some ⟨g, 0, none⟩) n c, .int .i64 (lo : Int), .int .i64 (up : Int)] w0 fun e w' => e = .returned (.tuple #[]) ∧ ∃ d', Sm lo up d d' ∧ Srt lo up d' ∧ Own W row w' (.byt g n c d' :: rs) := by
  obtain ⟨hi, rfl⟩ : ∃ hi, up = lo + hi := ⟨up - lo, by omega⟩
  refine enterF Tryz.func112 rfl Tryz.ntmps112 rfl (fun a F => ?_);refine cSR fun K1 hK1=>sMv F rfl rfl rfl (qAs rfl rfl rfl (qNK hK1 (qSR fun K2 hK2=>qAs rfl rfl rfl (qNK hK2 (qSR fun K3 hK3=>qMv rfl rfl rfl (qMv rfl rfl rfl ?_))))));clear hK1 hK2;clear F a;intro a F
  refine sBin F rfl rfl rfl rfl (bSubN ?_ ?_) ?_
  focus omega
  focus omega
  clear F a; intro a F;refine sAs F rfl rfl rfl (qNK hK3 ?_);clear hK3;clear F a;intro a F;refine cSeq (fun K4 hK4 => ?_);refine cSR fun K5 hK5=>sMv F rfl rfl rfl ?_;clear F a;intro a F
  refine sBin F rfl rfl rfl rfl (bSubN (j := 1) ?_ ?_) ?_
  focus omega
  focus omega
  clear F a; intro a F
  refine sBin F rfl rfl rfl rfl (bQuoN (j := 2) ?_ ?_) ?_
  focus omega
  focus first | omega | decide
  clear F a; intro a F;refine sAs F rfl rfl rfl (qNK hK5 ?_);clear hK5;clear F a;intro a F;refine wp_block ?_;rw [show lo + hi - lo = hi by omega, show (((hi - 1) / 2 : Nat) : Int) = (((hi - 1) / 2 + 1 : Nat) : Int) - 1 by omega] at F
  refine cLoopR [0, 6, 7, 8] (fun m ups w => ∃ (k : Nat) (e : By), m = k + 1 ∧ ups = [(9, .int .i64 (((k : Nat) : Int) - 1))] ∧ k ≤ hi ∧ Hp lo k hi e ∧ Sm lo (lo + hi) d e ∧ Own W row w (.byt g n c e :: rs)) F ((hi - 1) / 2 + 1 + 1) [(9, .int .i64 ((((hi - 1) / 2 + 1 : Nat) : Int) - 1))] (by repeat (first | exact SubR.nil | (apply SubR.cons; · rfl))) ?_ ?_ ?_
  · exact ⟨(hi - 1) / 2 + 1, d, rfl, rfl, by omega, Hp.none _ (by omega), Sm.refl _ _ _, H⟩
  · repeat (first | exact trivial | refine Le.cons rfl ?_)
  clear F
  clear H
  intro m ups a w hI F
  obtain ⟨k, e, rfl, rfl, hkh, hhp, hsm, H⟩ := hI
  refine cSeq (fun K6 hK6 => ?_);refine cSR fun K7 hK7=>sMv F rfl rfl rfl (qBin rfl rfl rfl rfl bGeq (qNK hK7 ?_));clear hK7;clear F a;intro a F
  refine cIf F rfl (fun h19 => ?_) (fun h19 => ?_)
  ·
   replace h19 := of_decide_eq_true h19
   obtain ⟨i, rfl⟩ : ∃ i, k = i + 1 := ⟨k - 1, by omega⟩
   rw [show (((i + 1 : Nat) : Int) - 1) = ((i : Nat) : Int) by omega] at F;refine wp_skip (hK6 _ _ ?_);clear hK6;refine cSeq (fun K8 hK8 => ?_);refine wp_block ?_;refine cReg (sMv F rfl rfl rfl (qMv rfl rfl rfl (qMv rfl rfl rfl (qMv rfl rfl rfl ?_))));clear F a;intro a F;refine sCall Tryz.call127 F rfl rfl rfl (sift_any g n c e i hi lo W row rs _ H (by omega) hn (by omega) hhp) ?_;rintro e w ⟨rfl, e', hs', hp', H2⟩
   replace H := H2; clear H2
   refine ⟨_, rfl, ?_⟩;clear F a; intro a F;refine nK hK8 (cReg (sMv F rfl rfl rfl ?_));clear hK8;clear F a;intro a F
   refine sBin F rfl rfl rfl rfl (bSubI ?_) ?_
   focus omega
   clear F a; intro a F;refine sAs F rfl rfl rfl ?_;clear F a;intro a F;refine sNil ?_
   exact ⟨_, by omega, _, ⟨i, e', rfl, rfl, by omega, hp', hsm.trans (hs'.mono (by omega) (Nat.le_refl _)), H⟩, F.to (by repeat (first | exact trivial | refine Le.cons rfl ?_))⟩
  replace h19 := of_decide_eq_false h19
  obtain rfl : k = 0 := by omega
  refine wp_exit ?_;refine hK4 _ _ (cSR fun K9 hK9=>sMv F rfl rfl rfl ?_);clear hK4;clear F a;intro a F
  refine sBin F rfl rfl rfl rfl (bSubN (j := 1) ?_ ?_) ?_
  focus omega
  focus omega
  clear F a; intro a F;refine sAs F rfl rfl rfl (qNK hK9 ?_);clear hK9;clear F a;intro a F;refine wp_block ?_;rw [show ((hi - 1 : Nat) : Int) = ((hi : Nat) : Int) - 1 by omega] at F
  refine cLoopR [0, 6, 7] (fun m ups w => ∃ (k : Nat) (e : By), m = k + 1 ∧ ups = [(10, .int .i64 (((k : Nat) : Int) - 1))] ∧ Hs lo hi k e ∧ Sm lo (lo + hi) d e ∧ Own W row w (.byt g n c e :: rs)) F (hi + 1) [(10, .int .i64 (((hi : Nat) : Int) - 1))] (by repeat (first | exact SubR.nil | (apply SubR.cons; · rfl))) ?_ ?_ ?_
  · exact ⟨hi, e, rfl, rfl, Hs.start hhp, hsm, H⟩
  · repeat (first | exact trivial | refine Le.cons rfl ?_)
  clear F
  clear H
  intro m ups a w hI F
  obtain ⟨k, e2, rfl, rfl, hhs, hsm2, H⟩ := hI
  refine cSeq (fun K10 hK10 => ?_);refine cSR fun K11 hK11=>sMv F rfl rfl rfl (qBin rfl rfl rfl rfl bGeq (qNK hK11 ?_));clear hK11;clear F a;intro a F
  refine cIf F rfl (fun h30 => ?_) (fun h30 => ?_)
  ·
   replace h30 := of_decide_eq_true h30
   obtain ⟨i, rfl⟩ : ∃ i, k = i + 1 := ⟨k - 1, by omega⟩
   have hle := hhs.le
   rw [show (((i + 1 : Nat) : Int) - 1) = ((i : Nat) : Int) by omega] at F;refine wp_skip (hK10 _ _ ?_);clear hK10;refine cSeq (fun K12 hK12 => ?_);refine wp_block ?_;refine cSeq (fun K13 hK13 => ?_);refine cRegRO (by kernel_rfl) H ?_;replace H := H.drew;refine eTF 0 rfl (by kernel_rfl) F rfl rfl rfl (fun w=>rMv F rfl) H qq0 (qTF 1 rfl (by kernel_rfl) rfl rfl rfl (fun a F w=>rMv F rfl) H qq0 (qTF 2 rfl (by kernel_rfl) rfl rfl rfl (fun a F w=>rMv F rfl) H qq0 (qTF 3 rfl (by kernel_rfl) rfl rfl rfl (fun a F w=>rMv F rfl) H qq0 (qTF 4 rfl (by kernel_rfl) rfl rfl rfl (fun a F w=>rMv F rfl) H qq0 ?_))));clear F a;intro a F
   refine eTakeF (k := 5) (i := 5) rfl (by kernel_rfl) F rfl rfl rfl (fun w => rBin F rfl rfl (bAddN ?_)) H (fun _ _ _ h => h) ?_
   focus omega
   clear F a; intro a F;refine eTF 6 rfl (by kernel_rfl) F rfl rfl rfl (fun w=>rMv F rfl) H qq0 (qTF 7 rfl (by kernel_rfl) rfl rfl rfl (fun a F w=>rMv F rfl) H qq0 (qTF 8 rfl (by kernel_rfl) rfl rfl rfl (fun a F w=>rMv F rfl) H qq0 ?_));clear F a;intro a F
   refine eTakeF (k := 9) (i := 9) rfl (by kernel_rfl) F rfl rfl rfl (fun w => rBin F rfl rfl (bAddN ?_)) H (fun _ _ _ h => h) ?_
   focus omega
   clear F a; intro a F
   refine eTakeF (k := 10) (i := 10) rfl (by kernel_rfl) F rfl rfl rfl (fun w => rIx Tryz.underlying23 Tryz.sizeOf5 F rfl rfl ?_) H (fun _ _ _ h => h) ?_
   focus (first | omega | decide | (simp; omega))
   clear F a; intro a F;refine eT 11 rfl (by kernel_rfl) F rfl rfl rfl rfl (fun w H=>rLd Tryz.isAgg5 F rfl (H.bytCell 0 rfl (by omega))) H qq0 (qTF 12 rfl (by kernel_rfl) rfl rfl rfl (fun a F w=>rMv F rfl) H qq0 (qTF 13 rfl (by kernel_rfl) rfl rfl rfl (fun a F w=>rMv F rfl) H qq0 ?_));clear F a;intro a F
   refine eTakeF (k := 14) (i := 14) rfl (by kernel_rfl) F rfl rfl rfl (fun w => rIx Tryz.underlying23 Tryz.sizeOf5 F rfl rfl ?_) H (fun _ _ _ h => h) ?_
   focus (first | omega | decide | (simp; omega))
   clear F a; intro a F;refine eT 15 rfl (by kernel_rfl) F rfl rfl rfl rfl (fun w H=>rLd Tryz.isAgg5 F rfl (H.bytCell 0 rfl (by omega))) H qq0 ?_;clear F a;intro a F
   refine eTakeF (k := 16) (i := 16) rfl (by kernel_rfl) F rfl rfl rfl (fun w => rIx Tryz.underlying23 Tryz.sizeOf5 F rfl rfl ?_) H (fun _ _ _ h => h) ?_
   focus (first | omega | decide | (simp; omega))
   clear F a; intro a F;refine eOne (k := 17) (i := 17) rfl (by kernel_rfl) F rfl (oStY H 0 Tryz.sizeOf5 F rfl rfl rfl (by omega) ?_);clear H; intro w H;refine ePartO (by kernel_rfl) H ?_
   refine eTakeF (k := 18) (i := 18) rfl (by kernel_rfl) F rfl rfl rfl (fun w => rIx Tryz.underlying23 Tryz.sizeOf5 F rfl rfl ?_) H (fun _ _ _ h => h) ?_
   focus (first | omega | decide | (simp; omega))
   clear F a; intro a F;refine eOne (k := 19) (i := 19) rfl (by kernel_rfl) F rfl (oStY H 0 Tryz.sizeOf5 F rfl rfl rfl (by omega) ?_);clear H; intro w H;refine ePartO (by kernel_rfl) H ?_;refine eNil (k := 20) (by kernel_rfl) ?_;refine hK13 _ _ (cReg (sMv F rfl rfl rfl (qMv rfl rfl rfl (qMv rfl rfl rfl (qMv rfl rfl rfl ?_)))));clear hK13;clear F a;intro a F;refine sCall Tryz.call127 F rfl rfl rfl ((by have := sift_any g n c _ 0 i lo W row rs _ (swp_now H) (by omega) hn (by omega) hhs.pre; exact this)) ?_;rintro e w ⟨rfl, e', hs', hp', H2⟩
   replace H := H2; clear H2
   refine ⟨_, rfl, ?_⟩;clear F a; intro a F;refine nK hK12 (cReg (sMv F rfl rfl rfl ?_));clear hK12;clear F a;intro a F
   refine sBin F rfl rfl rfl rfl (bSubI ?_) ?_
   focus omega
   clear F a; intro a F;refine sAs F rfl rfl rfl ?_;clear F a;intro a F;refine sNil ?_
   exact ⟨_, by omega, _, ⟨i, e', rfl, rfl, hhs.step hs' hp', hsm2.trans ((Sm.swap e2 (by omega) (by omega) (by omega) (by omega)).trans (hs'.mono (by omega) (by omega))), H⟩, F.to (by repeat (first | exact trivial | refine Le.cons rfl ?_))⟩
  replace h30 := of_decide_eq_false h30;refine wp_exit ?_
  first | refine bEnd Tryz.results112 F ?_ | (simp only [Exit.then, Exit.inBlock, if_true]; (repeat (first | rw [if_pos rfl] | rw [if_neg (by decide)])); refine bEnd Tryz.results112 F ?_)
  obtain rfl : k = 0 := by omega
  exact ⟨rfl, e2, hsm2, hhs.done, H⟩
end Go.Proofs.YtklpiodciblabaaGreatDoor
