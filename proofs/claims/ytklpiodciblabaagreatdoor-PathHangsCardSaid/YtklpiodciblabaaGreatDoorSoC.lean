/-
  WALK2. slices.Sort at bytes: siftDown, heapSort. Conditions: the slice is the caller's own.
-/
import Derived.Test.YtklpiodciblabaaGreatDoorSo1
set_option linter.unusedSimpArgs false
set_option linter.unusedVariables false
namespace Go.Proofs.YtklpiodciblabaaGreatDoor
open Go.Proofs.Tryz
open Go.RowKit
set_option maxRecDepth 100000
set_option maxHeartbeats 2000000 in
theorem sift_any (g n c : Nat) (d : By) (lo hi f : Nat) (W : World) (row : Option Nat) (rs : List Res) (w0 : World) (H : Own W row w0 (.byt g n c d :: rs)) (hb : f + hi ≤ n) (hn : n ≤ 1000000) (hlo : lo ≤ hi) (hp : Hp f (lo + 1) hi d) :
    Calls Tryz.prog 127 #[.slice (some ⟨g, 0, none⟩) n c, .int .i64 (lo : Int), .int .i64 (hi : Int), .int .i64 (f : Int)] w0 fun e w' => e = .returned (.tuple #[]) ∧ ∃ d', Sm (f + lo) (f + hi) d d' ∧ Hp f lo hi d' ∧ Own W row w' (.byt g n c d' :: rs) := by
  refine enterF func127 rfl ntmps127 rfl (fun a F => ?_);refine cSR fun K1 hK1=>sMv F rfl rfl rfl (qAs rfl rfl rfl (qNK hK1 ?_));clear hK1;clear F a;intro a F;refine wp_block ?_
  refine cLoopR [0, 2, 3] (fun m ups w => ∃ (r : Nat) (e : By), m = hi - r + 1 ∧ ups = [(8, .int .i64 ((r : Nat) : Int))] ∧ lo ≤ r ∧ r ≤ hi ∧ Hq f lo hi r e ∧ Sm (f + lo) (f + hi) d e ∧ Own W row w (.byt g n c e :: rs)) F (hi - lo + 1) [(8, .int .i64 ((lo : Nat) : Int))] (by repeat (first | exact SubR.nil | (apply SubR.cons; · rfl))) ?_ ?_ ?_
  · exact ⟨lo, d, rfl, rfl, Nat.le_refl _, hlo, Hq.start hp, Sm.refl _ _ _, H⟩
  · repeat (first | exact trivial | refine Le.cons rfl ?_)
  clear F
  clear H
  intro m ups a w hI F
  obtain ⟨r, e, rfl, rfl, hlr, hrh, hq, hsm, H⟩ := hI
  refine wp_block ?_;refine cSR fun K2 hK2=>sMv F rfl rfl rfl ?_;clear F a;intro a F
  refine sBin F rfl rfl rfl rfl (bMulT (i := 2) ?_) ?_
  focus omega
  clear F a; intro a F
  refine sBin F rfl rfl rfl rfl (bAddN (j := 1) ?_) ?_
  focus omega
  clear F a; intro a F;refine sAs F rfl rfl rfl (qNK hK2 ?_);clear hK2;clear F a;intro a F;refine cSeq (fun K3 hK3 => ?_);refine cSR fun K4 hK4=>sMv F rfl rfl rfl (qMv rfl rfl rfl (qBin rfl rfl rfl rfl bGeq (qNK hK4 ?_)));clear hK4;clear F a;intro a F
  refine cIf F rfl (fun h16 => ?_) (fun h16 => ?_)
  ·
   replace h16 := of_decide_eq_true h16;refine wp_exit ?_
   first | refine bEnd results127 F ?_ | (simp only [Exit.then, Exit.inBlock, if_true]; (repeat (first | rw [if_pos rfl] | rw [if_neg (by decide)])); refine bEnd results127 F ?_)
   first
   | exact ⟨rfl, e, hsm, hq.done (fun c hc hch' => by omega), H⟩
   | (have h35' := of_decide_eq_true h36
      have hl' : ¬ (e (f + r)).toNat < (e (f + (2 * r + 1 + 1))).toNat := by simpa using h52
      exact ⟨rfl, e, hsm, hq.done (fun c hc hch' => by
        rcases hc with hc | hc
        · rw [hc]
          rw [show f + (2 * r + 1 + 1) = f + (2 * r + 1) + 1 by omega] at hl'; omega
        · rw [hc, show 2 * r + 2 = 2 * r + 1 + 1 by omega]; omega), H⟩)
   | (have hl' : ¬ (e (f + r)).toNat < (e (f + (2 * r + 1))).toNat := by simpa using h52
      exact ⟨rfl, e, hsm, hq.done (fun c hc hch' => by
        rcases hc with hc | hc
        · rw [hc]; omega
        · first
          | (have h36' := of_decide_eq_false h36
             rw [hc, show f + (2 * r + 2) = f + (2 * r + 1) + 1 by omega]; omega)
          | omega), H⟩)
  replace h16 := of_decide_eq_false h16
  have hch : 2 * r + 1 < hi := by omega
  refine wp_skip (hK3 _ _ ?_);clear hK3;refine cSeq (fun K5 hK5 => ?_);refine cSeq (fun K6 hK6 => ?_);refine cRegRO (by kernel_rfl) H ?_;replace H := H.drew;refine eTF 0 rfl (by kernel_rfl) F rfl rfl rfl (fun w=>rMv F rfl) H qq0 ?_;clear F a;intro a F
  refine eTakeF (k := 1) (i := 1) rfl (by kernel_rfl) F rfl rfl rfl (fun w => rBin F rfl rfl (bAddN (j := 1) ?_)) H (fun _ _ _ h => h) ?_
  focus omega
  clear F a; intro a F;refine eTF 2 rfl (by kernel_rfl) F rfl rfl rfl (fun w=>rMv F rfl) H qq0 (qTF 3 rfl (by kernel_rfl) rfl rfl rfl (fun a F w=>rBin F rfl rfl bLss) H qq0 (qTF 4 rfl (by kernel_rfl) rfl rfl rfl (fun a F w=>rMv F rfl) H qq0 ?_));clear F a;intro a F
  refine F.split 21 rfl ?_ ?_ <;> (clear F; intro h21 F)
  ·
   replace h21 := of_decide_eq_true h21
   have hc2 : 2 * r + 1 + 1 < hi := by omega
   refine eTF 5 rfl (by kernel_rfl) F rfl rfl rfl (fun w=>rMv F rfl) H qq0 (qTF 6 rfl (by kernel_rfl) rfl rfl rfl (fun a F w=>rMv F rfl) H qq0 (qTF 7 rfl (by kernel_rfl) rfl rfl rfl (fun a F w=>rMv F rfl) H qq0 ?_));clear F a;intro a F
   refine eTakeF (k := 8) (i := 8) rfl (by kernel_rfl) F rfl rfl rfl (fun w => rBin F rfl rfl (bAddN ?_)) H (fun _ _ _ h => h) ?_
   focus omega
   clear F a; intro a F
   refine eTakeF (k := 9) (i := 9) rfl (by kernel_rfl) F rfl rfl rfl (fun w => rIx underlying23 sizeOf5 F rfl rfl ?_) H (fun _ _ _ h => h) ?_
   focus (first | omega | decide | (simp; omega))
   clear F a; intro a F;refine eT 10 rfl (by kernel_rfl) F rfl rfl rfl rfl (fun w H=>rLd isAgg5 F rfl (H.bytCell 0 rfl (by omega))) H qq0 (qTF 11 rfl (by kernel_rfl) rfl rfl rfl (fun a F w=>rMv F rfl) H qq0 (qTF 12 rfl (by kernel_rfl) rfl rfl rfl (fun a F w=>rMv F rfl) H qq0 (qTF 13 rfl (by kernel_rfl) rfl rfl rfl (fun a F w=>rMv F rfl) H qq0 ?_)));clear F a;intro a F
   refine eTakeF (k := 14) (i := 14) rfl (by kernel_rfl) F rfl rfl rfl (fun w => rBin F rfl rfl (bAddN ?_)) H (fun _ _ _ h => h) ?_
   focus omega
   clear F a; intro a F
   refine eTakeF (k := 15) (i := 15) rfl (by kernel_rfl) F rfl rfl rfl (fun w => rBin F rfl rfl (bAddN (j := 1) ?_)) H (fun _ _ _ h => h) ?_
   focus omega
   clear F a; intro a F
   refine eTakeF (k := 16) (i := 16) rfl (by kernel_rfl) F rfl rfl rfl (fun w => rIx underlying23 sizeOf5 F rfl rfl ?_) H (fun _ _ _ h => h) ?_
   focus (first | omega | decide | (simp; omega))
   clear F a; intro a F;refine eT 17 rfl (by kernel_rfl) F rfl rfl rfl rfl (fun w H=>rLd isAgg5 F rfl (H.bytCell 0 rfl (by omega))) H qq0 ?_;clear F a;intro a F;refine eOne (k := 18) (i := 18) rfl (by kernel_rfl) F rfl (oCall call117 F rfl rfl (less_any (e (f + (2 * r + 1))) (e (f + (2 * r + 1) + 1)) _) ?_);rintro e w ⟨rfl, hb⟩;replace H := H.grow hb; clear hb;refine ⟨_, rfl, ?_⟩;clear F a; intro a F;refine ePartO (by kernel_rfl) H ?_;refine eTF 19 rfl (by kernel_rfl) F rfl rfl rfl (fun w=>rPk F rfl rfl) H qq0 ?_;clear F a;intro a F;refine eNil (k := 20) (by kernel_rfl) ?_;refine hK6 _ _ ?_;clear hK6
   refine cIf F rfl (fun h36 => ?_) (fun h36 => ?_)
   ·
    refine cReg (sMv F rfl rfl rfl ?_);clear F a;intro a F
    refine sBin F rfl rfl rfl rfl (bAddN (j := 1) ?_) ?_
    focus omega
    clear F a; intro a F;refine sAs F rfl rfl rfl (qNK hK5 ?_);clear hK5;clear F a;intro a F;refine cSeq (fun K7 hK7 => ?_);refine cSeq (fun K8 hK8 => ?_);refine cRegRO (by kernel_rfl) H ?_;replace H := H.drew;refine eTF 0 rfl (by kernel_rfl) F rfl rfl rfl (fun w=>rMv F rfl) H qq0 (qTF 1 rfl (by kernel_rfl) rfl rfl rfl (fun a F w=>rMv F rfl) H qq0 (qTF 2 rfl (by kernel_rfl) rfl rfl rfl (fun a F w=>rMv F rfl) H qq0 ?_));clear F a;intro a F
    refine eTakeF (k := 3) (i := 3) rfl (by kernel_rfl) F rfl rfl rfl (fun w => rBin F rfl rfl (bAddN ?_)) H (fun _ _ _ h => h) ?_
    focus omega
    clear F a; intro a F
    refine eTakeF (k := 4) (i := 4) rfl (by kernel_rfl) F rfl rfl rfl (fun w => rIx underlying23 sizeOf5 F rfl rfl ?_) H (fun _ _ _ h => h) ?_
    focus (first | omega | decide | (simp; omega))
    clear F a; intro a F;refine eT 5 rfl (by kernel_rfl) F rfl rfl rfl rfl (fun w H=>rLd isAgg5 F rfl (H.bytCell 0 rfl (by omega))) H qq0 (qTF 6 rfl (by kernel_rfl) rfl rfl rfl (fun a F w=>rMv F rfl) H qq0 (qTF 7 rfl (by kernel_rfl) rfl rfl rfl (fun a F w=>rMv F rfl) H qq0 (qTF 8 rfl (by kernel_rfl) rfl rfl rfl (fun a F w=>rMv F rfl) H qq0 ?_)));clear F a;intro a F
    refine eTakeF (k := 9) (i := 9) rfl (by kernel_rfl) F rfl rfl rfl (fun w => rBin F rfl rfl (bAddN ?_)) H (fun _ _ _ h => h) ?_
    focus omega
    clear F a; intro a F
    refine eTakeF (k := 10) (i := 10) rfl (by kernel_rfl) F rfl rfl rfl (fun w => rIx underlying23 sizeOf5 F rfl rfl ?_) H (fun _ _ _ h => h) ?_
    focus (first | omega | decide | (simp; omega))
    clear F a; intro a F;refine eT 11 rfl (by kernel_rfl) F rfl rfl rfl rfl (fun w H=>rLd isAgg5 F rfl (H.bytCell 0 rfl (by omega))) H qq0 ?_;clear F a;intro a F;refine eOne (k := 12) (i := 12) rfl (by kernel_rfl) F rfl (oCall call117 F rfl rfl (less_any _ _ _) ?_);rintro e w ⟨rfl, hb⟩;replace H := H.grow hb; clear hb;refine ⟨_, rfl, ?_⟩;clear F a; intro a F;refine ePartO (by kernel_rfl) H ?_;refine eTF 13 rfl (by kernel_rfl) F rfl rfl rfl (fun w=>rNot F rfl) H qq0 ?_;clear F a;intro a F;refine eNil (k := 14) (by kernel_rfl) ?_;refine hK8 _ _ ?_;clear hK8
    refine cIf F rfl (fun h52 => ?_) (fun h52 => ?_)
    ·
     replace h52 := notT h52;refine wp_ret ?_;simp only [Exit.inBlock, Exit.then];refine bEndR results127 F ?_
     first
     | exact ⟨rfl, e, hsm, hq.done (fun c hc hch' => by omega), H⟩
     | (have h35' := of_decide_eq_true h36
        have hl' : ¬ (e (f + r)).toNat < (e (f + (2 * r + 1 + 1))).toNat := by simpa using h52
        exact ⟨rfl, e, hsm, hq.done (fun c hc hch' => by
          rcases hc with hc | hc
          · rw [hc]
            rw [show f + (2 * r + 1 + 1) = f + (2 * r + 1) + 1 by omega] at hl'; omega
          · rw [hc, show 2 * r + 2 = 2 * r + 1 + 1 by omega]; omega), H⟩)
     | (have hl' : ¬ (e (f + r)).toNat < (e (f + (2 * r + 1))).toNat := by simpa using h52
        exact ⟨rfl, e, hsm, hq.done (fun c hc hch' => by
          rcases hc with hc | hc
          · rw [hc]; omega
          · first
            | (have h36' := of_decide_eq_false h36
               rw [hc, show f + (2 * r + 2) = f + (2 * r + 1) + 1 by omega]; omega)
            | omega), H⟩)
    replace h52 := notF h52;refine wp_skip (hK7 _ _ ?_);clear hK7;refine cSeq (fun K9 hK9 => ?_);refine cRegRO (by kernel_rfl) H ?_;replace H := H.drew;refine eTF 0 rfl (by kernel_rfl) F rfl rfl rfl (fun w=>rMv F rfl) H qq0 (qTF 1 rfl (by kernel_rfl) rfl rfl rfl (fun a F w=>rMv F rfl) H qq0 (qTF 2 rfl (by kernel_rfl) rfl rfl rfl (fun a F w=>rMv F rfl) H qq0 ?_));clear F a;intro a F
    refine eTakeF (k := 3) (i := 3) rfl (by kernel_rfl) F rfl rfl rfl (fun w => rBin F rfl rfl (bAddN ?_)) H (fun _ _ _ h => h) ?_
    focus omega
    clear F a; intro a F;refine eTF 4 rfl (by kernel_rfl) F rfl rfl rfl (fun w=>rMv F rfl) H qq0 (qTF 5 rfl (by kernel_rfl) rfl rfl rfl (fun a F w=>rMv F rfl) H qq0 (qTF 6 rfl (by kernel_rfl) rfl rfl rfl (fun a F w=>rMv F rfl) H qq0 ?_));clear F a;intro a F
    refine eTakeF (k := 7) (i := 7) rfl (by kernel_rfl) F rfl rfl rfl (fun w => rBin F rfl rfl (bAddN ?_)) H (fun _ _ _ h => h) ?_
    focus omega
    clear F a; intro a F;refine eTF 8 rfl (by kernel_rfl) F rfl rfl rfl (fun w=>rMv F rfl) H qq0 (qTF 9 rfl (by kernel_rfl) rfl rfl rfl (fun a F w=>rMv F rfl) H qq0 (qTF 10 rfl (by kernel_rfl) rfl rfl rfl (fun a F w=>rMv F rfl) H qq0 ?_));clear F a;intro a F
    refine eTakeF (k := 11) (i := 11) rfl (by kernel_rfl) F rfl rfl rfl (fun w => rBin F rfl rfl (bAddN ?_)) H (fun _ _ _ h => h) ?_
    focus omega
    clear F a; intro a F
    refine eTakeF (k := 12) (i := 12) rfl (by kernel_rfl) F rfl rfl rfl (fun w => rIx underlying23 sizeOf5 F rfl rfl ?_) H (fun _ _ _ h => h) ?_
    focus (first | omega | decide | (simp; omega))
    clear F a; intro a F;refine eT 13 rfl (by kernel_rfl) F rfl rfl rfl rfl (fun w H=>rLd isAgg5 F rfl (H.bytCell 0 rfl (by omega))) H qq0 (qTF 14 rfl (by kernel_rfl) rfl rfl rfl (fun a F w=>rMv F rfl) H qq0 (qTF 15 rfl (by kernel_rfl) rfl rfl rfl (fun a F w=>rMv F rfl) H qq0 (qTF 16 rfl (by kernel_rfl) rfl rfl rfl (fun a F w=>rMv F rfl) H qq0 ?_)));clear F a;intro a F
    refine eTakeF (k := 17) (i := 17) rfl (by kernel_rfl) F rfl rfl rfl (fun w => rBin F rfl rfl (bAddN ?_)) H (fun _ _ _ h => h) ?_
    focus omega
    clear F a; intro a F
    refine eTakeF (k := 18) (i := 18) rfl (by kernel_rfl) F rfl rfl rfl (fun w => rIx underlying23 sizeOf5 F rfl rfl ?_) H (fun _ _ _ h => h) ?_
    focus (first | omega | decide | (simp; omega))
    clear F a; intro a F;refine eT 19 rfl (by kernel_rfl) F rfl rfl rfl rfl (fun w H=>rLd isAgg5 F rfl (H.bytCell 0 rfl (by omega))) H qq0 ?_;clear F a;intro a F
    refine eTakeF (k := 20) (i := 20) rfl (by kernel_rfl) F rfl rfl rfl (fun w => rIx underlying23 sizeOf5 F rfl rfl ?_) H (fun _ _ _ h => h) ?_
    focus (first | omega | decide | (simp; omega))
    clear F a; intro a F;refine eOne (k := 21) (i := 21) rfl (by kernel_rfl) F rfl (oStY H 0 sizeOf5 F rfl rfl rfl (by omega) ?_);clear H; intro w H;refine ePartO (by kernel_rfl) H ?_
    refine eTakeF (k := 22) (i := 22) rfl (by kernel_rfl) F rfl rfl rfl (fun w => rIx underlying23 sizeOf5 F rfl rfl ?_) H (fun _ _ _ h => h) ?_
    focus (first | omega | decide | (simp; omega))
    clear F a; intro a F;refine eOne (k := 23) (i := 23) rfl (by kernel_rfl) F rfl (oStY H 0 sizeOf5 F rfl rfl rfl (by omega) ?_);clear H; intro w H;refine ePartO (by kernel_rfl) H ?_;refine eNil (k := 24) (by kernel_rfl) ?_;refine hK9 _ _ (cReg (sMv F rfl rfl rfl (qAs rfl rfl rfl ?_)));clear hK9;clear F a;intro a F;refine sNil ?_
    have hl := h52
    first
    | (have h35' := of_decide_eq_true h36
       have hl' : (e (f + r)).toNat < (e (f + (2 * r + 1 + 1))).toNat := by simpa using hl
       have hst := hq.step (ch := 2 * r + 1 + 1) hlr (.inr rfl) hc2 hl' (fun c hc hch' => by
         rcases hc with hc | hc
         · rw [hc, show f + (2 * r + 1 + 1) = f + (2 * r + 1) + 1 by omega]; omega
         · rw [hc]; exact Nat.le_refl _)
       exact ⟨_, by omega, _, ⟨2 * r + 1 + 1, _, rfl, rfl, by omega, by omega, hst, hsm.trans (Sm.swap e (by omega) (by omega) (by omega) (by omega)), swp_now H⟩, F.to (by repeat (first | exact trivial | refine Le.cons rfl ?_))⟩)
    | (have hl' : (e (f + r)).toNat < (e (f + (2 * r + 1))).toNat := by simpa using hl
       have hst := hq.step (ch := 2 * r + 1) hlr (.inl rfl) hch hl' (fun c hc hch' => by
         rcases hc with hc | hc
         · rw [hc]; exact Nat.le_refl _
         · first
           | (have h36' := of_decide_eq_false h36
              rw [hc, show f + (2 * r + 2) = f + (2 * r + 1) + 1 by omega]; omega)
           | omega)
       exact ⟨_, by omega, _, ⟨2 * r + 1, _, rfl, rfl, by omega, by omega, hst, hsm.trans (Sm.swap e (by omega) (by omega) (by omega) (by omega)), swp_now H⟩, F.to (by repeat (first | exact trivial | refine Le.cons rfl ?_))⟩)
   refine wp_skip (hK5 _ _ ?_);clear hK5;refine cSeq (fun K10 hK10 => ?_);refine cSeq (fun K11 hK11 => ?_);refine cRegRO (by kernel_rfl) H ?_;replace H := H.drew;refine eTF 0 rfl (by kernel_rfl) F rfl rfl rfl (fun w=>rMv F rfl) H qq0 (qTF 1 rfl (by kernel_rfl) rfl rfl rfl (fun a F w=>rMv F rfl) H qq0 (qTF 2 rfl (by kernel_rfl) rfl rfl rfl (fun a F w=>rMv F rfl) H qq0 ?_));clear F a;intro a F
   refine eTakeF (k := 3) (i := 3) rfl (by kernel_rfl) F rfl rfl rfl (fun w => rBin F rfl rfl (bAddN ?_)) H (fun _ _ _ h => h) ?_
   focus omega
   clear F a; intro a F
   refine eTakeF (k := 4) (i := 4) rfl (by kernel_rfl) F rfl rfl rfl (fun w => rIx underlying23 sizeOf5 F rfl rfl ?_) H (fun _ _ _ h => h) ?_
   focus (first | omega | decide | (simp; omega))
   clear F a; intro a F;refine eT 5 rfl (by kernel_rfl) F rfl rfl rfl rfl (fun w H=>rLd isAgg5 F rfl (H.bytCell 0 rfl (by omega))) H qq0 (qTF 6 rfl (by kernel_rfl) rfl rfl rfl (fun a F w=>rMv F rfl) H qq0 (qTF 7 rfl (by kernel_rfl) rfl rfl rfl (fun a F w=>rMv F rfl) H qq0 (qTF 8 rfl (by kernel_rfl) rfl rfl rfl (fun a F w=>rMv F rfl) H qq0 ?_)));clear F a;intro a F
   refine eTakeF (k := 9) (i := 9) rfl (by kernel_rfl) F rfl rfl rfl (fun w => rBin F rfl rfl (bAddN ?_)) H (fun _ _ _ h => h) ?_
   focus omega
   clear F a; intro a F
   refine eTakeF (k := 10) (i := 10) rfl (by kernel_rfl) F rfl rfl rfl (fun w => rIx underlying23 sizeOf5 F rfl rfl ?_) H (fun _ _ _ h => h) ?_
   focus (first | omega | decide | (simp; omega))
   clear F a; intro a F;refine eT 11 rfl (by kernel_rfl) F rfl rfl rfl rfl (fun w H=>rLd isAgg5 F rfl (H.bytCell 0 rfl (by omega))) H qq0 ?_;clear F a;intro a F;refine eOne (k := 12) (i := 12) rfl (by kernel_rfl) F rfl (oCall call117 F rfl rfl (less_any _ _ _) ?_);rintro e w ⟨rfl, hb⟩;replace H := H.grow hb; clear hb;refine ⟨_, rfl, ?_⟩;clear F a; intro a F;refine ePartO (by kernel_rfl) H ?_;refine eTF 13 rfl (by kernel_rfl) F rfl rfl rfl (fun w=>rNot F rfl) H qq0 ?_;clear F a;intro a F;refine eNil (k := 14) (by kernel_rfl) ?_;refine hK11 _ _ ?_;clear hK11
   refine cIf F rfl (fun h52 => ?_) (fun h52 => ?_)
   ·
    replace h52 := notT h52;refine wp_ret ?_;simp only [Exit.inBlock, Exit.then];refine bEndR results127 F ?_
    first
    | exact ⟨rfl, e, hsm, hq.done (fun c hc hch' => by omega), H⟩
    | (have h35' := of_decide_eq_true h36
       have hl' : ¬ (e (f + r)).toNat < (e (f + (2 * r + 1 + 1))).toNat := by simpa using h52
       exact ⟨rfl, e, hsm, hq.done (fun c hc hch' => by
         rcases hc with hc | hc
         · rw [hc]
           rw [show f + (2 * r + 1 + 1) = f + (2 * r + 1) + 1 by omega] at hl'; omega
         · rw [hc, show 2 * r + 2 = 2 * r + 1 + 1 by omega]; omega), H⟩)
    | (have hl' : ¬ (e (f + r)).toNat < (e (f + (2 * r + 1))).toNat := by simpa using h52
       exact ⟨rfl, e, hsm, hq.done (fun c hc hch' => by
         rcases hc with hc | hc
         · rw [hc]; omega
         · first
           | (have h36' := of_decide_eq_false h36
              rw [hc, show f + (2 * r + 2) = f + (2 * r + 1) + 1 by omega]; omega)
           | omega), H⟩)
   replace h52 := notF h52;refine wp_skip (hK10 _ _ ?_);clear hK10;refine cSeq (fun K12 hK12 => ?_);refine cRegRO (by kernel_rfl) H ?_;replace H := H.drew;refine eTF 0 rfl (by kernel_rfl) F rfl rfl rfl (fun w=>rMv F rfl) H qq0 (qTF 1 rfl (by kernel_rfl) rfl rfl rfl (fun a F w=>rMv F rfl) H qq0 (qTF 2 rfl (by kernel_rfl) rfl rfl rfl (fun a F w=>rMv F rfl) H qq0 ?_));clear F a;intro a F
   refine eTakeF (k := 3) (i := 3) rfl (by kernel_rfl) F rfl rfl rfl (fun w => rBin F rfl rfl (bAddN ?_)) H (fun _ _ _ h => h) ?_
   focus omega
   clear F a; intro a F;refine eTF 4 rfl (by kernel_rfl) F rfl rfl rfl (fun w=>rMv F rfl) H qq0 (qTF 5 rfl (by kernel_rfl) rfl rfl rfl (fun a F w=>rMv F rfl) H qq0 (qTF 6 rfl (by kernel_rfl) rfl rfl rfl (fun a F w=>rMv F rfl) H qq0 ?_));clear F a;intro a F
   refine eTakeF (k := 7) (i := 7) rfl (by kernel_rfl) F rfl rfl rfl (fun w => rBin F rfl rfl (bAddN ?_)) H (fun _ _ _ h => h) ?_
   focus omega
   clear F a; intro a F;refine eTF 8 rfl (by kernel_rfl) F rfl rfl rfl (fun w=>rMv F rfl) H qq0 (qTF 9 rfl (by kernel_rfl) rfl rfl rfl (fun a F w=>rMv F rfl) H qq0 (qTF 10 rfl (by kernel_rfl) rfl rfl rfl (fun a F w=>rMv F rfl) H qq0 ?_));clear F a;intro a F
   refine eTakeF (k := 11) (i := 11) rfl (by kernel_rfl) F rfl rfl rfl (fun w => rBin F rfl rfl (bAddN ?_)) H (fun _ _ _ h => h) ?_
   focus omega
   clear F a; intro a F
   refine eTakeF (k := 12) (i := 12) rfl (by kernel_rfl) F rfl rfl rfl (fun w => rIx underlying23 sizeOf5 F rfl rfl ?_) H (fun _ _ _ h => h) ?_
   focus (first | omega | decide | (simp; omega))
   clear F a; intro a F;refine eT 13 rfl (by kernel_rfl) F rfl rfl rfl rfl (fun w H=>rLd isAgg5 F rfl (H.bytCell 0 rfl (by omega))) H qq0 (qTF 14 rfl (by kernel_rfl) rfl rfl rfl (fun a F w=>rMv F rfl) H qq0 (qTF 15 rfl (by kernel_rfl) rfl rfl rfl (fun a F w=>rMv F rfl) H qq0 (qTF 16 rfl (by kernel_rfl) rfl rfl rfl (fun a F w=>rMv F rfl) H qq0 ?_)));clear F a;intro a F
   refine eTakeF (k := 17) (i := 17) rfl (by kernel_rfl) F rfl rfl rfl (fun w => rBin F rfl rfl (bAddN ?_)) H (fun _ _ _ h => h) ?_
   focus omega
   clear F a; intro a F
   refine eTakeF (k := 18) (i := 18) rfl (by kernel_rfl) F rfl rfl rfl (fun w => rIx underlying23 sizeOf5 F rfl rfl ?_) H (fun _ _ _ h => h) ?_
   focus (first | omega | decide | (simp; omega))
   clear F a; intro a F;refine eT 19 rfl (by kernel_rfl) F rfl rfl rfl rfl (fun w H=>rLd isAgg5 F rfl (H.bytCell 0 rfl (by omega))) H qq0 ?_;clear F a;intro a F
   refine eTakeF (k := 20) (i := 20) rfl (by kernel_rfl) F rfl rfl rfl (fun w => rIx underlying23 sizeOf5 F rfl rfl ?_) H (fun _ _ _ h => h) ?_
   focus (first | omega | decide | (simp; omega))
   clear F a; intro a F;refine eOne (k := 21) (i := 21) rfl (by kernel_rfl) F rfl (oStY H 0 sizeOf5 F rfl rfl rfl (by omega) ?_);clear H; intro w H;refine ePartO (by kernel_rfl) H ?_
   refine eTakeF (k := 22) (i := 22) rfl (by kernel_rfl) F rfl rfl rfl (fun w => rIx underlying23 sizeOf5 F rfl rfl ?_) H (fun _ _ _ h => h) ?_
   focus (first | omega | decide | (simp; omega))
   clear F a; intro a F;refine eOne (k := 23) (i := 23) rfl (by kernel_rfl) F rfl (oStY H 0 sizeOf5 F rfl rfl rfl (by omega) ?_);clear H; intro w H;refine ePartO (by kernel_rfl) H ?_;refine eNil (k := 24) (by kernel_rfl) ?_;refine hK12 _ _ (cReg (sMv F rfl rfl rfl (qAs rfl rfl rfl ?_)));clear hK12;clear F a;intro a F;refine sNil ?_
   have hl := h52
   first
   | (have h35' := of_decide_eq_true h36
      have hl' : (e (f + r)).toNat < (e (f + (2 * r + 1 + 1))).toNat := by simpa using hl
      have hst := hq.step (ch := 2 * r + 1 + 1) hlr (.inr rfl) hc2 hl' (fun c hc hch' => by
        rcases hc with hc | hc
        · rw [hc, show f + (2 * r + 1 + 1) = f + (2 * r + 1) + 1 by omega]; omega
        · rw [hc]; exact Nat.le_refl _)
      exact ⟨_, by omega, _, ⟨2 * r + 1 + 1, _, rfl, rfl, by omega, by omega, hst, hsm.trans (Sm.swap e (by omega) (by omega) (by omega) (by omega)), swp_now H⟩, F.to (by repeat (first | exact trivial | refine Le.cons rfl ?_))⟩)
   | (have hl' : (e (f + r)).toNat < (e (f + (2 * r + 1))).toNat := by simpa using hl
      have hst := hq.step (ch := 2 * r + 1) hlr (.inl rfl) hch hl' (fun c hc hch' => by
        rcases hc with hc | hc
        · rw [hc]; exact Nat.le_refl _
        · first
          | (have h36' := of_decide_eq_false h36
             rw [hc, show f + (2 * r + 2) = f + (2 * r + 1) + 1 by omega]; omega)
          | omega)
      exact ⟨_, by omega, _, ⟨2 * r + 1, _, rfl, rfl, by omega, by omega, hst, hsm.trans (Sm.swap e (by omega) (by omega) (by omega) (by omega)), swp_now H⟩, F.to (by repeat (first | exact trivial | refine Le.cons rfl ?_))⟩)
  replace h21 := of_decide_eq_false h21;refine eSF 5 rfl (by kernel_rfl) F rfl rfl rfl H qq0 (qSF 6 rfl (by kernel_rfl) rfl rfl rfl H qq0 (qSF 7 rfl (by kernel_rfl) rfl rfl rfl H qq0 (qSF 8 rfl (by kernel_rfl) rfl rfl rfl H qq0 (qSF 9 rfl (by kernel_rfl) rfl rfl rfl H qq0 (qSF 10 rfl (by kernel_rfl) rfl rfl rfl H qq0 (qSF 11 rfl (by kernel_rfl) rfl rfl rfl H qq0 (qSF 12 rfl (by kernel_rfl) rfl rfl rfl H qq0 (qSF 13 rfl (by kernel_rfl) rfl rfl rfl H qq0 (qSF 14 rfl (by kernel_rfl) rfl rfl rfl H qq0 (qSF 15 rfl (by kernel_rfl) rfl rfl rfl H qq0 (qSF 16 rfl (by kernel_rfl) rfl rfl rfl H qq0 (qSF 17 rfl (by kernel_rfl) rfl rfl rfl H qq0 (qSF 18 rfl (by kernel_rfl) rfl rfl rfl H qq0 (qTF 19 rfl (by kernel_rfl) rfl rfl rfl (fun a F w=>rPk F rfl rfl) H qq0 ?_))))))))))))));clear F a;intro a F;refine eNil (k := 20) (by kernel_rfl) ?_;refine hK6 _ _ ?_;clear hK6;refine cIfF F rfl ?_;refine wp_skip (hK5 _ _ ?_);clear hK5;refine cSeq (fun K13 hK13 => ?_);refine cSeq (fun K14 hK14 => ?_);refine cRegRO (by kernel_rfl) H ?_;replace H := H.drew;refine eTF 0 rfl (by kernel_rfl) F rfl rfl rfl (fun w=>rMv F rfl) H qq0 (qTF 1 rfl (by kernel_rfl) rfl rfl rfl (fun a F w=>rMv F rfl) H qq0 (qTF 2 rfl (by kernel_rfl) rfl rfl rfl (fun a F w=>rMv F rfl) H qq0 ?_));clear F a;intro a F
  refine eTakeF (k := 3) (i := 3) rfl (by kernel_rfl) F rfl rfl rfl (fun w => rBin F rfl rfl (bAddN ?_)) H (fun _ _ _ h => h) ?_
  focus omega
  clear F a; intro a F
  refine eTakeF (k := 4) (i := 4) rfl (by kernel_rfl) F rfl rfl rfl (fun w => rIx underlying23 sizeOf5 F rfl rfl ?_) H (fun _ _ _ h => h) ?_
  focus (first | omega | decide | (simp; omega))
  clear F a; intro a F;refine eT 5 rfl (by kernel_rfl) F rfl rfl rfl rfl (fun w H=>rLd isAgg5 F rfl (H.bytCell 0 rfl (by omega))) H qq0 (qTF 6 rfl (by kernel_rfl) rfl rfl rfl (fun a F w=>rMv F rfl) H qq0 (qTF 7 rfl (by kernel_rfl) rfl rfl rfl (fun a F w=>rMv F rfl) H qq0 (qTF 8 rfl (by kernel_rfl) rfl rfl rfl (fun a F w=>rMv F rfl) H qq0 ?_)));clear F a;intro a F
  refine eTakeF (k := 9) (i := 9) rfl (by kernel_rfl) F rfl rfl rfl (fun w => rBin F rfl rfl (bAddN ?_)) H (fun _ _ _ h => h) ?_
  focus omega
  clear F a; intro a F
  refine eTakeF (k := 10) (i := 10) rfl (by kernel_rfl) F rfl rfl rfl (fun w => rIx underlying23 sizeOf5 F rfl rfl ?_) H (fun _ _ _ h => h) ?_
  focus (first | omega | decide | (simp; omega))
  clear F a; intro a F;refine eT 11 rfl (by kernel_rfl) F rfl rfl rfl rfl (fun w H=>rLd isAgg5 F rfl (H.bytCell 0 rfl (by omega))) H qq0 ?_;clear F a;intro a F;refine eOne (k := 12) (i := 12) rfl (by kernel_rfl) F rfl (oCall call117 F rfl rfl (less_any _ _ _) ?_);rintro e w ⟨rfl, hb⟩;replace H := H.grow hb; clear hb;refine ⟨_, rfl, ?_⟩;clear F a; intro a F;refine ePartO (by kernel_rfl) H ?_;refine eTF 13 rfl (by kernel_rfl) F rfl rfl rfl (fun w=>rNot F rfl) H qq0 ?_;clear F a;intro a F;refine eNil (k := 14) (by kernel_rfl) ?_;refine hK14 _ _ ?_;clear hK14
  refine cIf F rfl (fun h52 => ?_) (fun h52 => ?_)
  ·
   replace h52 := notT h52;refine wp_ret ?_;simp only [Exit.inBlock, Exit.then];refine bEndR results127 F ?_
   first
   | exact ⟨rfl, e, hsm, hq.done (fun c hc hch' => by omega), H⟩
   | (have h35' := of_decide_eq_true h36
      have hl' : ¬ (e (f + r)).toNat < (e (f + (2 * r + 1 + 1))).toNat := by simpa using h52
      exact ⟨rfl, e, hsm, hq.done (fun c hc hch' => by
        rcases hc with hc | hc
        · rw [hc]
          rw [show f + (2 * r + 1 + 1) = f + (2 * r + 1) + 1 by omega] at hl'; omega
        · rw [hc, show 2 * r + 2 = 2 * r + 1 + 1 by omega]; omega), H⟩)
   | (have hl' : ¬ (e (f + r)).toNat < (e (f + (2 * r + 1))).toNat := by simpa using h52
      exact ⟨rfl, e, hsm, hq.done (fun c hc hch' => by
        rcases hc with hc | hc
        · rw [hc]; omega
        · first
          | (have h36' := of_decide_eq_false h36
             rw [hc, show f + (2 * r + 2) = f + (2 * r + 1) + 1 by omega]; omega)
          | omega), H⟩)
  replace h52 := notF h52;refine wp_skip (hK13 _ _ ?_);clear hK13;refine cSeq (fun K15 hK15 => ?_);refine cRegRO (by kernel_rfl) H ?_;replace H := H.drew;refine eTF 0 rfl (by kernel_rfl) F rfl rfl rfl (fun w=>rMv F rfl) H qq0 (qTF 1 rfl (by kernel_rfl) rfl rfl rfl (fun a F w=>rMv F rfl) H qq0 (qTF 2 rfl (by kernel_rfl) rfl rfl rfl (fun a F w=>rMv F rfl) H qq0 ?_));clear F a;intro a F
  refine eTakeF (k := 3) (i := 3) rfl (by kernel_rfl) F rfl rfl rfl (fun w => rBin F rfl rfl (bAddN ?_)) H (fun _ _ _ h => h) ?_
  focus omega
  clear F a; intro a F;refine eTF 4 rfl (by kernel_rfl) F rfl rfl rfl (fun w=>rMv F rfl) H qq0 (qTF 5 rfl (by kernel_rfl) rfl rfl rfl (fun a F w=>rMv F rfl) H qq0 (qTF 6 rfl (by kernel_rfl) rfl rfl rfl (fun a F w=>rMv F rfl) H qq0 ?_));clear F a;intro a F
  refine eTakeF (k := 7) (i := 7) rfl (by kernel_rfl) F rfl rfl rfl (fun w => rBin F rfl rfl (bAddN ?_)) H (fun _ _ _ h => h) ?_
  focus omega
  clear F a; intro a F;refine eTF 8 rfl (by kernel_rfl) F rfl rfl rfl (fun w=>rMv F rfl) H qq0 (qTF 9 rfl (by kernel_rfl) rfl rfl rfl (fun a F w=>rMv F rfl) H qq0 (qTF 10 rfl (by kernel_rfl) rfl rfl rfl (fun a F w=>rMv F rfl) H qq0 ?_));clear F a;intro a F
  refine eTakeF (k := 11) (i := 11) rfl (by kernel_rfl) F rfl rfl rfl (fun w => rBin F rfl rfl (bAddN ?_)) H (fun _ _ _ h => h) ?_
  focus omega
  clear F a; intro a F
  refine eTakeF (k := 12) (i := 12) rfl (by kernel_rfl) F rfl rfl rfl (fun w => rIx underlying23 sizeOf5 F rfl rfl ?_) H (fun _ _ _ h => h) ?_
  focus (first | omega | decide | (simp; omega))
  clear F a; intro a F;refine eT 13 rfl (by kernel_rfl) F rfl rfl rfl rfl (fun w H=>rLd isAgg5 F rfl (H.bytCell 0 rfl (by omega))) H qq0 (qTF 14 rfl (by kernel_rfl) rfl rfl rfl (fun a F w=>rMv F rfl) H qq0 (qTF 15 rfl (by kernel_rfl) rfl rfl rfl (fun a F w=>rMv F rfl) H qq0 (qTF 16 rfl (by kernel_rfl) rfl rfl rfl (fun a F w=>rMv F rfl) H qq0 ?_)));clear F a;intro a F
  refine eTakeF (k := 17) (i := 17) rfl (by kernel_rfl) F rfl rfl rfl (fun w => rBin F rfl rfl (bAddN ?_)) H (fun _ _ _ h => h) ?_
  focus omega
  clear F a; intro a F
  refine eTakeF (k := 18) (i := 18) rfl (by kernel_rfl) F rfl rfl rfl (fun w => rIx underlying23 sizeOf5 F rfl rfl ?_) H (fun _ _ _ h => h) ?_
  focus (first | omega | decide | (simp; omega))
  clear F a; intro a F;refine eT 19 rfl (by kernel_rfl) F rfl rfl rfl rfl (fun w H=>rLd isAgg5 F rfl (H.bytCell 0 rfl (by omega))) H qq0 ?_;clear F a;intro a F
  refine eTakeF (k := 20) (i := 20) rfl (by kernel_rfl) F rfl rfl rfl (fun w => rIx underlying23 sizeOf5 F rfl rfl ?_) H (fun _ _ _ h => h) ?_
  focus (first | omega | decide | (simp; omega))
  clear F a; intro a F;refine eOne (k := 21) (i := 21) rfl (by kernel_rfl) F rfl (oStY H 0 sizeOf5 F rfl rfl rfl (by omega) ?_);clear H; intro w H;refine ePartO (by kernel_rfl) H ?_
  refine eTakeF (k := 22) (i := 22) rfl (by kernel_rfl) F rfl rfl rfl (fun w => rIx underlying23 sizeOf5 F rfl rfl ?_) H (fun _ _ _ h => h) ?_
  focus (first | omega | decide | (simp; omega))
  clear F a; intro a F;refine eOne (k := 23) (i := 23) rfl (by kernel_rfl) F rfl (oStY H 0 sizeOf5 F rfl rfl rfl (by omega) ?_);clear H; intro w H;refine ePartO (by kernel_rfl) H ?_;refine eNil (k := 24) (by kernel_rfl) ?_;refine hK15 _ _ (cReg (sMv F rfl rfl rfl (qAs rfl rfl rfl ?_)));clear hK15;clear F a;intro a F;refine sNil ?_
  have hl := h52
  first
  | (have h35' := of_decide_eq_true h36
     have hl' : (e (f + r)).toNat < (e (f + (2 * r + 1 + 1))).toNat := by simpa using hl
     have hst := hq.step (ch := 2 * r + 1 + 1) hlr (.inr rfl) hc2 hl' (fun c hc hch' => by
       rcases hc with hc | hc
       · rw [hc, show f + (2 * r + 1 + 1) = f + (2 * r + 1) + 1 by omega]; omega
       · rw [hc]; exact Nat.le_refl _)
     exact ⟨_, by omega, _, ⟨2 * r + 1 + 1, _, rfl, rfl, by omega, by omega, hst, hsm.trans (Sm.swap e (by omega) (by omega) (by omega) (by omega)), swp_now H⟩, F.to (by repeat (first | exact trivial | refine Le.cons rfl ?_))⟩)
  | (have hl' : (e (f + r)).toNat < (e (f + (2 * r + 1))).toNat := by simpa using hl
     have hst := hq.step (ch := 2 * r + 1) hlr (.inl rfl) hch hl' (fun c hc hch' => by
       rcases hc with hc | hc
       · rw [hc]; exact Nat.le_refl _
       · first
         | (have h36' := of_decide_eq_false h36
            rw [hc, show f + (2 * r + 2) = f + (2 * r + 1) + 1 by omega]; omega)
         | omega)
     exact ⟨_, by omega, _, ⟨2 * r + 1, _, rfl, rfl, by omega, by omega, hst, hsm.trans (Sm.swap e (by omega) (by omega) (by omega) (by omega)), swp_now H⟩, F.to (by repeat (first | exact trivial | refine Le.cons rfl ?_))⟩)
end Go.Proofs.YtklpiodciblabaaGreatDoor
