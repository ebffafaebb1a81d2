/-
  Plain Lean: a move of a machine with store buffers leads from a valid state to a valid one, and there is less left to do. Conditions: none.
-/
import Derived.Test.YtbgnapmaimkpkaaGreatDoorBfF
set_option linter.unusedSimpArgs false
set_option linter.unusedVariables false
namespace Go.Proofs.YtbgnapmaimkpkaaGreatDoor

theorem addR_at (s : By) (t a : Nat) (st : By) (ha : a ≤ manyB s t) (i : Nat) : addR s t a st i = if i = 138 + t then s (138 + t) + 1 else if 42 + t * 24 + a * 2 ≤ i ∧ i < 42 + t * 24 + a * 2 + 2 then st (i - (42 + t * 24 + a * 2))
    else if 42 + t * 24 + (a + 1) * 2 ≤ i ∧ i < 42 + t * 24 + (manyB s t + 1) * 2 then s (i - 2) else s i := by
  unfold addR put
  split
  · rfl
  · unfold lay cut
    split
    · rfl
    · by_cases h : 42 + t * 24 + (a + 1) * 2 ≤ i ∧ i < 42 + t * 24 + (manyB s t + 1) * 2
      · rw [if_pos h, if_pos (by omega)]
        congr 1
        omega
      · rw [if_neg h, if_neg (by omega)]
theorem drainR_at (s : By) (t a : Nat) (ha : a < manyB s t) (i : Nat) : drainR s t a i = if i = 36 + (bLoc s t a).toNat then bVal s t a else if i = 138 + t then s (138 + t) - 1
    else if 42 + t * 24 + (manyB s t - 1) * 2 ≤ i ∧ i < 42 + t * 24 + manyB s t * 2 then 0
    else if 42 + t * 24 + a * 2 ≤ i ∧ i < 42 + t * 24 + (manyB s t - 1) * 2 then s (i + 2) else s i := by
  unfold drainR put
  split
  · rfl
  · split
    · rfl
    · unfold lay cut zb
      by_cases h : 42 + t * 24 + (manyB s t - 1) * 2 ≤ i ∧ i < 42 + t * 24 + manyB s t * 2
      · rw [if_pos h, if_pos (by omega)]
      · rw [if_neg h, if_neg (by omega)]
        by_cases h2 : 42 + t * 24 + a * 2 ≤ i ∧ i < 42 + t * 24 + (manyB s t - 1) * 2
        · rw [if_pos h2, if_pos (by omega)]
          congr 1
          omega
        · rw [if_neg h2, if_neg (by omega)]
section
variable {s st : By} {t a : Nat}
theorem add_low (ha : a ≤ manyB s t) {i : Nat} (hi : i < 42) : addR s t a st i = s i := by
  rw [addR_at s t a st ha, if_neg (by omega), if_neg (by omega), if_neg (by omega)]
theorem add_many (ha : a ≤ manyB s t) (hn : manyB s t ≤ 11) : manyB (addR s t a st) t = manyB s t + 1 := by
  unfold manyB at hn ⊢
  rw [addR_at s t a st ha, if_pos rfl, UInt8.toNat_add]
  have h1 : (1 : UInt8).toNat = 1 := rfl
  omega
theorem add_far (ha : a ≤ manyB s t) (hn : manyB s t ≤ 11) (ht : t < 4) {u : Nat} (hu : u < 4) (hne : u ≠ t) : manyB (addR s t a st) u = manyB s u ∧ ∀ i, i < 12 → bLoc (addR s t a st) u i = bLoc s u i ∧ bVal (addR s t a st) u i = bVal s u i := by
  refine ⟨?_, fun i hi => ⟨?_, ?_⟩⟩
  · unfold manyB
    rw [addR_at s t a st ha, if_neg (by omega), if_neg (by omega), if_neg (by omega)]
  · unfold bLoc
    rw [addR_at s t a st ha, if_neg (by omega), if_neg (by omega), if_neg (by omega)]
  · unfold bVal
    rw [addR_at s t a st ha, if_neg (by omega), if_neg (by omega), if_neg (by omega)]
theorem add_loc (ha : a ≤ manyB s t) (hn : manyB s t ≤ 11) (ht : t < 4) {i : Nat} (hi : i < 12) : bLoc (addR s t a st) t i = if i = a then st 0 else if a < i ∧ i ≤ manyB s t then bLoc s t (i - 1) else bLoc s t i := by
  unfold bLoc
  rw [addR_at s t a st ha, if_neg (by omega)]
  by_cases h : i = a
  · rw [if_pos (by omega), if_pos h]; congr 1; omega
  · rw [if_neg (by omega), if_neg h]
    by_cases h2 : a < i ∧ i ≤ manyB s t
    · rw [if_pos (by omega), if_pos h2]; congr 1; omega
    · rw [if_neg (by omega), if_neg h2]
theorem add_val (ha : a ≤ manyB s t) (hn : manyB s t ≤ 11) (ht : t < 4) {i : Nat} (hi : i < 12) : bVal (addR s t a st) t i = if i = a then st 1 else if a < i ∧ i ≤ manyB s t then bVal s t (i - 1) else bVal s t i := by
  unfold bVal
  rw [addR_at s t a st ha, if_neg (by omega)]
  by_cases h : i = a
  · rw [if_pos (by omega), if_pos h]; congr 1; omega
  · rw [if_neg (by omega), if_neg h]
    by_cases h2 : a < i ∧ i ≤ manyB s t
    · rw [if_pos (by omega), if_pos h2]; congr 1; omega
    · rw [if_neg (by omega), if_neg h2]
theorem drain_low (ha : a < manyB s t) {i : Nat} (hi : i < 36) : drainR s t a i = s i := by
  rw [drainR_at s t a ha, if_neg (by omega), if_neg (by omega), if_neg (by omega), if_neg (by omega)]
theorem drain_mem (ha : a < manyB s t) {k : Nat} (hk : k < 6) : drainR s t a (36 + k) = if k = (bLoc s t a).toNat then bVal s t a else s (36 + k) := by
  rw [drainR_at s t a ha]
  by_cases h : k = (bLoc s t a).toNat
  · rw [if_pos (by omega), if_pos h]
  · rw [if_neg (by omega), if_neg h, if_neg (by omega), if_neg (by omega), if_neg (by omega)]
theorem drain_many (ha : a < manyB s t) (hl : (bLoc s t a).toNat < 6) : manyB (drainR s t a) t = manyB s t - 1 := by
  unfold manyB at ha ⊢
  rw [drainR_at s t a ha, if_neg (by omega), if_pos rfl, UInt8.toNat_sub_of_le _ _ (UInt8.le_iff_toNat_le.2 (by have h1 : (1 : UInt8).toNat = 1 := rfl; omega))]
  rfl
theorem drain_far (ha : a < manyB s t) (hl : (bLoc s t a).toNat < 6) (hn : manyB s t ≤ 12) (ht : t < 4) {u : Nat} (hu : u < 4) (hne : u ≠ t) : manyB (drainR s t a) u = manyB s u ∧ ∀ i, i < 12 → bLoc (drainR s t a) u i = bLoc s u i ∧ bVal (drainR s t a) u i = bVal s u i := by
  refine ⟨?_, fun i hi => ⟨?_, ?_⟩⟩
  · unfold manyB
    rw [drainR_at s t a ha, if_neg (by omega), if_neg (by omega), if_neg (by omega), if_neg (by omega)]
  · show drainR s t a (42 + u * 24 + i * 2) = _
    rw [drainR_at s t a ha, if_neg (by omega), if_neg (by omega), if_neg (by omega), if_neg (by omega)]
    rfl
  · show drainR s t a (42 + u * 24 + i * 2 + 1) = _
    rw [drainR_at s t a ha, if_neg (by omega), if_neg (by omega), if_neg (by omega), if_neg (by omega)]
    rfl
theorem drain_loc (ha : a < manyB s t) (hl : (bLoc s t a).toNat < 6) (hn : manyB s t ≤ 12) (ht : t < 4) {i : Nat} (hi : i < 12) : bLoc (drainR s t a) t i = if i + 1 = manyB s t then 0 else if a ≤ i ∧ i + 1 < manyB s t then bLoc s t (i + 1) else bLoc s t i := by
  show drainR s t a (42 + t * 24 + i * 2) = _
  rw [drainR_at s t a ha, if_neg (by omega), if_neg (by omega)]
  by_cases h : i + 1 = manyB s t
  · rw [if_pos (by omega), if_pos h]
  · rw [if_neg (by omega), if_neg h]
    by_cases h2 : a ≤ i ∧ i + 1 < manyB s t
    · rw [if_pos (by omega), if_pos h2]
      show s _ = s _
      congr 1; omega
    · rw [if_neg (by omega), if_neg h2]; rfl
theorem drain_val (ha : a < manyB s t) (hl : (bLoc s t a).toNat < 6) (hn : manyB s t ≤ 12) (ht : t < 4) {i : Nat} (hi : i < 12) : bVal (drainR s t a) t i = if i + 1 = manyB s t then 0 else if a ≤ i ∧ i + 1 < manyB s t then bVal s t (i + 1) else bVal s t i := by
  show drainR s t a (42 + t * 24 + i * 2 + 1) = _
  rw [drainR_at s t a ha, if_neg (by omega), if_neg (by omega)]
  by_cases h : i + 1 = manyB s t
  · rw [if_pos (by omega), if_pos h]
  · rw [if_neg (by omega), if_neg h]
    by_cases h2 : a ≤ i ∧ i + 1 < manyB s t
    · rw [if_pos (by omega), if_pos h2]
      show s _ = s _
      congr 1; omega
    · rw [if_neg (by omega), if_neg h2]; rfl
end
end Go.Proofs.YtbgnapmaimkpkaaGreatDoor
