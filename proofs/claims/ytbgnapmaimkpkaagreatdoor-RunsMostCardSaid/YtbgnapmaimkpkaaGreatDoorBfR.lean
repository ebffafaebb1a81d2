/-
  Plain Lean: a move of a machine with store buffers leads from a valid state to a valid one, and there is less left to do: second part. Conditions: none.
-/
import Derived.Test.YtbgnapmaimkpkaaGreatDoorBfQ
set_option linter.unusedSimpArgs false
set_option linter.unusedVariables false
namespace Go.Proofs.YtbgnapmaimkpkaaGreatDoor

def execT (x : Ins) (s : By) (t : Nat) : By :=
  if x.op = 1 then farP x (cut s (t * 9)) (seenP s t x.loc) else if x.op = 2 then put (cut s (t * 9)) 0 (s (t * 9) + 1)
  else if x.op = 4 ∨ x.op = 5 ∨ x.op = 6 then farP x (cut s (t * 9)) (s (36 + x.loc.toNat)) else localP x (cut s (t * 9))
def writesM (m : UInt8) (x : Ins) : Prop := (x.op = 2 ∧ m = 1) ∨ x.op = 4 ∨ x.op = 5 ∨ x.op = 6
instance (m : UInt8) (x : Ins) : Decidable (writesM m x) := by unfold writesM; infer_instance
def buffers (m : UInt8) (x : Ins) : Prop := x.op = 2 ∧ m ≠ 1
instance (m : UInt8) (x : Ins) : Decidable (buffers m x) := by unfold buffers; infer_instance
theorem exec_val {m : UInt8} {x : Ins} {s : By} {t : Nat} (ht : t < 4) (hloc : isLocal x = false → x.loc.toNat < 6) (hop : x.op = 1 ∨ x.op = 2 ∨ x.op = 3 ∨ x.op = 4 ∨ x.op = 5 ∨ x.op = 6 ∨ x.op = 7 ∨ x.op = 8) (i : Nat) :
    execP m x s t i = if t * 9 ≤ i ∧ i < t * 9 + 9 then execT x s t (i - t * 9) else if writesM m x ∧ i = 36 + x.loc.toNat then hasP x (cut s (t * 9)) (s (36 + x.loc.toNat))
      else if buffers m x then addP m s t (stP x.loc (valA x (cut s (t * 9)))) i else s i := by
  by_cases h1 : x.op = 1
  · have hw : ¬ writesM m x := by unfold writesM; rw [h1]; simp
    have hb : ¬ buffers m x := by unfold buffers; rw [h1]; simp
    unfold execP execT
    have hw' : ¬ (writesM m x ∧ i = 36 + x.loc.toNat) := fun h => hw h.1
    rw [if_pos h1, if_pos h1, if_neg hw', if_neg hb]
    rfl
  · by_cases h2 : x.op = 2
    · have hl := hloc (by simp [isLocal, h2])
      unfold execP execT
      rw [if_neg h1, if_pos h2, if_neg h1, if_pos h2]
      unfold lay
      split
      · rfl
      · rename_i hi
        by_cases hm : m = 1
        · have hw : writesM m x := .inl ⟨h2, hm⟩
          have hb : ¬ buffers m x := fun h => h.2 hm
          rw [if_pos hm, if_neg hb]
          unfold put
          by_cases hi2 : i = 36 + x.loc.toNat
          · rw [if_pos hi2, if_pos ⟨hw, hi2⟩]
            unfold hasP
            rw [if_pos (.inl h2)]
          · rw [if_neg hi2, if_neg (fun h => hi2 h.2)]
        · have hw : ¬ writesM m x := by unfold writesM; rw [h2]; simp [hm]
          rw [if_neg hm, if_neg (fun h => hw h.1), if_pos ⟨h2, hm⟩]
    · have hb : ¬ buffers m x := fun h => h2 h.1
      by_cases h4 : x.op = 4 ∨ x.op = 5 ∨ x.op = 6
      · have hL : isLocal x = false := by rcases h4 with h | h | h <;> simp [isLocal, h]
        have hw : writesM m x := .inr h4
        unfold execP execT
        rw [if_neg h1, if_neg h2, if_pos h4, if_neg h1, if_neg h2, if_pos h4, moveP_at, if_neg hb]
        unfold thrP
        rw [hL]
        simp only [Bool.false_eq_true, if_false, true_and, hw]
      · have hw : ¬ writesM m x := by
          rintro (h | h)
          · exact h2 h.1
          · exact h4 h
        unfold execP execT
        have hw' : ¬ (writesM m x ∧ i = 36 + x.loc.toNat) := fun h => hw h.1
        rw [if_neg h1, if_neg h2, if_neg h4, if_neg h1, if_neg h2, if_neg h4, if_neg hw', if_neg hb]
        rfl
theorem execT_pc {x : Ins} {s : By} {t : Nat} (hop : x.op = 1 ∨ x.op = 2 ∨ x.op = 3 ∨ x.op = 4 ∨ x.op = 5 ∨ x.op = 6 ∨ x.op = 7 ∨ x.op = 8) : execT x s t 0 = newPc x (cut s (t * 9)) := by
  have hn : x.op ≠ 8 → newPc x (cut s (t * 9)) = s (t * 9) + 1 := fun h => if_neg (fun hh => h hh.1)
  unfold execT
  split
  · rename_i h; rw [hn (by rw [h]; decide)]; rfl
  · split
    · rename_i h; rw [hn (by rw [h]; decide)]; rfl
    · split
      · rename_i h; rw [hn (by rcases h with h | h | h <;> rw [h] <;> decide)]; rfl
      · rename_i h1 h2 h4
        have hL : isLocal x = true := by
          rcases hop with h | h | h | h | h | h | h | h
          · exact absurd h h1
          · exact absurd h h2
          · simp [isLocal, h]
          · exact absurd (.inl h) h4
          · exact absurd (.inr (.inl h)) h4
          · exact absurd (.inr (.inr h)) h4
          · simp [isLocal, h]
          · simp [isLocal, h]
        have := thrP_pc x (cut s (t * 9)) 0
        unfold thrP at this
        rw [hL, if_pos rfl] at this
        exact this
theorem fits_iff {p : Prg} {m : UInt8} {s : By} {t : Nat} : fitsP p m s t = true ↔ manyB s t ≤ mostB p m s t ∧ ∀ i, i < 12 → slotOk p m s t i = true := by
  unfold fitsP; rw [Bool.and_eq_true, decide_eq_true_eq, allB_iff]
theorem slot_iff {p : Prg} {m : UInt8} {s : By} {t i : Nat} : slotOk p m s t i = true ↔ (manyB s t ≤ i → bLoc s t i = 0 ∧ bVal s t i = 0) ∧ (i < manyB s t → (bLoc s t i).toNat < p.locs.length ∧ (m = 3 → 0 < i → (bLoc s t (i - 1)).toNat ≤ (bLoc s t i).toNat)) := by
  unfold slotOk
  split
  · rename_i h
    simp only [Bool.and_eq_true, beq_iff_eq]
    exact ⟨fun hh => ⟨fun _ => hh, fun h2 => absurd h2 (by omega)⟩, fun hh => hh.1 h⟩
  · rename_i h
    simp only [Bool.and_eq_true, decide_eq_true_eq, Bool.not_eq_true', Bool.and_eq_false_iff, beq_eq_false_iff_ne, decide_eq_false_iff_not]
    constructor
    · rintro ⟨h1, h2⟩
      refine ⟨fun h3 => absurd h3 h, fun _ => ⟨h1, fun hm hi => ?_⟩⟩
      rcases h2 with (h2 | h2) | h2
      · exact absurd hm h2
      · exact absurd hi h2
      · rw [UInt8.lt_iff_toNat_lt] at h2; omega
    · rintro ⟨_, h2⟩
      obtain ⟨h3, h4⟩ := h2 (by omega)
      refine ⟨h3, ?_⟩
      by_cases hm : m = 3
      · by_cases hi : 0 < i
        · refine .inr ?_
          rw [UInt8.lt_iff_toNat_lt]
          have := h4 hm hi
          omega
        · exact .inl (.inr hi)
      · exact .inl (.inl hm)
theorem addAt_spec {m : UInt8} {s : By} {t : Nat} {loc : UInt8} : ∀ n, (m = 3 → ∀ i, addAt m s t loc n ≤ i → i < n → loc.toNat < (bLoc s t i).toNat) ∧ (m = 3 → 0 < addAt m s t loc n → (bLoc s t (addAt m s t loc n - 1)).toNat ≤ loc.toNat) ∧ (m ≠ 3 → addAt m s t loc n = n)
  | 0 => ⟨fun _ i _ h => absurd h (by omega), fun _ h => absurd h (by simp [addAt]), fun _ => rfl⟩
  | n + 1 => by
    obtain ⟨h1, h2, h3⟩ := addAt_spec (m := m) (s := s) (t := t) (loc := loc) n
    rw [addAt]
    split
    · rename_i hc
      refine ⟨fun hm i hi hin => ?_, h2, fun hm => absurd hc.1 hm⟩
      rcases Nat.lt_or_ge i n with h | h
      · exact h1 hm i hi h
      · obtain rfl : i = n := by omega
        exact UInt8.lt_iff_toNat_lt.1 hc.2
    · rename_i hc
      refine ⟨fun _ i hi hin => absurd hi (by omega), fun hm _ => ?_, fun _ => rfl⟩
      have h5 : ¬ loc.toNat < (bLoc s t n).toNat := fun h => hc ⟨hm, UInt8.lt_iff_toNat_lt.2 h⟩
      show (bLoc s t n).toNat ≤ _
      omega
/-- What is left to do. -/
def nu (p : Prg) (s : By) : Nat := 2 * mu p s + (manyB s 0 + manyB s 1 + manyB s 2 + manyB s 3)
end Go.Proofs.YtbgnapmaimkpkaaGreatDoor
