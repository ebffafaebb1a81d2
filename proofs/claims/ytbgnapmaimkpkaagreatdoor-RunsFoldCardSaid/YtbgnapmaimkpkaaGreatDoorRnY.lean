/-
  WALK2. The law RunsMost. Conditions: the program lies in memory; block 0 holds the table of needs.
-/
import Derived.Test.YtbgnapmaimkpkaaGreatDoorRnX1
set_option linter.unusedSimpArgs false
set_option linter.unusedVariables false
namespace Go.Proofs.YtbgnapmaimkpkaaGreatDoor
open Go.Proofs.Tryz
open Go.RowKit
set_option maxRecDepth 100000
theorem states_neg {p : Prg} {m : UInt8} {n : Int} (h : ¬ statesC p m n) : statesE p m n = 2 ∧ statesR p m n = none := ⟨if_neg h, if_neg h⟩
theorem states_pos {p : Prg} {m : UInt8} {n : Int} (h : statesC p m n) : (statesE p m n = 5 ∧ statesR p m n = none) ∨ (statesE p m n = 0 ∧ ∃ fd, statesR p m n = some fd ∧ reachR p m n.toNat = some fd) := by
  rw [statesE, statesR, if_pos h, if_pos h]
  cases h2 : reachR p m n.toNat with
  | none => exact .inl ⟨rfl, rfl⟩
  | some fd => exact .inr ⟨rfl, fd, rfl, rfl⟩
theorem most_ok {p : Prg} {m : UInt8} (h : statesE p m 600 = 0) : rightErr p = 0 ∧ (1 : UInt8) ≤ m ∧ m ≤ 3 ∧ 1 ≤ (fo (statesR p m 600)).ends.length ∧ (fo (statesR p m 600)).ends.length ≤ (fo (statesR p m 600)).list.length ∧ (fo (statesR p m 600)).list.length ≤ 600 ∧ ∃ fd, statesR p m 600 = some fd := by
  obtain ⟨fd, h3, hI, _, hr, hk⟩ := states_some h
  rw [h3]
  show _ ∧ _ ∧ _ ∧ 1 ≤ fd.ends.length ∧ fd.ends.length ≤ fd.list.length ∧ fd.list.length ≤ 600 ∧ _
  have h1 := ends_pos hI
  have h2 : fd.ends.length ≤ fd.list.length := by
    rw [hI.ends];refine Nat.le_trans (List.length_filter_le _ _) ?_
    rw [List.length_range]; exact Nat.le_refl _
  have h4 := hI.many
  have hk2 : (1 : UInt8) ≤ m ∧ m ≤ 3 := by unfold knownM at hk; simpa using hk
  exact ⟨hr, hk2.1, hk2.2, Nat.pos_of_ne_zero (fun e => h1 (List.eq_nil_of_length_eq_zero e)), h2, h4, fd, rfl⟩
theorem most_bad {p : Prg} {m : UInt8} (h : statesE p m 600 ≠ 0) : (fo (statesR p m 600)).list.length = 0 ∧ (fo (statesR p m 600)).ends.length = 0 ∧ ((statesE p m 600 = 5 ∧ rightErr p = 0 ∧ (1 : UInt8) ≤ m ∧ m ≤ 3) ∨ (statesE p m 600 = 2 ∧ ¬ (rightErr p = 0 ∧ (1 : UInt8) ≤ m ∧ m ≤ 3))) := by
  have hn := states_none h
  rw [hn]
  refine ⟨rfl, rfl, ?_⟩
  have hkn : knownM m = true ↔ (1 : UInt8) ≤ m ∧ m ≤ 3 := by unfold knownM; simp
  by_cases hC : statesC p m 600
  · obtain ⟨h1, _, _, h4⟩ := hC
    have hC6 : statesC p m 600 := ⟨h1, by decide, by decide, h4⟩
    rcases states_pos hC6 with h2 | h2
    · exact .inl ⟨h2.1, h4, hkn.1 h1⟩
    · exact absurd h2.1 h
  · exact .inr ⟨(states_neg hC).1, fun ⟨h1, h2⟩ => hC ⟨hkn.2 h2, by decide, by decide, h1⟩⟩
end Go.Proofs.YtbgnapmaimkpkaaGreatDoor
