/-
  Plain Lean: a run without store buffers, on the machines that have them. Conditions: none.
-/
import Derived.Test.YtbgnapmaimkpkaaGreatDoorBfT1
import Derived.Test.YtbgnapmaimkpkaaGreatDoorBfG
set_option linter.unusedSimpArgs false
set_option linter.unusedVariables false
namespace Go.Proofs.YtbgnapmaimkpkaaGreatDoor
-- BfV
-- BfK
-- BfW
def RunM (p : Prg) (m : UInt8) : By → List Pss → By → Prop
  | s, [], z => z = s
  | s, x :: r, z => x ∈ movesM p m s ∧ RunM p m (stepM p m s x) r z
theorem pickM_mem {picks : List UInt8} {n : Nat} {l : List Pss} (h : l ≠ []) : pickM picks n l ∈ l := by
  have hpos : 0 < l.length := List.length_pos_iff.2 h
  have key : ∀ q, q < l.length → l.getD q ⟨0, false, 0⟩ ∈ l := fun q hq => by
    rw [List.getD_eq_getElem?_getD, List.getElem?_eq_getElem hq]
    exact List.getElem_mem hq
  unfold pickM
  refine key _ ?_
  split
  · exact Nat.mod_lt _ hpos
  · exact hpos
theorem runM_of_play {p : Prg} {m : UInt8} (picks : List UInt8) : ∀ (f : Nat) (s : By) (run0 : List Pss), RightM p m s → nu p s ≤ f →
    ∃ r z, playM p m picks f s run0 = (z, run0 ++ r) ∧ RunM p m s r z ∧ movesM p m z = []
  | 0, s, run0, hr, h => by
    have he : movesM p m s = [] := by
      cases hq : movesM p m s with
      | nil => rfl
      | cons k r => have := (went hr (x := k) (by rw [hq]; simp)).nu; omega
    exact ⟨[], s, by rw [playM_end he]; simp, rfl, he⟩
  | f + 1, s, run0, hr, h => by
    by_cases he : movesM p m s = []
    · exact ⟨[], s, by rw [playM_end he]; simp, rfl, he⟩
    · have hmem := pickM_mem (picks := picks) (n := run0.length) he
      have hw := went hr hmem
      have hnu := hw.nu
      obtain ⟨r, z, h1, h2, h3⟩ := runM_of_play picks f (stepM p m s (pickM picks run0.length (movesM p m s))) (run0 ++ [pickM picks run0.length (movesM p m s)]) hw.right (by omega)
      exact ⟨_ :: r, z, by rw [playM_step he rfl, h1]; simp, ⟨hmem, h2⟩, h3⟩
theorem RunM.nu {p : Prg} {m : UInt8} {z : By} : ∀ {r : List Pss} {s : By}, RightM p m s → RunM p m s r z → r.length + nu p z ≤ nu p s
  | [], s, _, h => by
    have h : z = s := h
    subst h; simp
  | x :: r, s, hr, h => by
    have hw := went hr h.1
    have := RunM.nu hw.right h.2
    have := hw.nu
    simp only [List.length_cons]
    omega
theorem RunM.right {p : Prg} {m : UInt8} {z : By} : ∀ {r : List Pss} {s : By}, RightM p m s → RunM p m s r z → RightM p m z
  | [], s, hr, h => by
    have h : z = s := h
    subst h; exact hr
  | x :: r, s, hr, h => RunM.right (went hr h.1).right h.2
theorem RunM.nil {p : Prg} {m : UInt8} {s z : By} (h : RunM p m s [] z) : z = s := h
-- BfM
open Go.RowKit

theorem known_machine (m : UInt8) : knownM (1 + m % 3) = true := by
  have h : (m % 3).toNat < 3 := by rw [UInt8.toNat_mod]; exact Nat.mod_lt _ (by decide)
  have e : (1 + m % 3).toNat = 1 + (m % 3).toNat := by rw [UInt8.toNat_add, show (1 : UInt8).toNat = 1 from rfl]; omega
  unfold knownM
  rw [decide_eq_true (UInt8.le_iff_toNat_le.2 (by rw [e, show (1 : UInt8).toNat = 1 from rfl]; omega)), decide_eq_true (UInt8.le_iff_toNat_le.2 (by rw [e, show (3 : UInt8).toNat = 3 from rfl]; omega))]
  rfl
end Go.Proofs.YtbgnapmaimkpkaaGreatDoor
