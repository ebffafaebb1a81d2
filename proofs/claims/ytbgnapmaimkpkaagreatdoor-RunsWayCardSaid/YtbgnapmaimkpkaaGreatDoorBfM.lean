/-
  Plain Lean: what the laws on plays share. Conditions: none.
-/
import Derived.Test.YtbgnapmaimkpkaaGreatDoorBfW
set_option linter.unusedSimpArgs false
set_option linter.unusedVariables false
namespace Go.Proofs.YtbgnapmaimkpkaaGreatDoor
open Go.RowKit

def storeP (p : Prg) (s : By) (t : Nat) : Bool := match nextI p s t with
  | some x => x.op == 2
  | none => false
theorem drop_next {α : Type} {l : List α} {j : Nat} {x : α} (h : l[j]? = some x) : l.drop j = x :: l.drop (j + 1) := by
  obtain ⟨hj, rfl⟩ := List.getElem?_eq_some_iff.1 h
  exact List.drop_eq_getElem_cons hj
theorem known_machine (m : UInt8) : knownM (1 + m % 3) = true := by
  have h : (m % 3).toNat < 3 := by rw [UInt8.toNat_mod]; exact Nat.mod_lt _ (by decide)
  have e : (1 + m % 3).toNat = 1 + (m % 3).toNat := by rw [UInt8.toNat_add, show (1 : UInt8).toNat = 1 from rfl]; omega
  unfold knownM
  rw [decide_eq_true (UInt8.le_iff_toNat_le.2 (by rw [e, show (1 : UInt8).toNat = 1 from rfl]; omega)), decide_eq_true (UInt8.le_iff_toNat_le.2 (by rw [e, show (3 : UInt8).toNat = 3 from rfl]; omega))]
  rfl
theorem bytes_take {w : World} {A : Option Addr} {l : List UInt8} (h : BytesAt w A l) (n : Nat) : BytesAt w A (l.take n) := fun j c hj => h j c (by
  rw [List.getElem?_map] at hj ⊢
  rw [List.getElem?_take] at hj
  split at hj
  · exact hj
  · cases hj)
theorem enabled_wait {p : Prg} {m : UInt8} {s : By} {t : Nat} {l : List Ins} {x : Ins} (hl : p.threads[t]? = some l) (hx : l[(s (t * 9)).toNat]? = some x) (he : enabledM p m s t = true) (h0 : 0 < manyB s t) : ¬ (x.op = 4 ∨ x.op = 5 ∨ x.op = 6) ∧ ¬ (x.op = 7 ∧ x.mode = 3) := by
  unfold enabledM at he
  rw [nextI_at hl hx] at he
  have he : readyI x m s t = true := he
  have h0t : (s (138 + t) == 0) = false := by
    unfold manyB at h0
    rw [beq_eq_false_iff_ne]
    intro h
    rw [h, show (0 : UInt8).toNat = 0 from rfl] at h0
    omega
  unfold readyI at he
  rw [h0t] at he
  refine ⟨fun h => ?_, fun h => ?_⟩
  · rw [if_pos h] at he; cases he
  · rw [if_neg (by rw [h.1]; decide), if_pos h.1, h.2] at he
    simp at he
end Go.Proofs.YtbgnapmaimkpkaaGreatDoor
