/-
  Plain Lean: validity, as the reference states it, operation by operation; conditions without a limit on their depth. Conditions: none.
-/
import Derived.Test.YtbgnapmaimkpkaaGreatDoorCkK
set_option linter.unusedSimpArgs false
set_option linter.unusedVariables false
namespace Go.Proofs.YtbgnapmaimkpkaaGreatDoor

section
variable {x : Ins} {locs after : Int}
theorem insOk_split : insOk x locs after = (condK x locs after 0 && condK x locs after 1 && condK x locs after 2 && condK x locs after 3 && condK x locs after 4 && condK x locs after 5 && condK x locs after 6 && condK x locs after 7) := by
  simp only [insOk, show List.range 8 = [0, 1, 2, 3, 4, 5, 6, 7] from rfl, List.all_cons, List.all_nil, Bool.and_true, Bool.and_assoc]
theorem fn46 (m : UInt8) : (decide (4 ≤ m) && decide (m ≤ 6)) = (m == 4 || m == 5 || m == 6) := by
  rw [Bool.eq_iff_iff]
  simp only [Bool.and_eq_true, Bool.or_eq_true, decide_eq_true_eq, beq_iff_eq, UInt8.lt_iff_toNat_lt, UInt8.le_iff_toNat_le, ← UInt8.toNat_inj, UInt8.reduceToNat]
  omega
def want8 (x : Ins) : Ins := ⟨x.op, 0, 0, x.aR, x.aN, x.bR, x.bN, x.fn, 0, x.skip⟩
theorem ins_8 (h : x.op = 8) : insOk x locs after = ((x == want8 x) && argOk x.aR x.aN && argOk x.bR x.bN && (decide (4 ≤ x.fn) && decide (x.fn ≤ 6)) && decide (1 ≤ x.skip) && decide ((x.skip.toNat : Int) ≤ after)) := by
  obtain ⟨b1, b2, b3, b4, b5, b6, b7⟩ : hasB (8 : UInt8) 1 = false ∧ hasB (8 : UInt8) 2 = false ∧ hasB (8 : UInt8) 4 = true ∧ hasB (8 : UInt8) 8 = true ∧ hasB (8 : UInt8) 16 = true ∧ hasB (8 : UInt8) 32 = false ∧ hasB (8 : UInt8) 64 = true := by decide
  have hn : x.needed = want8 x := by simp [Ins.needed, want8, h, b1, b2, b3, b4, b5, b6, b7]
  rw [insOk_split, fn46]
  cases he : x == want8 x with
  | false => simp [condK, hn, he]
  | true =>
    have e := eq_of_beq he
    have hd : x.dst = 0 := by rw [e]; rfl
    simp [condK, hn, he, h, b1, b2, b3, b4, b5, b6, b7, modeOk, fnOk, hd, Bool.and_assoc, Bool.and_comm, Bool.and_left_comm]
end
end Go.Proofs.YtbgnapmaimkpkaaGreatDoor
