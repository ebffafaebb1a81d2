/-
  Arguments opened: a slice of instructions; a slice of bytes that memory bears. Conditions: none.
-/
import Derived.Test.YtklpiodciblabaaGreatDoorOpK
set_option linter.unusedSimpArgs false
set_option linter.unusedVariables false
namespace Go.Proofs.YtklpiodciblabaaGreatDoor
open Go.ChangeShapes Go.WideShapes Go.ChangeAt Go.RowKit Go.Deep
set_option maxRecDepth 100000
section
variable {H : Type} {enc : TypeId × Value → H} {W : World} {v : Value} {d : DataW H} {p : List MemPlace}
theorem a_insesZ (hv : Value.okWide Tryz.prog W .any 0 22 v) (h : DataW.Trod enc Tryz.prog W 0 (fun _ => true) true 22 v d p) : ∃ A C, ∃ l : List Ins, v = .slice A l.length C ∧ RowsAt W A 10 (l.map Ins.cells) ∧ l.length ≤ C ∧ l.length ≤ 9223372036854775807 ∧ (A = none → C = 0) := by
  obtain ⟨a, len, cap, rfl⟩ := okWide_slice Tryz.underlying22 hv
  obtain ⟨fuel, hf⟩ := h
  obtain ⟨A, C, l, h1, h2, h3, h4, h5⟩ := o_inses hf
  unfold maxLen at h4
  exact ⟨A, C, l, by simpa [Value.cells] using h1, h2, h3, by omega, h5⟩
theorem bU8 : Tryz.prog.bytesOf 5 = 1 := by kernel_rfl
theorem a_bytesZ (hv : Value.okWide Tryz.prog W .any 0 23 v) (h : DataW.Trod enc Tryz.prog W 0 (fun _ => true) true 23 v d p) (hW : ∀ n ∈ d.weights Tryz.prog 23, n ≤ reachBytes) : ∃ A C, ∃ l : List UInt8, v = .slice A l.length C ∧ RowsAt W A 1 (l.map fun x => [b8 x]) ∧ l.length ≤ C ∧ l.length ≤ 140737488351232 ∧ (A = none → C = 0) := by
  obtain ⟨A, C, l, rfl, h2, h3, h4, h5⟩ := a_bytes hv h
  refine ⟨A, C, l, rfl, h2, h3, ?_, h5⟩
  obtain ⟨fuel, hf⟩ := h
  rcases DataW.trod_slice Tryz.underlying23 hf with ⟨h1, _⟩ | ⟨a, len', cap', elems, rest, n, hn, h1, hx, _, _, _, hlen, hel, _, _⟩
  · have h1 : Value.slice A l.length C = .slice none 0 0 := (List.cons.inj h1).1
    have h2 : l.length = 0 := by injection h1
    omega
  · have h1 : Value.slice A l.length C = .slice (some a) len' cap' := (List.cons.inj h1).1
    have h2 : l.length = len' := by injection h1
    have hb := hW ((elems.length + rest.length) * Tryz.prog.bytesOf 5) (by
      have hx : d = _ := congrArg Prod.fst hx
      rw [hx]; simp [DataW.weights, Tryz.underlying23])
    rw [bU8, Nat.mul_one] at hb
    have hr : reachBytes ≤ 140737488351232 := by unfold reachBytes; exact Nat.le_refl _
    omega
end
end Go.Proofs.YtklpiodciblabaaGreatDoor
