/-
  Slices of int that are read. Conditions: none.
-/
import Derived.Test.YtfcidfljidkcaaaDoorOpK
set_option linter.unusedSimpArgs false
set_option linter.unusedVariables false
namespace Go.Proofs.YtfcidfljidkcaaaDoor
open Go.ChangeShapes Go.WideShapes Go.ChangeAt Go.RowKit Go.Deep
set_option maxRecDepth 100000
theorem cInt : Tryd.prog.cellsOf 3 = 1 := by kernel_rfl
section
variable {H : Type} {enc : TypeId × Value → H} {w W : World} {spare : Nat → Bool} {held : Bool} {fuel : Nat} {cs : List Value} {x : DataW H × List MemPlace} {v : Value} {d : DataW H} {p : List MemPlace}
theorem o_ints (h : DataW.trod enc Tryd.prog w 0 spare held fuel 35 cs = some x) : ∃ A C, ∃ l : List Int, cs = [.slice A l.length C] ∧ RowsAt w A 1 (l.map fun x => [.int .i64 x]) ∧ l.length ≤ C ∧ C ≤ maxLen ∧ (A = none → C = 0) :=
  o_rows Tryd.underlying35 cInt (by omega) (fun h => by
    obtain ⟨n, h1, _, _⟩ := DataW.trod_int Tryd.underlying3 h
    exact ⟨n, h1⟩) h
theorem a_ints (hv : Value.okWide Tryd.prog W .any 0 35 v) (h : DataW.Trod enc Tryd.prog W 0 (fun _ => true) true 35 v d p) : ∃ A C, ∃ l : List Int, v = .slice A l.length C ∧ RowsAt W A 1 (l.map fun x => [.int .i64 x]) ∧ l.length ≤ C ∧ l.length ≤ 9223372036854775807 ∧ (A = none → C = 0) := by
  obtain ⟨a, len, cap, rfl⟩ := okWide_slice Tryd.underlying35 hv
  obtain ⟨fuel, hf⟩ := h
  obtain ⟨A, C, l, h1, h2, h3, h4, h5⟩ := o_ints hf
  unfold maxLen at h4
  exact ⟨A, C, l, by simpa [Value.cells] using h1, h2, h3, by omega, h5⟩
end
end Go.Proofs.YtfcidfljidkcaaaDoor
