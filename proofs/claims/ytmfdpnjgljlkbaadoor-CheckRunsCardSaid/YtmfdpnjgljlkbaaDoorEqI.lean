/-
  WALK2. == of instructions. Conditions: none.
-/
import Derived.Test.YtmfdpnjgljlkbaaDoorVcZ
import Derived.Test.YtmfdpnjgljlkbaaDoorCkK
set_option linter.unusedSimpArgs false
set_option linter.unusedVariables false
namespace Go.Proofs.YtmfdpnjgljlkbaaDoor
open Go.RowKit
set_option maxRecDepth 100000

theorem eTb : EqT Tryd.prog 1 4 [.bool] false := eqBool Tryd.underlying4
theorem eTA : EqT Tryd.prog 2 48 [.bool, .u8] true := by
  have h := eqStruct (P := Tryd.prog) (D := 1) (kss := [([.bool], false), ([.u8], false)]) Tryd.underlying48 (by kernel_rfl) ⟨rfl, by decide, Tryd.sizeOf4, Tryd.isAgg4, fun _ => rfl, eTb, rfl, by decide, Tryd.sizeOf5, Tryd.isAgg5, fun _ => rfl, eT8, trivial⟩
  exact h
theorem eTI : EqT Tryd.prog 3 50 [.u8, .u8, .u8, .bool, .u8, .bool, .u8, .u8, .u8, .u8] true := by
  have hu := (eT8.up 1)
  have h := eqStruct (P := Tryd.prog) (D := 2) (kss := [([.u8], false), ([.u8], false), ([.u8], false), ([.bool, .u8], true), ([.bool, .u8], true), ([.u8], false), ([.u8], false), ([.u8], false)]) Tryd.underlying50 (by kernel_rfl)
    ⟨rfl, by decide, Tryd.sizeOf5, Tryd.isAgg5, fun _ => rfl, hu, rfl, by decide, Tryd.sizeOf5, Tryd.isAgg5, fun _ => rfl, hu, rfl, by decide, Tryd.sizeOf5, Tryd.isAgg5, fun _ => rfl, hu,
      rfl, by decide, Tryd.sizeOf48, Tryd.isAgg48, fun h => (by cases h), eTA, rfl, by decide, Tryd.sizeOf48, Tryd.isAgg48, fun h => (by cases h), eTA,
      rfl, by decide, Tryd.sizeOf5, Tryd.isAgg5, fun _ => rfl, hu, rfl, by decide, Tryd.sizeOf5, Tryd.isAgg5, fun _ => rfl, hu, rfl, by decide, Tryd.sizeOf5, Tryd.isAgg5, fun _ => rfl, hu, trivial⟩
  exact h
theorem fitsI (x : Ins) : Fits [.u8, .u8, .u8, .bool, .u8, .bool, .u8, .u8, .u8, .u8] x.cells := by
  have hb : ∀ c : UInt8, CK.ok .u8 (b8 c) := fun c => ⟨_, rfl⟩
  exact ⟨hb _, hb _, hb _, ⟨_, rfl⟩, hb _, ⟨_, rfl⟩, hb _, hb _, hb _, hb _, trivial⟩
theorem ceqI (x : Ins) : ceq x.cells x.cells = true := by simp [Ins.cells, ceq, cellEq, b8]
theorem bEqI {x y : Operand} {u : Ins} : BinR Tryd.prog .eql 50 x y (.agg u.cells.toArray) (.agg u.cells.toArray) (.bool true) := by
  have h := bEqT (x' := x) (y' := y) eTI (by kernel_rfl) (by decide) (fitsI u) (fitsI u)
  rw [ceqI] at h
  exact h
end Go.Proofs.YtmfdpnjgljlkbaaDoor
