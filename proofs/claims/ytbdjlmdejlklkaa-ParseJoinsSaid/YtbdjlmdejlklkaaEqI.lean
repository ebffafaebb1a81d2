/-
  WALK2. == of instructions. Conditions: none.
-/
import Derived.Test.YtbdjlmdejlklkaaVcZ
import Derived.Test.YtbdjlmdejlklkaaCkK
set_option linter.unusedSimpArgs false
set_option linter.unusedVariables false
namespace Go.Proofs.Ytbdjlmdejlklkaa
open Go.RowKit
set_option maxRecDepth 100000

theorem eTb : EqT Try.prog 1 4 [.bool] false := eqBool Try.underlying4
theorem eTA : EqT Try.prog 2 40 [.bool, .u8] true := by
  have h := eqStruct (P := Try.prog) (D := 1) (kss := [([.bool], false), ([.u8], false)]) Try.underlying40 (by kernel_rfl) ⟨rfl, by decide, Try.sizeOf4, Try.isAgg4, fun _ => rfl, eTb, rfl, by decide, Try.sizeOf5, Try.isAgg5, fun _ => rfl, eT8, trivial⟩
  exact h
theorem eTI : EqT Try.prog 3 42 [.u8, .u8, .u8, .bool, .u8, .bool, .u8, .u8, .u8, .u8] true := by
  have hu := (eT8.up 1)
  have h := eqStruct (P := Try.prog) (D := 2) (kss := [([.u8], false), ([.u8], false), ([.u8], false), ([.bool, .u8], true), ([.bool, .u8], true), ([.u8], false), ([.u8], false), ([.u8], false)]) Try.underlying42 (by kernel_rfl)
    ⟨rfl, by decide, Try.sizeOf5, Try.isAgg5, fun _ => rfl, hu, rfl, by decide, Try.sizeOf5, Try.isAgg5, fun _ => rfl, hu, rfl, by decide, Try.sizeOf5, Try.isAgg5, fun _ => rfl, hu,
      rfl, by decide, Try.sizeOf40, Try.isAgg40, fun h => (by cases h), eTA, rfl, by decide, Try.sizeOf40, Try.isAgg40, fun h => (by cases h), eTA,
      rfl, by decide, Try.sizeOf5, Try.isAgg5, fun _ => rfl, hu, rfl, by decide, Try.sizeOf5, Try.isAgg5, fun _ => rfl, hu, rfl, by decide, Try.sizeOf5, Try.isAgg5, fun _ => rfl, hu, trivial⟩
  exact h
theorem fitsI (x : Ins) : Fits [.u8, .u8, .u8, .bool, .u8, .bool, .u8, .u8, .u8, .u8] x.cells := by
  have hb : ∀ c : UInt8, CK.ok .u8 (b8 c) := fun c => ⟨_, rfl⟩
  exact ⟨hb _, hb _, hb _, ⟨_, rfl⟩, hb _, ⟨_, rfl⟩, hb _, hb _, hb _, hb _, trivial⟩
theorem ceqI (x : Ins) : ceq x.cells x.cells = true := by simp [Ins.cells, ceq, cellEq, b8]
theorem bEqI {x y : Operand} {u : Ins} : BinR Try.prog .eql 42 x y (.agg u.cells.toArray) (.agg u.cells.toArray) (.bool true) := by
  have h := bEqT (x' := x) (y' := y) eTI (by kernel_rfl) (by decide) (fitsI u) (fitsI u)
  rw [ceqI] at h
  exact h
end Go.Proofs.Ytbdjlmdejlklkaa
