/-
  WALK2. seisinkit: the marks behind lent slices. Conditions: few.
-/
import Derived.Test.YtfcidfljidkcaaaDoorLfB
set_option linter.unusedSimpArgs false
set_option linter.unusedVariables false
namespace Go.Proofs.YtfcidfljidkcaaaDoor
open Go.RowKit
set_option maxRecDepth 100000

section
variable {P : Program} {t : TypeId} {x y : Operand} {n m : Nat}
theorem bMulN (h : 1000003 * m ≤ 9223372036854775807) : BinR P .mul t x y (.int .i64 1000003) (.int .i64 (m : Int)) (.int .i64 ((1000003 * m : Nat) : Int)) := fun w => by
  have : (do eqGuard .mul t x y (.int .i64 1000003) (.int .i64 (m : Int)); binOp .mul t (.int .i64 1000003) (.int .i64 (m : Int)) : Sem Value).run P w = .ok (.int .i64 (IntKind.i64.wrap (1000003 * (m : Int)))) w := by simp [eqGuard, binOp, Op.intArith, go_sem]
  rw [this, show (1000003 : Int) * (m : Int) = ((1000003 * m : Nat) : Int) by omega, wrapN h]
theorem bMulW : BinR P .mul t x y (.int .u64 (n : Int)) (.int .u64 11400714819323198485) (.int .u64 ((n * 11400714819323198485 % 18446744073709551616 : Nat) : Int)) := fun w => by
  have : (do eqGuard .mul t x y (.int .u64 (n : Int)) (.int .u64 11400714819323198485); binOp .mul t (.int .u64 (n : Int)) (.int .u64 11400714819323198485) : Sem Value).run P w = .ok (.int .u64 (IntKind.u64.wrap ((n : Int) * 11400714819323198485))) w := by simp [eqGuard, binOp, Op.intArith, go_sem]
  rw [this, u64wrap]
  rfl
theorem bShrW : BinR P .shr t x y (.int .u64 (n : Int)) (.int .u64 56) (.int .u64 ((n / 72057594037927936 : Nat) : Int)) := fun w => by
  have h2 : Op.shift .shr .u64 (n : Int) .u64 56 = pure (.int .u64 ((n : Int) / 2 ^ (56 : Int).toNat)) := shift_shr .u64 .u64 (n : Int) 56 (by omega) (by decide)
  simp only [eqGuard_shr, binOp_shr, h2]
  rfl
end
def markB (k i : Nat) : UInt8 := UInt8.ofNat (((1000003 * (k + 7) + i) * 11400714819323198485 % 18446744073709551616) / 72057594037927936)
theorem wrap_ofNat (n : Nat) : IntKind.u8.wrap (n : Int) = ((UInt8.ofNat n).toNat : Int) := by
  have e : IntKind.u8.wrap (n : Int) = (n : Int) % 256 := by simp [IntKind.wrap, IntKind.signed, IntKind.bits]
  rw [e]
  simp
def markI (k i : Nat) : Ins := ⟨markB k i, UInt8.ofNat k, UInt8.ofNat i, false, 0, false, 0, 0, 0, 0⟩

end Go.Proofs.YtfcidfljidkcaaaDoor
