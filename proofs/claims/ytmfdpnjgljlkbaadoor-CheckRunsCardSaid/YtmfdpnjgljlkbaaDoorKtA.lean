/-
  WALK2. seisinkit: the marks behind lent slices. Conditions: few.
-/
import Derived.Test.YtmfdpnjgljlkbaaDoorLfB
set_option linter.unusedSimpArgs false
set_option linter.unusedVariables false
namespace Go.Proofs.YtmfdpnjgljlkbaaDoor
open Go.RowKit
set_option maxRecDepth 100000

section
variable {P : Program} {t : TypeId} {x y : Operand} {n m : Nat}
theorem bMulN (h : 1000003 * m ≤ 9223372036854775807) : BinR P .mul t x y (.int .i64 1000003) (.int .i64 (m : Int)) (.int .i64 ((1000003 * m : Nat) : Int)) := fun w => by
  have : (do eqGuard .mul t x y (.int .i64 1000003) (.int .i64 (m : Int)); binOp .mul t (.int .i64 1000003) (.int .i64 (m : Int)) : Sem Value).run P w = .ok (.int .i64 (IntKind.i64.wrap (1000003 * (m : Int)))) w := by simp [eqGuard, binOp, Op.intArith, go_sem]
  rw [this, show (1000003 : Int) * (m : Int) = ((1000003 * m : Nat) : Int) by omega, wrapN h]
theorem bMulW : BinR P .mul t x y (.int .u64 (n : Int)) (.int .u64 11400714819323198485) (.int .u64 ((n * 11400714819323198485 % 18446744073709551616 : Nat) : Int)) := fun w => by
  have : (do eqGuard .mul t x y (.int .u64 (n : Int)) (.int .u64 11400714819323198485); binOp .mul t (.int .u64 (n : Int)) (.int .u64 11400714819323198485) : Sem Value).run P w = .ok (.int .u64 (IntKind.u64.wrap ((n : Int) * 11400714819323198485))) w := by simp [eqGuard, binOp, Op.intArith, go_sem]
  rw [this, u64wrap]
  rfl
theorem bShrW : BinR P .shr t x y (.int .u64 (n : Int)) (.int .u64 56) (.int .u64 ((n / 72057594037927936 : Nat) : Int)) := fun w => by
  have h2 : Op.shift .shr .u64 (n : Int) .u64 56 = pure (.int .u64 ((n : Int) / 2 ^ (56 : Int).toNat)) := shift_shr .u64 .u64 (n : Int) 56 (by omega) (by decide)
  simp only [eqGuard_shr, binOp_shr, h2]
  rfl
end
def markB (k i : Nat) : UInt8 := UInt8.ofNat (((1000003 * (k + 7) + i) * 11400714819323198485 % 18446744073709551616) / 72057594037927936)
theorem wrap_ofNat (n : Nat) : IntKind.u8.wrap (n : Int) = ((UInt8.ofNat n).toNat : Int) := by
  have e : IntKind.u8.wrap (n : Int) = (n : Int) % 256 := by simp [IntKind.wrap, IntKind.signed, IntKind.bits]
  rw [e]
  simp
def markI (k i : Nat) : Ins := ⟨markB k i, UInt8.ofNat k, UInt8.ofNat i, false, 0, false, 0, 0, 0, 0⟩
theorem mark_any (k i : Nat) (hk : k ≤ 1000) (hi : i ≤ 1000) (w0 : World) : Calls Tryd.prog 80 #[.int .i64 (k : Int), .int .i64 (i : Int)] w0 fun e w' => e = .returned (.int .i64 ((1000003 * (k + 7) + i : Nat) : Int)) ∧ Below w0.heap.size w0 w' := by
  have H := Own.start w0 none
  refine enterF Tryd.func80 rfl Tryd.ntmps80 rfl (fun a F => ?_)
  refine cSeq (fun K1 hK1 => ?_)
  refine cReg ?_
  refine sAs F rfl rfl rfl ?_;clear F a;intro a F
  refine sNil ?_
  refine hK1 _ _ ?_; clear hK1
  refine cSeq (fun K2 hK2 => ?_)
  refine cReg ?_
  refine sMv F rfl rfl rfl ?_;clear F a;intro a F
  refine sBin F rfl rfl rfl rfl (bAddN (i := k) (j := 7) (by omega)) ?_;clear F a;intro a F
  refine sBin F rfl rfl rfl rfl (bMulN (m := k + 7) (by omega)) ?_;clear F a;intro a F
  refine sMv F rfl rfl rfl ?_;clear F a;intro a F
  refine sBin F rfl rfl rfl rfl (bAddN (i := 1000003 * (k + 7)) (j := i) (by omega)) ?_;clear F a;intro a F
  refine sAs F rfl rfl rfl ?_;clear F a;intro a F
  refine sNil ?_
  refine hK2 _ _ ?_; clear hK2
  refine wp_ret ?_
  refine bRet Tryd.results80 F rfl ?_
  exact ⟨rfl, H.below⟩
theorem markByte_any (k i : Nat) (hk : k ≤ 1000) (hi : i ≤ 1000) (w0 : World) : Calls Tryd.prog 52 #[.int .i64 (k : Int), .int .i64 (i : Int)] w0 fun e w' => e = .returned (Go.Proofs.YtmfdpnjgljlkbaaDoor.b8 (markB k i)) ∧ Below w0.heap.size w0 w' := by
  have H := Own.start w0 none
  refine enterF Tryd.func52 rfl Tryd.ntmps52 rfl (fun a F => ?_)
  refine cSeq (fun K1 hK1 => ?_)
  refine cReg ?_
  refine sAs F rfl rfl rfl ?_;clear F a;intro a F
  refine sNil ?_
  refine hK1 _ _ ?_; clear hK1
  refine cSeq (fun K2 hK2 => ?_)
  refine cReg ?_
  refine sMv F rfl rfl rfl ?_;clear F a;intro a F
  refine sMv F rfl rfl rfl ?_;clear F a;intro a F
  refine sCall Tryd.call80 F rfl rfl rfl (mark_any k i hk hi _) ?_
  rintro e w ⟨rfl, hb⟩
  replace H := H.grow hb; clear hb
  refine ⟨_, rfl, ?_⟩
  clear F a; intro a F
  refine sCv Tryd.underlying3 Tryd.underlying109 F rfl rfl rfl (wrapU (by omega)) ?_;clear F a;intro a F
  refine sBin F rfl rfl rfl rfl bMulW ?_;clear F a;intro a F
  refine sBin F rfl rfl rfl rfl bShrW ?_;clear F a;intro a F
  refine sCv Tryd.underlying109 Tryd.underlying5 F rfl rfl rfl (wrap_ofNat _) ?_;clear F a;intro a F
  refine sAs F rfl rfl rfl ?_;clear F a;intro a F
  refine sNil ?_
  refine hK2 _ _ ?_; clear hK2
  refine wp_ret ?_
  refine bRet Tryd.results52 F rfl ?_
  exact ⟨rfl, H.below⟩
theorem markIns_any (k i : Nat) (hk : k ≤ 1000) (hi : i ≤ 1000) (w0 : World) : Calls Tryd.prog 32 #[.int .i64 (k : Int), .int .i64 (i : Int)] w0 fun e w' => e = .returned (.agg (markI k i).cells.toArray) ∧ Below w0.heap.size w0 w' := by
  have H := Own.start w0 none
  refine enterF Tryd.func32 rfl Tryd.ntmps32 rfl (fun a F => ?_)
  refine cSeq (fun K1 hK1 => ?_)
  refine cReg ?_
  refine sAl H Tryd.zeroValue50 F rfl rfl ?_
  clear F a H; intro b4 a w F H
  refine sNil ?_
  refine hK1 _ _ ?_; clear hK1
  refine cSeq (fun K2 hK2 => ?_)
  refine cReg ?_
  refine sMv F rfl rfl rfl ?_;clear F a;intro a F
  refine sMv F rfl rfl rfl ?_;clear F a;intro a F
  refine sCall Tryd.call52 F rfl rfl rfl (markByte_any k i hk hi _) ?_
  rintro e w ⟨rfl, hb⟩
  replace H := H.grow hb; clear hb
  refine ⟨_, rfl, ?_⟩
  clear F a; intro a F
  refine sMv F rfl rfl rfl ?_;clear F a;intro a F
  refine sCv Tryd.underlying3 Tryd.underlying5 F rfl rfl rfl (wrap_ofNat _) ?_;clear F a;intro a F
  refine sMv F rfl rfl rfl ?_;clear F a;intro a F
  refine sCv Tryd.underlying3 Tryd.underlying5 F rfl rfl rfl (wrap_ofNat _) ?_;clear F a;intro a F
  refine sBd (cs := (markI k i).cells) (places := [(0, 1), (1, 1), (2, 1), (3, 2), (5, 2), (7, 1), (8, 1), (9, 1)]) Tryd.zeroValue50 Tryd.underlying50 (by kernel_rfl) F rfl rfl rfl rfl ?_;clear F a;intro a F
  refine sSr H 0 ?si F rfl rfl rfl ?s1 rfl rfl ?_
  case si => exact info_size Tryd.sizeOf50
  case s1 => first | rfl | (repeat (first | exact one_nil | (apply one_cons; · first | rfl | assumption | exact one_bif rfl rfl)))
  clear H; intro w H
  refine sNil ?_
  refine hK2 _ _ ?_; clear hK2
  refine wp_ret ?_
  refine bRetC Tryd.results32 F rfl Tryd.underlying50 rfl H 0 rfl Tryd.sizeOf50 rfl ?_
  exact ⟨rfl, H.below⟩
end Go.Proofs.YtmfdpnjgljlkbaaDoor
