/-
  WALK2. Package path: the trailing zeros of a number (by math/bits' table), pairs. Conditions: the table lies in memory; the sets lie in a row.
-/
import Derived.Test.YtklpiodciblabaaDoorPaE
set_option linter.unusedSimpArgs false
set_option linter.unusedVariables false
namespace Go.Proofs.YtklpiodciblabaaDoor
open Go.RowKit
set_option maxRecDepth 100000
section
variable {P : Program} {t : TypeId} {x y : Operand} {n m : Nat}
theorem bAnd32 (hn : n < 4294967296) (hm : m < 4294967296) : BinR P .and t x y (.int .u32 (n : Int)) (.int .u32 (m : Int)) (.int .u32 ((n &&& m : Nat) : Int)) := fun w => by
  have h : n &&& m < 4294967296 := Nat.lt_of_le_of_lt Nat.and_le_left hn
  simp only [eqGuard, binOp, Op.intBits, go_sem]
  show Result.ok (Value.int .u32 (IntKind.u32.wrap ((BitVec.ofInt 32 (n : Int) &&& BitVec.ofInt 32 (m : Int)).toNat : Int))) w = _
  have e1 : (BitVec.ofInt 32 (n : Int) &&& BitVec.ofInt 32 (m : Int)).toNat = n &&& m := by
    rw [BitVec.toNat_and, BitVec.ofInt_natCast, BitVec.ofInt_natCast, BitVec.toNat_ofNat, BitVec.toNat_ofNat, Nat.mod_eq_of_lt hn, Nat.mod_eq_of_lt hm]
  rw [e1, u32wrap]
  have : ((n &&& m : Nat) : Int) % 4294967296 = ((n &&& m : Nat) : Int) := by omega
  rw [this]
theorem bMul32 : BinR P .mul t x y (.int .u32 (n : Int)) (.int .u32 (m : Int)) (.int .u32 ((n * m % 4294967296 : Nat) : Int)) := fun w => by
  have : (do eqGuard .mul t x y (.int .u32 (n : Int)) (.int .u32 (m : Int)); binOp .mul t (.int .u32 (n : Int)) (.int .u32 (m : Int)) : Sem Value).run P w = .ok (.int .u32 (IntKind.u32.wrap ((n : Int) * (m : Int)))) w := by simp [eqGuard, binOp, Op.intArith, go_sem]
  rw [this, ← Int.natCast_mul, u32wrap]
  rfl
theorem bSub32 (h : m ≤ n) (hn : n < 4294967296) : BinR P .sub t x y (.int .u32 (n : Int)) (.int .u32 (m : Int)) (.int .u32 ((n - m : Nat) : Int)) := fun w => by
  have : (do eqGuard .sub t x y (.int .u32 (n : Int)) (.int .u32 (m : Int)); binOp .sub t (.int .u32 (n : Int)) (.int .u32 (m : Int)) : Sem Value).run P w = .ok (.int .u32 (IntKind.u32.wrap ((n : Int) - (m : Int)))) w := by simp [eqGuard, binOp, Op.intArith, go_sem]
  rw [this, u32wrap]
  have e : ((n : Int) - (m : Int)) % 4294967296 = ((n - m : Nat) : Int) := by omega
  rw [e]
theorem bShr27 : BinR P .shr t x y (.int .u32 (n : Int)) (.int .u64 27) (.int .u32 ((n / 134217728 : Nat) : Int)) := fun w => by
  have h2 : Op.shift .shr .u32 (n : Int) .u64 27 = pure (.int .u32 ((n : Int) / 2 ^ (27 : Int).toNat)) := shift_shr .u32 .u64 (n : Int) 27 (by omega) (by decide)
  simp only [eqGuard_shr, binOp_shr, h2]
  rfl
variable {l : List Oper} {Q : Exit → Act → World → Prop} {N : Nat} {a : Act} {env : List (Nat × Value)} {rest : List Oper} {d : Tmp} {ty : TypeId} {pos : String} {af : Array Edge} {g : Option (Nat × Bool)} {w : World}
theorem rNeg32 (F : Has N a env) (hx : ev env x = some (.int .u32 (n : Int))) (h : 0 < n ∧ n < 4294967296) : (execOp a.eval ⟨some d, .unOp .neg t x, ty, pos, af, g⟩).run P w = .ok (.value (.int .u32 ((4294967296 - n : Nat) : Int))) w := by
  have h1 : (Op.unary .neg (.int .u32 (n : Int))).run P w = .ok (.int .u32 (IntKind.u32.wrap (0 - (n : Int)))) w := by simp [Op.unary, Op.intArith, go_sem]
  have e : IntKind.u32.wrap (0 - (n : Int)) = ((4294967296 - n : Nat) : Int) := by rw [u32wrap]; omega
  rw [e] at h1
  simp only [execOp, F.eval hx, Sem.run_bind, h1]
  rfl
theorem sNeg32 (F : Has N a env) (hg : wants l env g = true) (hN : Nat.blt d N = true) (hx : ev env x = some (.int .u32 (n : Int))) (h : 0 < n ∧ n < 4294967296)
    (K : ∀ a, Has N a ((d, .int .u32 ((4294967296 - n : Nat) : Int)) :: env) → wpList P l.toArray Q rest a w) : wpList P l.toArray Q (⟨some d, .unOp .neg t x, ty, pos, af, g⟩ :: rest) a w :=
  stepV F hg rfl hN (rNeg32 F hx h) K
end
/-- Trailing zeros of a number of so many bits. -/
def tzF : Nat → Nat → Nat
  | 0, _ => 0
  | f + 1, n => if n % 2 = 1 then 0 else tzF f (n / 2) + 1
def tzN (n : Nat) : Nat := tzF 32 n
theorem and_odd (a b : Nat) : (2 * a + 1) &&& (2 * b + 1) = 2 * (a &&& b) + 1 := by
  refine Nat.eq_of_testBit_eq fun i => ?_
  rw [Nat.testBit_and]
  cases i with
  | zero => simp [Nat.testBit_zero]
  | succ i =>
    rw [Nat.testBit_succ, Nat.testBit_succ, Nat.testBit_succ, show (2 * a + 1) / 2 = a by omega, show (2 * b + 1) / 2 = b by omega, show (2 * (a &&& b) + 1) / 2 = a &&& b by omega, Nat.testBit_and]
theorem and_even (a b : Nat) : (2 * a) &&& (2 * b) = 2 * (a &&& b) := by
  refine Nat.eq_of_testBit_eq fun i => ?_
  rw [Nat.testBit_and]
  cases i with
  | zero => simp [Nat.testBit_zero]
  | succ i =>
    rw [Nat.testBit_succ, Nat.testBit_succ, Nat.testBit_succ, show 2 * a / 2 = a by omega, show 2 * b / 2 = b by omega, show 2 * (a &&& b) / 2 = a &&& b by omega, Nat.testBit_and]
theorem and_compl {w m : Nat} (h : m < 2 ^ w) : m &&& (2 ^ w - (m + 1)) = 0 := by
  refine Nat.eq_of_testBit_eq fun i => ?_
  rw [Nat.testBit_and, Nat.testBit_two_pow_sub_succ h, Nat.zero_testBit]
  cases m.testBit i <;> simp
theorem low_bit : ∀ (w n : Nat), 0 < n → n < 2 ^ w → n &&& (2 ^ w - n) = 2 ^ tzF w n ∧ tzF w n < w
  | 0, n, h0, h => by simp at h; omega
  | w + 1, n, h0, h => by
    have hp : 2 ^ (w + 1) = 2 * 2 ^ w := by rw [Nat.pow_succ, Nat.mul_comm]
    rw [hp] at h ⊢
    unfold tzF
    split
    next ho =>
      obtain ⟨m, rfl⟩ : ∃ m, n = 2 * m + 1 := ⟨n / 2, by omega⟩
      rw [show 2 * 2 ^ w - (2 * m + 1) = 2 * (2 ^ w - (m + 1)) + 1 by omega, and_odd, and_compl (by omega)]
      exact ⟨rfl, by omega⟩
    next ho =>
      obtain ⟨m, rfl⟩ : ∃ m, n = 2 * m := ⟨n / 2, by omega⟩
      have ih := low_bit w m (by omega) (by omega)
      rw [show 2 * 2 ^ w - 2 * m = 2 * (2 ^ w - m) by omega, and_even, show 2 * m / 2 = m by omega, ih.1, Nat.pow_succ, Nat.mul_comm]
      exact ⟨rfl, by omega⟩
theorem low32 {n : Nat} (h0 : 0 < n) (h : n < 4294967296) : n &&& (4294967296 - n) = 2 ^ tzN n ∧ tzN n < 32 := low_bit 32 n h0 h
def tabL : List Nat := [0, 1, 28, 2, 29, 14, 24, 3, 30, 22, 20, 15, 25, 17, 4, 8, 31, 27, 13, 23, 21, 19, 16, 7, 26, 12, 18, 6, 11, 5, 10, 9]
def tabB (i : Nat) : UInt8 := UInt8.ofNat (tabL.getD i 0)
theorem tab_at : ∀ k, k < 32 → (tabB (2 ^ k * 125613361 % 4294967296 / 134217728)).toNat = k := by decide
def TabAt (w : World) : Prop := ∀ i, i < 32 → w.cell? ⟨0, i, none⟩ = some (b8 (tabB i))
theorem TabAt.own {w0 w : World} {rs : List Res} (hN : TabAt w0) (H : Own w0 none w rs) : TabAt w := fun i hi => H.arg (hN i hi)
theorem TabAt.at {w : World} (h : TabAt w) (i : Nat) (hi : i < 32) : w.cell? ⟨0, 0 + i * 1, none⟩ = some (b8 (tabB i)) := by
  rw [Nat.zero_add, Nat.mul_one]; exact h i hi
theorem tz_any (n : Nat) (w0 : World) (hn : n < 4294967296) (h0 : 0 < n) (hT : TabAt w0) :
    Calls Tryd.prog 63 #[u32 n] w0 fun e w' => e = .returned (.int .i64 (tzN n : Int)) ∧ Below w0.heap.size w0 w' := by
  have H := Own.start w0 none
  obtain ⟨h1, h2⟩ := low32 h0 hn
  have h3 := tab_at _ h2
  refine enterF Tryd.func63 rfl Tryd.ntmps63 rfl (fun a F => ?_)
  refine cSeq (fun K1 hK1 => ?_)
  refine cReg ?_
  refine sAs F rfl rfl rfl ?_;clear F a;intro a F
  refine sNil ?_
  refine hK1 _ _ ?_; clear hK1
  refine cSeq (fun K2 hK2 => ?_)
  refine cSeq (fun K3 hK3 => ?_)
  refine cReg ?_
  refine sMv F rfl rfl rfl ?_;clear F a;intro a F
  refine sBin F rfl rfl rfl rfl bEql ?_;clear F a;intro a F
  refine sNil ?_
  refine hK3 _ _ ?_; clear hK3
  refine cIf F rfl (fun h4 => ?_) (fun h4 => ?_)
  ·
   replace h4 := beqT h4
   omega
  replace h4 := beqF h4
  refine wp_skip ?_
  refine hK2 _ _ ?_; clear hK2
  refine cSeq (fun K4 hK4 => ?_)
  refine cReg ?_
  refine sMv F rfl rfl rfl ?_;clear F a;intro a F
  refine sMv F rfl rfl rfl ?_;clear F a;intro a F
  refine sNeg32 F rfl rfl rfl ?_ ?_
  focus exact ⟨h0, hn⟩
  clear F a; intro a F
  refine sBin F rfl rfl rfl rfl (bAnd32 (n := n) (m := 4294967296 - n) hn (by omega)) ?_;clear F a;intro a F
  refine sBin F rfl rfl rfl rfl (bMul32 (m := 125613361)) ?_;clear F a;intro a F
  refine sBin F rfl rfl rfl rfl bShr27 ?_;clear F a;intro a F
  refine sIa Tryd.underlying145 Tryd.sizeOf5 F rfl rfl rfl rfl ?_ ?_
  focus (rw [h1]; omega)
  clear F a; intro a F
  refine sLd Tryd.isAgg5 F rfl rfl rfl (H.arg (hT.at _ (by rw [h1]; omega))) ?_;clear F a;intro a F
  refine sCv Tryd.underlying5 Tryd.underlying3 F rfl rfl rfl (wrapB _) ?_;clear F a;intro a F
  refine sAs F rfl rfl rfl ?_;clear F a;intro a F
  refine sNil ?_
  refine hK4 _ _ ?_; clear hK4
  refine wp_ret ?_
  refine bRet Tryd.results63 F rfl ?_
  rw [h1, h3]
  exact ⟨rfl, H.below⟩
end Go.Proofs.YtklpiodciblabaaDoor
