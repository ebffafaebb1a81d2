/-
  WALK2. Package path: the trailing zeros of a number (by math/bits' table), pairs. Conditions: the table lies in memory; the sets lie in a row.
-/
import Derived.Test.YtklpiodciblabaaGreatDoorPaE
import Derived.Test.YtklpiodciblabaaGreatDoorVm1
set_option linter.unusedSimpArgs false
set_option linter.unusedVariables false
namespace Go.Proofs.YtklpiodciblabaaGreatDoor
-- PaF
open Go.RowKit
set_option maxRecDepth 100000
section
variable {P : Program} {t : TypeId} {x y : Operand} {n m : Nat}
theorem bAnd32 (hn : n < 4294967296) (hm : m < 4294967296) : BinR P .and t x y (.int .u32 (n : Int)) (.int .u32 (m : Int)) (.int .u32 ((n &&& m : Nat) : Int)) := fun w => by
  have h : n &&& m < 4294967296 := Nat.lt_of_le_of_lt Nat.and_le_left hn
  simp only [eqGuard, binOp, Op.intBits, go_sem]
  show Result.ok (Value.int .u32 (IntKind.u32.wrap ((BitVec.ofInt 32 (n : Int) &&& BitVec.ofInt 32 (m : Int)).toNat : Int))) w = _
  have e1 : (BitVec.ofInt 32 (n : Int) &&& BitVec.ofInt 32 (m : Int)).toNat = n &&& m := by
    rw [BitVec.toNat_and, BitVec.ofInt_natCast, BitVec.ofInt_natCast, BitVec.toNat_ofNat, BitVec.toNat_ofNat, Nat.mod_eq_of_lt hn, Nat.mod_eq_of_lt hm]
  rw [e1, u32wrap]
  have : ((n &&& m : Nat) : Int) % 4294967296 = ((n &&& m : Nat) : Int) := by omega
  rw [this]
theorem bMul32 : BinR P .mul t x y (.int .u32 (n : Int)) (.int .u32 (m : Int)) (.int .u32 ((n * m % 4294967296 : Nat) : Int)) := fun w => by
  have : (do eqGuard .mul t x y (.int .u32 (n : Int)) (.int .u32 (m : Int)); binOp .mul t (.int .u32 (n : Int)) (.int .u32 (m : Int)) : Sem Value).run P w = .ok (.int .u32 (IntKind.u32.wrap ((n : Int) * (m : Int)))) w := by simp [eqGuard, binOp, Op.intArith, go_sem]
  rw [this, ← Int.natCast_mul, u32wrap]
  rfl
theorem bSub32 (h : m ≤ n) (hn : n < 4294967296) : BinR P .sub t x y (.int .u32 (n : Int)) (.int .u32 (m : Int)) (.int .u32 ((n - m : Nat) : Int)) := fun w => by
  have : (do eqGuard .sub t x y (.int .u32 (n : Int)) (.int .u32 (m : Int)); binOp .sub t (.int .u32 (n : Int)) (.int .u32 (m : Int)) : Sem Value).run P w = .ok (.int .u32 (IntKind.u32.wrap ((n : Int) - (m : Int)))) w := by simp [eqGuard, binOp, Op.intArith, go_sem]
  rw [this, u32wrap]
  have e : ((n : Int) - (m : Int)) % 4294967296 = ((n - m : Nat) : Int) := by omega
  rw [e]
theorem bShr27 : BinR P .shr t x y (.int .u32 (n : Int)) (.int .u64 27) (.int .u32 ((n / 134217728 : Nat) : Int)) := fun w => by
  have h2 : Op.shift .shr .u32 (n : Int) .u64 27 = pure (.int .u32 ((n : Int) / 2 ^ (27 : Int).toNat)) := shift_shr .u32 .u64 (n : Int) 27 (by omega) (by decide)
  simp only [eqGuard_shr, binOp_shr, h2]
  rfl
variable {l : List Oper} {Q : Exit → Act → World → Prop} {N : Nat} {a : Act} {env : List (Nat × Value)} {rest : List Oper} {d : Tmp} {ty : TypeId} {pos : String} {af : Array Edge} {g : Option (Nat × Bool)} {w : World}
theorem rNeg32 (F : Has N a env) (hx : ev env x = some (.int .u32 (n : Int))) (h : 0 < n ∧ n < 4294967296) : (execOp a.eval ⟨some d, .unOp .neg t x, ty, pos, af, g⟩).run P w = .ok (.value (.int .u32 ((4294967296 - n : Nat) : Int))) w := by
  have h1 : (Op.unary .neg (.int .u32 (n : Int))).run P w = .ok (.int .u32 (IntKind.u32.wrap (0 - (n : Int)))) w := by simp [Op.unary, Op.intArith, go_sem]
  have e : IntKind.u32.wrap (0 - (n : Int)) = ((4294967296 - n : Nat) : Int) := by rw [u32wrap]; omega
  rw [e] at h1
  simp only [execOp, F.eval hx, Sem.run_bind, h1]
  rfl
theorem sNeg32 (F : Has N a env) (hg : wants l env g = true) (hN : Nat.blt d N = true) (hx : ev env x = some (.int .u32 (n : Int))) (h : 0 < n ∧ n < 4294967296)
    (K : ∀ a, Has N a ((d, .int .u32 ((4294967296 - n : Nat) : Int)) :: env) → wpList P l.toArray Q rest a w) : wpList P l.toArray Q (⟨some d, .unOp .neg t x, ty, pos, af, g⟩ :: rest) a w :=
  stepV F hg rfl hN (rNeg32 F hx h) K
end
def tzF : Nat → Nat → Nat
  | 0, _ => 0
  | f + 1, n => if n % 2 = 1 then 0 else tzF f (n / 2) + 1
def tzN (n : Nat) : Nat := tzF 32 n
theorem and_odd (a b : Nat) : (2 * a + 1) &&& (2 * b + 1) = 2 * (a &&& b) + 1 := by
  refine Nat.eq_of_testBit_eq fun i => ?_
  rw [Nat.testBit_and]
  cases i with
  | zero => simp [Nat.testBit_zero]
  | succ i =>
    rw [Nat.testBit_succ, Nat.testBit_succ, Nat.testBit_succ, show (2 * a + 1) / 2 = a by omega, show (2 * b + 1) / 2 = b by omega, show (2 * (a &&& b) + 1) / 2 = a &&& b by omega, Nat.testBit_and]
theorem and_even (a b : Nat) : (2 * a) &&& (2 * b) = 2 * (a &&& b) := by
  refine Nat.eq_of_testBit_eq fun i => ?_
  rw [Nat.testBit_and]
  cases i with
  | zero => simp [Nat.testBit_zero]
  | succ i =>
    rw [Nat.testBit_succ, Nat.testBit_succ, Nat.testBit_succ, show 2 * a / 2 = a by omega, show 2 * b / 2 = b by omega, show 2 * (a &&& b) / 2 = a &&& b by omega, Nat.testBit_and]
theorem and_compl {w m : Nat} (h : m < 2 ^ w) : m &&& (2 ^ w - (m + 1)) = 0 := by
  refine Nat.eq_of_testBit_eq fun i => ?_
  rw [Nat.testBit_and, Nat.testBit_two_pow_sub_succ h, Nat.zero_testBit]
  cases m.testBit i <;> simp
theorem low_bit : ∀ (w n : Nat), 0 < n → n < 2 ^ w → n &&& (2 ^ w - n) = 2 ^ tzF w n ∧ tzF w n < w
  | 0, n, h0, h => by simp at h; omega
  | w + 1, n, h0, h => by
    have hp : 2 ^ (w + 1) = 2 * 2 ^ w := by rw [Nat.pow_succ, Nat.mul_comm]
    rw [hp] at h ⊢
    unfold tzF
    split
    next ho =>
      obtain ⟨m, rfl⟩ : ∃ m, n = 2 * m + 1 := ⟨n / 2, by omega⟩
      rw [show 2 * 2 ^ w - (2 * m + 1) = 2 * (2 ^ w - (m + 1)) + 1 by omega, and_odd, and_compl (by omega)]
      exact ⟨rfl, by omega⟩
    next ho =>
      obtain ⟨m, rfl⟩ : ∃ m, n = 2 * m := ⟨n / 2, by omega⟩
      have ih := low_bit w m (by omega) (by omega)
      rw [show 2 * 2 ^ w - 2 * m = 2 * (2 ^ w - m) by omega, and_even, show 2 * m / 2 = m by omega, ih.1, Nat.pow_succ, Nat.mul_comm]
      exact ⟨rfl, by omega⟩
theorem low32 {n : Nat} (h0 : 0 < n) (h : n < 4294967296) : n &&& (4294967296 - n) = 2 ^ tzN n ∧ tzN n < 32 := low_bit 32 n h0 h
def tabL : List Nat := [0, 1, 28, 2, 29, 14, 24, 3, 30, 22, 20, 15, 25, 17, 4, 8, 31, 27, 13, 23, 21, 19, 16, 7, 26, 12, 18, 6, 11, 5, 10, 9]
def tabB (i : Nat) : UInt8 := UInt8.ofNat (tabL.getD i 0)
theorem tab_at : ∀ k, k < 32 → (tabB (2 ^ k * 125613361 % 4294967296 / 134217728)).toNat = k := by decide
def TabAt (w : World) : Prop := ∀ i, i < 32 → w.cell? ⟨1, i, none⟩ = some (b8 (tabB i))
theorem TabAt.own {w0 w : World} {rs : List Res} (hN : TabAt w0) (H : Own w0 none w rs) : TabAt w := fun i hi => H.arg (hN i hi)
theorem TabAt.at {w : World} (h : TabAt w) (i : Nat) (hi : i < 32) : w.cell? ⟨1, 0 + i * 1, none⟩ = some (b8 (tabB i)) := by
  rw [Nat.zero_add, Nat.mul_one]; exact h i hi
theorem tz_any (n : Nat) (w0 : World) (hn : n < 4294967296) (h0 : 0 < n) (hT : TabAt w0) :
    Calls Tryz.prog 85 #[u32 n] w0 fun e w' => e = .returned (.int .i64 (tzN n : Int)) ∧ Below w0.heap.size w0 w' := by
  have H := Own.start w0 none
  obtain ⟨h1, h2⟩ := low32 h0 hn
  have h3 := tab_at _ h2
  refine enterF Tryz.func85 rfl Tryz.ntmps85 rfl (fun a F => ?_);refine cSR fun K1 hK1=>sAs F rfl rfl rfl (qNK hK1 ?_);clear hK1;clear F a;intro a F;refine cSeq (fun K2 hK2 => ?_);refine cSR fun K3 hK3=>sMv F rfl rfl rfl (qBin rfl rfl rfl rfl bEql (qNK hK3 ?_));clear hK3;clear F a;intro a F
  refine cIf F rfl (fun h4 => ?_) (fun h4 => ?_)
  ·
   replace h4 := beqT h4
   omega
  replace h4 := beqF h4;refine wp_skip (hK2 _ _ (cSR fun K4 hK4=>sMv F rfl rfl rfl (qMv rfl rfl rfl ?_)));clear hK2;clear F a;intro a F
  refine sNeg32 F rfl rfl rfl ?_ ?_
  focus exact ⟨h0, hn⟩
  clear F a; intro a F;refine sBin F rfl rfl rfl rfl (bAnd32 (n := n) (m := 4294967296 - n) hn (by omega)) (qBin rfl rfl rfl rfl (bMul32 (m := 125613361)) (qBin rfl rfl rfl rfl bShr27 ?_));clear F a;intro a F
  refine sIa Tryz.underlying165 Tryz.sizeOf5 F rfl rfl rfl rfl ?_ ?_
  focus (rw [h1]; omega)
  clear F a; intro a F;refine sLd Tryz.isAgg5 F rfl rfl rfl (H.arg (hT.at _ (by rw [h1]; omega))) (qCv Tryz.underlying5 Tryz.underlying3 rfl rfl rfl (wrapB _) (qAs rfl rfl rfl (qNK hK4 ?_)));clear hK4;clear F a;intro a F;refine wp_ret ?_;refine bRet Tryz.results85 F rfl ?_;rw [h1, h3]
  exact ⟨rfl, H.below⟩
-- PaG
open Go.RowKit
set_option maxRecDepth 100000
def bitsF : Nat → Nat → List Nat
  | 0, _ => []
  | f + 1, n => if n = 0 then [] else tzN n :: bitsF f (n &&& (n - 1))
def bitsL (n : Nat) : List Nat := bitsF n n
theorem and_pred (n : Nat) : n &&& (n - 1) ≤ n - 1 := Nat.and_le_right
theorem bitsF_succ (f n : Nat) : bitsF (f + 1) n = if n = 0 then [] else tzN n :: bitsF f (n &&& (n - 1)) := rfl
theorem bitsF_more : ∀ (f n : Nat), n ≤ f → bitsF f n = bitsL n := by
  intro f
  induction f using Nat.strongRecOn with
  | _ f ih =>
    intro n h
    rcases Nat.eq_zero_or_pos n with h0 | h0
    · subst h0
      unfold bitsL
      cases f with
      | zero => rfl
      | succ f => rfl
    · obtain ⟨k, rfl⟩ : ∃ k, f = k + 1 := ⟨f - 1, by omega⟩
      obtain ⟨m, rfl⟩ : ∃ m, n = m + 1 := ⟨n - 1, by omega⟩
      have hp : (m + 1) &&& (m + 1 - 1) ≤ m := and_pred (m + 1)
      have e : bitsL (m + 1) = bitsF (m + 1) (m + 1) := rfl
      rw [e, bitsF_succ, bitsF_succ, if_neg (by omega), if_neg (by omega)]
      generalize (m + 1) &&& (m + 1 - 1) = q at hp ⊢
      rw [ih k (by omega) q (by omega)]
      rcases Nat.lt_or_ge m (k + 1) with h1 | h1
      · rw [ih m h1 q hp]
      · omega
theorem bits_zero : bitsL 0 = [] := rfl
theorem bits_pos {n : Nat} (h : 0 < n) : bitsL n = tzN n :: bitsL (n &&& (n - 1)) := by
  obtain ⟨m, rfl⟩ : ∃ m, n = m + 1 := ⟨n - 1, by omega⟩
  have hp : (m + 1) &&& (m + 1 - 1) ≤ m := and_pred (m + 1)
  have e : bitsL (m + 1) = bitsF (m + 1) (m + 1) := rfl
  rw [e, bitsF_succ, if_neg (by omega), bitsF_more m _ hp]
theorem bits_len : ∀ n, (bitsL n).length ≤ n := by
  intro n
  induction n using Nat.strongRecOn with
  | _ n ih =>
    rcases Nat.eq_zero_or_pos n with h0 | h0
    · subst h0; exact Nat.le_refl _
    · have h1 := and_pred n
      rw [bits_pos h0, List.length_cons]
      have := ih (n &&& (n - 1)) (by omega)
      omega
abbrev Pr := UInt8 × UInt8
def prC (q : Pr) : List Value := [b8 q.1, b8 q.2]
def pairOf (i k : Nat) : Pr := (UInt8.ofNat k, UInt8.ofNat i)
def rowP (i n : Nat) : List Pr := (bitsL n).map (pairOf i)
def pairsP (f : Nat → Nat) : Nat → List Pr
  | 0 => []
  | n + 1 => pairsP f n ++ rowP n (f n)
theorem rowP_pos {i n : Nat} (h : 0 < n) : rowP i n = pairOf i (tzN n) :: rowP i (n &&& (n - 1)) := by
  unfold rowP
  rw [bits_pos h]
  rfl
theorem rowP_len (i n : Nat) : (rowP i n).length ≤ n := by unfold rowP; rw [List.length_map]; exact bits_len n
theorem pairsP_len {f : Nat → Nat} (hf : ∀ k, f k < 4294967296) : ∀ n, (pairsP f n).length ≤ 4294967296 * n
  | 0 => Nat.le_refl _
  | n + 1 => by
    have h1 := pairsP_len hf n
    have h2 := rowP_len n (f n)
    have h3 := hf n
    unfold pairsP
    rw [List.length_append]
    omega
theorem pairs_any (b o C n : Nat) (f : Nat → Nat) (w0 : World) (hT : TabAt w0) (hn : n ≤ 24) (hf : ∀ k, f k < 4294967296) (hS : ∀ k, k < n → w0.cell? ⟨b, o + k, none⟩ = some (u32 (f k))) :
    Calls Tryz.prog 44 #[.slice (some ⟨b, o, none⟩) n C] w0 fun e w' => ∃ A c, e = .returned (.slice A (pairsP f n).length c) ∧ Own w0 none w' [.rws 38 2 (.slice A (pairsP f n).length c) ((pairsP f n).map prC)] := by
  have H := Own.start w0 none
  have hlen := pairsP_len hf
  refine enterF Tryz.func44 rfl Tryz.ntmps44 rfl (fun a F => ?_);refine cSR fun K1 hK1=>sAs F rfl rfl rfl (qNK hK1 (qSR fun K2 hK2=>qAs rfl rfl rfl ?_));clear hK1;clear F a;intro a F
  replace H := H.nilRws 38 2
  refine nK hK2 ?_;clear hK2;refine cSeq (fun K3 hK3 => ?_);refine cSR fun K4 hK4=>sMv F rfl rfl rfl (qLen Tryz.underlying111 rfl rfl rfl (qMv rfl rfl rfl (qNK hK4 ?_)));clear hK4;clear F a;intro a F;refine wp_block ?_
  refine cLoopR [6, 7] (fun m ups w => ∃ (j : Nat) (A3 : Option Addr) (c3 : Nat), m = n - j ∧ ups = [(3, .slice A3 (pairsP f j).length c3), (8, .int .i64 ((j : Nat) : Int))] ∧ j ≤ n ∧ Own w0 none w [.rws 38 2 (.slice A3 (pairsP f j).length c3) ((pairsP f j).map prC)]) F (n) [(3, .slice none 0 0), (8, .int .i64 ((0 : Nat) : Int))] (by repeat (first | exact SubR.nil | (apply SubR.cons; · rfl))) ?_ ?_ ?_
  · exact ⟨0, none, 0, rfl, rfl, Nat.zero_le _, H⟩
  · repeat (first | exact trivial | refine Le.cons rfl ?_)
  clear F
  clear H
  intro m ups a w hI F
  obtain ⟨j, A3, c3, rfl, rfl, hj, H⟩ := hI
  refine cSR fun K5 hK5=>sBin F rfl rfl rfl rfl bLss (qNK hK5 ?_);clear hK5;clear F a;intro a F;refine cSeq (fun K6 hK6 => ?_)
  refine cIf F rfl (fun h9 => ?_) (fun h9 => ?_)
  ·
   replace h9 := of_decide_eq_true h9
   have hjn : j < n := by omega
   have hfj := hf j
   have hlj := hlen (j + 1)
   have hej : pairsP f (j + 1) = pairsP f j ++ rowP j (f j) := rfl
   refine wp_skip (hK6 _ _ ?_);clear hK6;refine cSeq (fun K7 hK7 => ?_);refine wp_block ?_;refine cSR fun K8 hK8=>sMv F rfl rfl rfl ?_;clear F a;intro a F
   refine sIx Tryz.underlying111 Tryz.sizeOf76 F rfl rfl rfl rfl ?_ ?_
   focus (first | omega | decide | (simp; omega))
   clear F a; intro a F;refine sLd Tryz.isAgg76 F rfl rfl rfl (show _ = some (u32 (f j)) from H.arg (by rw [Nat.mul_one]; exact hS j hjn)) (qAs rfl rfl rfl (qAs rfl rfl rfl (qNK hK8 ?_)));clear hK8;clear F a;intro a F;refine wp_block ?_
   refine cLoopR [4, 6, 7, 8] (fun m ups w => ∃ (s : Nat) (acc : List Pr) (rows : List (List Value)) (A3 : Option Addr) (c3 : Nat), s = m ∧ ups = [(3, .slice A3 rows.length c3), (5, .int .u32 ((s : Nat) : Int))] ∧ rows = acc.map prC ∧ s < 4294967296 ∧ acc ++ rowP j s = pairsP f (j + 1) ∧ Own w0 none w [.rws 38 2 (.slice A3 rows.length c3) rows]) F (f j) [(3, .slice A3 (pairsP f j).length c3), (5, .int .u32 ((f j : Nat) : Int))] (by repeat (first | exact SubR.nil | (apply SubR.cons; · rfl))) ?_ ?_ ?_
   · exact ⟨f j, pairsP f j, (pairsP f j).map prC, A3, c3, rfl, (by rw [List.length_map]), rfl, hfj, rfl, (by rw [List.length_map]; exact H)⟩
   · repeat (first | exact trivial | refine Le.cons rfl ?_)
   clear F
   clear H
   intro m ups a w hI F
   obtain ⟨s, acc, rows, A3, c3, rfl, rfl, hrows, hs, hacc, H⟩ := hI
   refine cSeq (fun K9 hK9 => ?_);refine cSR fun K10 hK10=>sMv F rfl rfl rfl (qBin rfl rfl rfl rfl bNeq (qNK hK10 ?_));clear hK10;clear F a;intro a F
   refine cIf F rfl (fun h14 => ?_) (fun h14 => ?_)
   ·
    replace h14 := bneT h14
    have hs0 : 0 < s := by omega
    have hrl : rows.length = acc.length := by rw [hrows, List.length_map]
    have hal : acc.length + (rowP j s).length = (pairsP f (j + 1)).length := by rw [← hacc, List.length_append]
    rw [rowP_pos hs0] at hacc hal;rw [List.length_cons] at hal;refine wp_skip (hK9 _ _ ?_);clear hK9;refine cSeq (fun K11 hK11 => ?_);refine wp_block ?_;refine cReg (sMv F rfl rfl rfl (qMv rfl rfl rfl ?_));clear F a;intro a F;refine sCall Tryz.call85 F rfl rfl rfl (tz_any s _ hs hs0 (hT.own H)) ?_;rintro e w ⟨rfl, hb⟩;replace H := H.grow hb; clear hb;refine ⟨_, rfl, ?_⟩;clear F a; intro a F;refine sCv Tryz.underlying3 Tryz.underlying5 F rfl rfl rfl (wrap8 _) (qMv rfl rfl rfl (qCv Tryz.underlying3 Tryz.underlying5 rfl rfl rfl (wrap8 _) (qBaB zB38 Tryz.underlying38 Tryz.sizeOf5 rfl rfl rfl (FillB.one rfl rfl (FillB.one rfl rfl FillB.nil)) ?_)));clear F a;intro a F;refine sBsA H Tryz.underlying25 Tryz.sizeOf38 Tryz.zeroValue38 rfl F rfl rfl rfl rfl rfl ?_;clear F a H; intro b26 a w F H
    refine sApp1 (bytes := 2) H 1 Tryz.underlying25 Tryz.typeInfo38 rfl rfl rfl rfl rfl rfl F rfl rfl rfl rfl rfl (H.whole 0 rfl) rfl ?s1 ?s2 ?_
    case s1 => first | rfl | (repeat (first | exact one_nil | (apply one_cons; · first | rfl | assumption | exact one_bif rfl rfl)))
    case s2 => omega
    clear F a H; intro A27 c27 a w F H;refine sAs F rfl rfl rfl (qNK hK11 (qReg (qMv rfl rfl rfl (qMv rfl rfl rfl (qBin rfl rfl rfl rfl (bSub32 (n := s) (m := 1) hs0 hs) (qBin rfl rfl rfl rfl (bAnd32 (n := s) (m := s - 1) hs (by omega)) (qAs rfl rfl rfl ?_)))))));clear hK11;clear F a;intro a F;refine sNil ?_
    (refine ⟨_, ?_, _, ⟨s &&& (s - 1), acc ++ [pairOf j (tzN s)], _, A27, c27, rfl, rfl, ?_, ?_, ?_, H.tail⟩, F.to (by repeat (first | exact trivial | refine Le.cons rfl ?_))⟩
     · have := and_pred s; omega
     · rw [List.map_append, ← hrows]; rfl
     · have := and_pred s; omega
     · rw [List.append_assoc]; exact hacc)
   replace h14 := bneF h14
   have hs0 : s = 0 := by omega
   rw [hs0] at hacc
   have hacc' : acc = pairsP f (j + 1) := by rw [← hacc]; exact (List.append_nil _).symm
   rw [hrows, List.length_map, hacc'] at F H;refine wp_exit ?_;refine hK7 _ _ (cReg ?_);clear hK7
   refine sBin F rfl rfl rfl rfl (bAddN (j := 1) ?_) ?_
   focus omega
   clear F a; intro a F;refine sMv F rfl rfl rfl ?_;clear F a;intro a F;refine sNil ?_
   (refine ⟨_, ?_, _, ⟨j + 1, A3, c3, rfl, rfl, hjn, H⟩, F.to (by repeat (first | exact trivial | refine Le.cons rfl ?_))⟩
    · omega)
  replace h9 := of_decide_eq_false h9
  have hjn : j = n := by omega
  subst hjn;refine wp_exit ?_;refine hK3 _ _ (cSR fun K12 hK12=>sMv F rfl rfl rfl (qAs rfl rfl rfl (qNK hK12 ?_)));clear hK3 hK12;clear F a;intro a F;refine wp_ret ?_;refine bRet Tryz.results44 F rfl ?_
  exact ⟨_, _, rfl, H⟩
-- PaH
open Go.Proofs.Tryz
open Go.RowKit
set_option maxRecDepth 100000
section
variable {P : Program} {l : List Oper} {Q : Exit → Act → World → Prop} {N : Nat} {a : Act} {env : List (Nat × Value)} {rest : List Oper} {d : Tmp} {ty : TypeId} {pos : String} {af : Array Edge} {g : Option (Nat × Bool)} {w : World}
theorem rSlAH {t e : TypeId} {x hi : Operand} {b o n j sz : Nat} {k : IntKind} (ht : P.underlying t = some (.array n e)) (hz : ∀ w, (sizeOf e).run P w = .ok sz w) (F : Has N a env) (hx : ev env x = some (.pointer (some ⟨b, o, none⟩))) (hh : ev env hi = some (.int k (j : Int))) (hj : j ≤ n) :
    (execOp a.eval ⟨some d, .slice t x none (some hi) none, ty, pos, af, g⟩).run P w = .ok (.value (.slice (some ⟨b, o, none⟩) j n)) w := by
  have he : P.elem t = e := by simp [Program.elem, ht]
  have hn : P.arrayLen t = n := by simp [Program.arrayLen, ht]
  have h1 := run_sliceAt_array_h (P := P) w t ⟨b, o, none⟩ (by rw [he, hn]; exact ht) k (j : Int) (by omega) (by rw [hn]; omega)
  rw [he, hz, hn] at h1
  simp only [execOp, Option.map_none, Option.map_some, F.eval hx, F.eval hh, Sem.run_bind, h1, Result.andThen_ok, slicedAt, Int.toNat_natCast, Sem.run_pure]
  split <;> simp [Addr.add]
end
theorem cloneE_any (b o C : Nat) (rows : List (List Value)) (w0 : World) (hR : RowsAt w0 (some ⟨b, o, none⟩) 7 rows) (hr : ∀ r ∈ rows, r.length = 7) (h1 : ∀ r ∈ rows, r.all (·.oneCell') = true) (hn : rows.length ≤ 1000000) :
    Calls Tryz.prog 43 #[.slice (some ⟨b, o, none⟩) rows.length C] w0 fun e w' => ∃ A2 c2, e = .returned (.slice A2 rows.length c2) ∧ Own w0 none w' [.rws 34 7 (.slice A2 rows.length c2) rows] := by
  have H := Own.start w0 none
  refine enterF func43 rfl ntmps43 rfl (fun a F => ?_);refine cSR fun K1 hK1=>sAs F rfl rfl rfl (qNK hK1 ?_);clear hK1;clear F a;intro a F;refine cSeq (fun K2 hK2 => ?_);refine cSR fun K3 hK3=>sMv F rfl rfl rfl (qBin rfl rfl rfl rfl (bNil underlying24) (qNK hK3 ?_));clear hK3;clear F a;intro a F
  refine cIf F rfl (fun h4 => ?_) (fun h4 => ?_)
  ·
   cases h4
  refine wp_skip (hK2 _ _ (cSR fun K4 hK4=>?_));clear hK2;refine sBs (cs := []) H underlying24 sizeOf34 zeroValue34 rfl F rfl rfl rfl rfl rfl ?_;clear F a H; intro b5 a w F H
  replace H := H.emptyRws 7
  refine sMv F rfl rfl rfl ?_;clear F a;intro a F;refine sAppM (bytes := 16) H 0 underlying24 typeInfo34 rfl rfl rfl rfl rfl rfl F rfl rfl rfl rfl rfl (by first | rfl | simp) (((hR.own H).flat hr)) (hr) (h1) ((by simp only [List.length_nil]; omega)) ?_;clear F a H; intro A7 c7 a w F H;refine sAs F rfl rfl rfl (qNK hK4 ?_);clear hK4;clear F a;intro a F;refine wp_ret ?_;refine bRet results43 F rfl ?_
  simp only [List.nil_append] at H
  exact ⟨_, _, rfl, H.pick 0 rfl⟩
def evsP (r : RunP) : List Ev := (List.range r.many).map r.ev
theorem evs_len (r : RunP) : (evsP r).length = r.many := by unfold evsP; rw [List.length_map, List.length_range]
theorem cell_ev (r : RunP) {k j : Nat} (hk : k < 24) (hj : j < 7) : r.cells[19 + k * 7 + j]? = some ((r.ev k).cell j) := by
  rw [r.get (by omega), cell_hi _ (by omega), if_pos (by omega), show (19 + k * 7 + j - 19) / 7 = k by omega, show (19 + k * 7 + j - 19) % 7 = j by omega]
theorem evs_rows {w : World} {b : Nat} {r : RunP} (hB : RunAt w b r) (hm : r.many ≤ 24) : RowsAt w (some ⟨b, 19, none⟩) 7 ((evsP r).map Ev.cells) := fun j cs hj => by
  unfold evsP at hj
  rw [List.map_map, List.getElem?_map] at hj
  have hjm : j < r.many := by
    rcases Nat.lt_or_ge j r.many with h | h
    · exact h
    · rw [List.getElem?_eq_none (by rw [List.length_range]; exact h)] at hj; cases hj
  rw [List.getElem?_range hjm] at hj
  obtain rfl := Option.some.inj hj
  refine ⟨b, 19, rfl, fun i v hv => ?_⟩
  have hi : i < 7 := (List.getElem?_eq_some_iff.1 hv).1
  have e : (r.ev j).cells[i]? = some v := hv
  rw [Ev.cells_at _ hi] at e
  obtain rfl := Option.some.inj e
  exact hB.cell _ (cell_ev r (by omega) hi)
def pathCells (A1 : Option Addr) (c1 : Nat) (A2 : Option Addr) (c2 : Nat) (A3 : Option Addr) (c3 : Nat) (A4 : Option Addr) (c4 : Nat) (r : RunP) : List Value :=
  [.slice A1 r.many c1, .slice A2 (pairsP r.data r.many).length c2, .slice A3 (pairsP r.ctrl r.many).length c3, .slice A4 (pairsP r.att r.many).length c4, b8 (r.regs 0), b8 (r.regs 1), b8 (r.regs 2), b8 (r.regs 3), b8 (r.regs 4), b8 (r.regs 5), b8 (r.regs 6), b8 (r.regs 7)]
theorem regs_range {w : World} {b : Nat} {r : RunP} (hB : RunAt w b r) : w.rangeAt b 1 (bs 8 r.regs) := fun j v hv => by
  have hj : j < 8 := by have := (List.getElem?_eq_some_iff.1 hv).1; rwa [bs_length] at this
  have e : (bs 8 r.regs)[j]? = some (b8 (r.regs j)) := by unfold bs; rw [List.getElem?_map, List.getElem?_range hj]; rfl
  rw [e] at hv
  obtain rfl := Option.some.inj hv
  exact hB.cell _ (cell_reg r hj)
def pathRes (A1 : Option Addr) (c1 : Nat) (A2 : Option Addr) (c2 : Nat) (A3 : Option Addr) (c3 : Nat) (A4 : Option Addr) (c4 : Nat) (r : RunP) : List Res :=
  [.rws 34 7 (.slice A1 r.many c1) ((evsP r).map Ev.cells), .rws 38 2 (.slice A2 (pairsP r.data r.many).length c2) ((pairsP r.data r.many).map prC), .rws 38 2 (.slice A3 (pairsP r.ctrl r.many).length c3) ((pairsP r.ctrl r.many).map prC), .rws 38 2 (.slice A4 (pairsP r.att r.many).length c4) ((pairsP r.att r.many).map prC)]
set_option maxHeartbeats 2000000 in
theorem path_any (b : Nat) (r : RunP) (w0 : World) (hB : RunAt w0 b r) (hT : TabAt w0) (hm : r.many ≤ 24) (hs : SetsOk r) :
    Calls Tryz.prog 30 #[.pointer (some ⟨b, 0, none⟩)] w0 fun e w' => ∃ A1 c1 A2 c2 A3 c3 A4 c4, e = .returned (.agg (pathCells A1 c1 A2 c2 A3 c3 A4 c4 r).toArray) ∧ Own w0 none w' (pathRes A1 c1 A2 c2 A3 c3 A4 c4 r) := by
  have H := Own.start w0 none
  have hW : w0.rangeAt b 0 r.cells := blk_whole hB
  have hM : w0.cell? ⟨b, 18, none⟩ = some (Value.int .i64 (r.many : Int)) := hB.cell _ (cell_many r)
  have hE := evs_rows hB hm
  have hel := evs_len r
  have hcl := cloneE_any b 19 24 ((evsP r).map Ev.cells)
  rw [List.length_map, hel] at hcl;refine enterF func30 rfl ntmps30 rfl (fun a F => ?_);refine cSR fun K1 hK1=>?_;refine sAl H zeroValue28 F rfl rfl ?_;clear F a H; intro b2 a w F H;refine nK hK1 ?_;clear hK1;refine cSeq (fun K2 hK2 => ?_);refine cRegRO (by kernel_rfl) H ?_;replace H := H.drew;refine eTF 0 rfl (by kernel_rfl) F rfl rfl rfl (fun w=>rMv F rfl) H qq0 (qT 1 rfl (by kernel_rfl) rfl rfl rfl rfl (fun a F w H=>rNc F rfl) H qq0 (qTF 2 rfl (by kernel_rfl) rfl rfl rfl (fun a F w=>rFa (f := 5) (k := 19) underlying81 rfl sizeOf78 rfl rfl F rfl) H qq0 (qTF 3 rfl (by kernel_rfl) rfl rfl rfl (fun a F w=>rMv F rfl) H qq0 (qT 4 rfl (by kernel_rfl) rfl rfl rfl rfl (fun a F w H=>rNc F rfl) H qq0 (qTF 5 rfl (by kernel_rfl) rfl rfl rfl (fun a F w=>rFa (f := 4) (k := 18) underlying81 rfl sizeOf3 rfl rfl F rfl) H qq0 (qT 6 rfl (by kernel_rfl) rfl rfl rfl rfl (fun a F w H=>rLd isAgg3 F rfl (H.arg hM)) H qq0 ?_))))));clear F a;intro a F
  refine eTake (k := 7) (i := 7) rfl (by kernel_rfl) F rfl rfl rfl rfl (fun w H => rSlAH underlying78 sizeOf34 F rfl rfl ?_) H (fun _ _ _ h => h) ?_
  focus (first | omega | decide | (simp; omega))
  clear F a; intro a F;refine eTF 9 rfl (by kernel_rfl) F rfl rfl rfl (fun w=>rMv F rfl) H qq0 (qT 10 rfl (by kernel_rfl) rfl rfl rfl rfl (fun a F w H=>rNc F rfl) H qq0 (qTF 11 rfl (by kernel_rfl) rfl rfl rfl (fun a F w=>rFa (f := 6) (k := 187) underlying81 rfl sizeOf79 rfl rfl F rfl) H qq0 (qTF 12 rfl (by kernel_rfl) rfl rfl rfl (fun a F w=>rMv F rfl) H qq0 (qT 13 rfl (by kernel_rfl) rfl rfl rfl rfl (fun a F w H=>rNc F rfl) H qq0 (qTF 14 rfl (by kernel_rfl) rfl rfl rfl (fun a F w=>rFa (f := 4) (k := 18) underlying81 rfl sizeOf3 rfl rfl F rfl) H qq0 (qT 15 rfl (by kernel_rfl) rfl rfl rfl rfl (fun a F w H=>rLd isAgg3 F rfl (H.arg hM)) H qq0 ?_))))));clear F a;intro a F
  refine eTake (k := 15) (i := 16) rfl (by kernel_rfl) F rfl rfl rfl rfl (fun w H => rSlAH underlying79 sizeOf76 F rfl rfl ?_) H (fun _ _ _ h => h) ?_
  focus (first | omega | decide | (simp; omega))
  clear F a; intro a F;refine eTF 18 rfl (by kernel_rfl) F rfl rfl rfl (fun w=>rMv F rfl) H qq0 (qT 19 rfl (by kernel_rfl) rfl rfl rfl rfl (fun a F w H=>rNc F rfl) H qq0 (qTF 20 rfl (by kernel_rfl) rfl rfl rfl (fun a F w=>rFa (f := 7) (k := 211) underlying81 rfl sizeOf79 rfl rfl F rfl) H qq0 (qTF 21 rfl (by kernel_rfl) rfl rfl rfl (fun a F w=>rMv F rfl) H qq0 (qT 22 rfl (by kernel_rfl) rfl rfl rfl rfl (fun a F w H=>rNc F rfl) H qq0 (qTF 23 rfl (by kernel_rfl) rfl rfl rfl (fun a F w=>rFa (f := 4) (k := 18) underlying81 rfl sizeOf3 rfl rfl F rfl) H qq0 (qT 24 rfl (by kernel_rfl) rfl rfl rfl rfl (fun a F w H=>rLd isAgg3 F rfl (H.arg hM)) H qq0 ?_))))));clear F a;intro a F
  refine eTake (k := 23) (i := 25) rfl (by kernel_rfl) F rfl rfl rfl rfl (fun w H => rSlAH underlying79 sizeOf76 F rfl rfl ?_) H (fun _ _ _ h => h) ?_
  focus (first | omega | decide | (simp; omega))
  clear F a; intro a F;refine eTF 27 rfl (by kernel_rfl) F rfl rfl rfl (fun w=>rMv F rfl) H qq0 (qT 28 rfl (by kernel_rfl) rfl rfl rfl rfl (fun a F w H=>rNc F rfl) H qq0 (qTF 29 rfl (by kernel_rfl) rfl rfl rfl (fun a F w=>rFa (f := 8) (k := 235) underlying81 rfl sizeOf79 rfl rfl F rfl) H qq0 (qTF 30 rfl (by kernel_rfl) rfl rfl rfl (fun a F w=>rMv F rfl) H qq0 (qT 31 rfl (by kernel_rfl) rfl rfl rfl rfl (fun a F w H=>rNc F rfl) H qq0 (qTF 32 rfl (by kernel_rfl) rfl rfl rfl (fun a F w=>rFa (f := 4) (k := 18) underlying81 rfl sizeOf3 rfl rfl F rfl) H qq0 (qT 33 rfl (by kernel_rfl) rfl rfl rfl rfl (fun a F w H=>rLd isAgg3 F rfl (H.arg hM)) H qq0 ?_))))));clear F a;intro a F
  refine eTake (k := 31) (i := 34) rfl (by kernel_rfl) F rfl rfl rfl rfl (fun w H => rSlAH underlying79 sizeOf76 F rfl rfl ?_) H (fun _ _ _ h => h) ?_
  focus (first | omega | decide | (simp; omega))
  clear F a; intro a F;refine eTF 36 rfl (by kernel_rfl) F rfl rfl rfl (fun w=>rMv F rfl) H qq0 (qT 37 rfl (by kernel_rfl) rfl rfl rfl rfl (fun a F w H=>rNc F rfl) H qq0 (qTF 38 rfl (by kernel_rfl) rfl rfl rfl (fun a F w=>rFa (f := 1) (k := 1) underlying81 rfl sizeOf26 rfl rfl F rfl) H qq0 (qT 39 rfl (by kernel_rfl) rfl rfl rfl rfl (fun a F w H=>rLrB underlying26 rfl sizeOf26 F rfl (H.argR (regs_range hB))) H qq0 ?_)));clear F a;intro a F;refine eOne (k := 36) (i := 8) rfl (by kernel_rfl) F rfl (oCall call43 F rfl rfl (hcl _ (hE.own H) (by intro q hq; obtain ⟨x, _, rfl⟩ := List.mem_map.1 hq; rfl) (by intro q hq; obtain ⟨x, _, rfl⟩ := List.mem_map.1 hq; rfl) (by omega)) ?_);rintro e w ⟨A1, c1, rfl, H2⟩;replace H := H.join H2; clear H2;refine ⟨_, rfl, ?_⟩;clear F a; intro a F;refine eKeep H.tail ?_;refine eOne (k := 37) (i := 17) rfl (by kernel_rfl) F rfl (oCall call44 F rfl rfl (pairs_any b 187 24 r.many r.data _ (hT.own H) hm hs.data (fun k hk => H.arg (hB.cell _ (cell_data r (by omega))))) ?_);rintro e w ⟨A2, c2, rfl, H2⟩;replace H := H.join H2; clear H2;refine ⟨_, rfl, ?_⟩;clear F a; intro a F;refine eKeep H.tail.tail ?_;refine eOne (k := 38) (i := 26) rfl (by kernel_rfl) F rfl (oCall call44 F rfl rfl (pairs_any b 211 24 r.many r.ctrl _ (hT.own H) hm hs.ctrl (fun k hk => H.arg (hB.cell _ (cell_ctrl r (by omega))))) ?_);rintro e w ⟨A3, c3, rfl, H2⟩;replace H := H.join H2; clear H2;refine ⟨_, rfl, ?_⟩;clear F a; intro a F;refine eKeep H.tail.tail.tail ?_;refine eOne (k := 39) (i := 35) rfl (by kernel_rfl) F rfl (oCall call44 F rfl rfl (pairs_any b 235 24 r.many r.att _ (hT.own H) hm hs.att (fun k hk => H.arg (hB.cell _ (cell_att r (by omega))))) ?_)
  rintro e w ⟨A4, c4, rfl, H2⟩;replace H := H.join H2; clear H2;refine ⟨_, rfl, ?_⟩;clear F a; intro a F;refine eKeep H.tail.tail.tail.tail ?_;refine eT 40 rfl (by kernel_rfl) F rfl rfl rfl rfl (fun w H=>rBd (cs := pathCells A1 c1 A2 c2 A3 c3 A4 c4 r) (places := [(0, 1), (1, 1), (2, 1), (3, 1), (4, 8)]) zeroValue28 underlying28 (by kernel_rfl) F rfl rfl) H.tail.tail.tail.tail qq0 ?_;clear F a;intro a F
  refine eOne (k := 41) (i := 41) rfl (by kernel_rfl) F rfl (oSr H 4 ?si F rfl rfl ?s1 rfl rfl ?_)
  case si => exact info_size sizeOf28
  case s1 => first | rfl | (repeat (first | exact one_nil | (apply one_cons; · first | rfl | assumption | exact one_bif rfl rfl)))
  clear H; intro w H;refine ePartO (by kernel_rfl) H ?_;refine eNil (k := 42) (by kernel_rfl) ?_;refine hK2 _ _ ?_;clear hK2;refine wp_ret ?_;refine bRetC results30 F rfl underlying28 rfl H 4 rfl sizeOf28 rfl ?_
  exact ⟨A1, c1, A2, c2, A3, c3, A4, c4, rfl, H.sel [3, 2, 1, 0] rfl rfl⟩
end Go.Proofs.YtklpiodciblabaaGreatDoor
