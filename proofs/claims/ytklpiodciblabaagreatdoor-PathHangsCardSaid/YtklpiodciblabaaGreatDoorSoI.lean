/-
  WALK2. slices.Sort at bytes: bits.Len, nextPowerOfTwo, xorshift.Next, breakPatterns. Conditions: sizes; the slice is the caller's own.
-/
import Derived.Test.YtklpiodciblabaaGreatDoorSoH
set_option linter.unusedSimpArgs false
set_option linter.unusedVariables false
namespace Go.Proofs.YtklpiodciblabaaGreatDoor
open Go.Proofs.Tryz
open Go.RowKit
set_option maxRecDepth 100000
theorem Own.swp2 {w0 w : World} {row : Option Nat} {rs : List Res} {r : Res} {g n c i j : Nat} {d : By} (H : Own w0 row w (r :: .byt g n c (put (put d i (d j)) j (d i)) :: rs)) : Own w0 row w (r :: .byt g n c (swp d i j) :: rs) := by
  rw [put_swp] at H; exact H
def TabP (j : Nat) (t : UInt8) : Prop := (0 < j → 2 ^ t.toNat ≤ 2 * j) ∧ t.toNat ≤ 8
def tabOk (s : ByteArray) : Bool := s.size == 256 && (List.range 256).all fun j => (j == 0 || Nat.ble (2 ^ (s.data.toList.getD j 0).toNat) (2 * j)) && Nat.ble (s.data.toList.getD j 0).toNat 8
theorem ltab_at {s : ByteArray} (h : tabOk s = true) {j : Nat} (hj : j < 256) : ∃ h : j < s.size, TabP j (s[j]'h) := by
  unfold tabOk at h
  rw [Bool.and_eq_true, beq_iff_eq] at h
  have h1 := List.all_eq_true.1 h.2 j (List.mem_range.2 hj)
  have hs : j < s.size := by omega
  refine ⟨hs, ?_⟩
  have e : s.data.toList.getD j 0 = s[j]'hs := by
    rw [List.getD_eq_getElem?_getD, List.getElem?_eq_getElem (by simpa using hs)]
    rfl
  rw [e, Bool.and_eq_true, Bool.or_eq_true, beq_iff_eq] at h1
  refine ⟨fun h0 => ?_, Nat.le_of_ble_eq_true h1.2⟩
  rcases h1.1 with h2 | h2
  · omega
  · exact Nat.le_of_ble_eq_true h2
section
variable {P : Program} {l : List Oper} {Q : Exit → Act → World → Prop} {N : Nat} {a : Act} {env : List (Nat × Value)} {rest : List Oper} {d : Tmp} {ty : TypeId} {pos : String} {af : Array Edge} {g : Option (Nat × Bool)} {w : World}
theorem sIdT {t : TypeId} {x i : Operand} {s : ByteArray} {j : Nat} {k : IntKind} (ht : P.underlying t = some .string) (F : Has N a env) (hg : wants l env g = true) (hN : Nat.blt d N = true) (hx : ev env x = some (.string s)) (hi : ev env i = some (.int k (j : Int))) (hs : tabOk s = true) (hj : j < 256)
    (K : ∀ (t : UInt8), TabP j t → ∀ a, Has N a ((d, b8 t) :: env) → wpList P l.toArray Q rest a w) : wpList P l.toArray Q (⟨some d, .index t x i, ty, pos, af, g⟩ :: rest) a w := by
  obtain ⟨h1, h2⟩ := ltab_at hs hj
  refine stepV F hg rfl hN (v := b8 (s[j]'h1)) ?_ (K _ h2)
  have h3 := run_index_string (P := P) w t s k (j : Int) ht
  rw [dif_pos (by omega)] at h3
  simp only [execOp, F.eval hx, F.eval hi, Sem.run_bind, h3, Result.andThen_ok, Sem.run_pure]
  rfl
end
theorem wrap8S {n : Nat} (h : n < 256) : IntKind.u8.wrap (n : Int) = (n : Int) := by
  have : IntKind.u8.wrap (n : Int) = (n : Int) % 256 := by simp [IntKind.wrap, IntKind.signed, IntKind.bits]
  rw [this]; omega
theorem len_bound {a t x y : Nat} (ht : 2 ^ t ≤ 2 * y) (hy : y * 2 ^ a ≤ x) : 2 ^ (a + t) ≤ 2 * x := by
  rw [Nat.pow_add]
  have h1 : 2 ^ a * 2 ^ t ≤ 2 ^ a * (2 * y) := Nat.mul_le_mul_left _ ht
  have h2 : 2 ^ a * (2 * y) = 2 * (y * 2 ^ a) := by rw [Nat.mul_comm (2 ^ a), Nat.mul_assoc]
  omega
set_option maxHeartbeats 1000000 in
theorem len64_any (x : Nat) (w0 : World) (hx : x < 4294967296) :
    Calls Tryz.prog 121 #[.int .u64 (x : Int)] w0 fun e w' => ∃ r : Nat, e = .returned (.int .i64 (r : Int)) ∧ (0 < x → 2 ^ r ≤ 2 * x) ∧ r ≤ 40 ∧ Below w0.heap.size w0 w' := by
  have H := Own.start w0 none
  refine enterF func121 rfl ntmps121 rfl (fun a F => ?_);refine cSR fun K1 hK1=>sAs F rfl rfl rfl (qNK hK1 ?_);clear hK1;clear F a;intro a F;refine cSeq (fun K2 hK2 => ?_);refine cSR fun K3 hK3=>sMv F rfl rfl rfl (qBin rfl rfl rfl rfl bGeq (qNK hK3 ?_));clear hK3;clear F a;intro a F
  refine cIf F rfl (fun h4 => ?_) (fun h4 => ?_)
  ·
   replace h4 := of_decide_eq_true h4
   omega
  replace h4 := of_decide_eq_false h4;refine wp_skip (hK2 _ _ ?_);clear hK2;refine cSeq (fun K4 hK4 => ?_);refine cSR fun K5 hK5=>sMv F rfl rfl rfl (qBin rfl rfl rfl rfl bGeq (qNK hK5 ?_));clear hK5;clear F a;intro a F
  refine cIf F rfl (fun h8 => ?_) (fun h8 => ?_)
  ·
   replace h8 := of_decide_eq_true h8;refine cSR fun K6 hK6=>sMv F rfl rfl rfl ?_;clear F a;intro a F
   refine sBin F rfl rfl rfl rfl (bShrG (c := 16) ?_) ?_
   focus decide
   clear F a; intro a F;refine sAs F rfl rfl rfl (qNK hK6 (qReg (qMv rfl rfl rfl ?_)));clear hK6;clear F a;intro a F
   refine sBin F rfl rfl rfl rfl (bAddI ?_) ?_
   focus omega
   clear F a; intro a F;refine sAs F rfl rfl rfl (qNK hK4 ?_);clear hK4;clear F a;intro a F;refine cSeq (fun K7 hK7 => ?_);refine cSR fun K8 hK8=>sMv F rfl rfl rfl (qBin rfl rfl rfl rfl bGeq (qNK hK8 ?_));clear hK8;clear F a;intro a F
   refine cIf F rfl (fun h14 => ?_) (fun h14 => ?_)
   ·
    replace h14 := of_decide_eq_true h14;refine cSR fun K9 hK9=>sMv F rfl rfl rfl ?_;clear F a;intro a F
    refine sBin F rfl rfl rfl rfl (bShrG (c := 8) ?_) ?_
    focus decide
    clear F a; intro a F;refine sAs F rfl rfl rfl (qNK hK9 (qReg (qMv rfl rfl rfl ?_)));clear hK9;clear F a;intro a F
    refine sBin F rfl rfl rfl rfl (bAddI ?_) ?_
    focus omega
    clear F a; intro a F;refine sAs F rfl rfl rfl (qNK hK7 (qSR fun K10 hK10=>qMv rfl rfl rfl (qMv rfl rfl rfl (qCv underlying176 underlying5 rfl rfl rfl (wrap8S (by omega)) ?_))));clear hK7;clear F a;intro a F;refine sIdT underlying9 F rfl rfl rfl rfl (by kernel_rfl) (by omega) ?_;clear F a; intro t22 ht22 a F
    have ht8 := ht22.2
    refine sCv underlying5 underlying3 F rfl rfl rfl (wrapB _) ?_;clear F a;intro a F
    refine sBin F rfl rfl rfl rfl (bAddI ?_) ?_
    focus omega
    clear F a; intro a F;refine sAs F rfl rfl rfl (qNK hK10 ?_);clear hK10;clear F a;intro a F;refine wp_ret ?_;refine bRet results121 F rfl ?_
    first
    | exact ⟨24 + t22.toNat, by congr 2 <;> omega, fun hx0 => len_bound (y := x / 2 ^ 16 / 2 ^ 8) (ht22.1 (by omega)) (by omega), by omega, H.below⟩
    | exact ⟨16 + t22.toNat, by congr 2 <;> omega, fun hx0 => len_bound (y := x / 2 ^ 16) (ht22.1 (by omega)) (by omega), by omega, H.below⟩
    | exact ⟨8 + t22.toNat, by congr 2 <;> omega, fun hx0 => len_bound (y := x / 2 ^ 8) (ht22.1 (by omega)) (by omega), by omega, H.below⟩
    | exact ⟨t22.toNat, by congr 2 <;> omega, fun hx0 => ht22.1 (by omega), by omega, H.below⟩
   replace h14 := of_decide_eq_false h14;refine wp_skip (hK7 _ _ (cSR fun K11 hK11=>sMv F rfl rfl rfl (qMv rfl rfl rfl (qCv underlying176 underlying5 rfl rfl rfl (wrap8S (by omega)) ?_))));clear hK7;clear F a;intro a F;refine sIdT underlying9 F rfl rfl rfl rfl (by kernel_rfl) (by omega) ?_;clear F a; intro t22 ht22 a F
   have ht8 := ht22.2
   refine sCv underlying5 underlying3 F rfl rfl rfl (wrapB _) ?_;clear F a;intro a F
   refine sBin F rfl rfl rfl rfl (bAddI ?_) ?_
   focus omega
   clear F a; intro a F;refine sAs F rfl rfl rfl (qNK hK11 ?_);clear hK11;clear F a;intro a F;refine wp_ret ?_;refine bRet results121 F rfl ?_
   first
   | exact ⟨24 + t22.toNat, by congr 2 <;> omega, fun hx0 => len_bound (y := x / 2 ^ 16 / 2 ^ 8) (ht22.1 (by omega)) (by omega), by omega, H.below⟩
   | exact ⟨16 + t22.toNat, by congr 2 <;> omega, fun hx0 => len_bound (y := x / 2 ^ 16) (ht22.1 (by omega)) (by omega), by omega, H.below⟩
   | exact ⟨8 + t22.toNat, by congr 2 <;> omega, fun hx0 => len_bound (y := x / 2 ^ 8) (ht22.1 (by omega)) (by omega), by omega, H.below⟩
   | exact ⟨t22.toNat, by congr 2 <;> omega, fun hx0 => ht22.1 (by omega), by omega, H.below⟩
  replace h8 := of_decide_eq_false h8;refine wp_skip (hK4 _ _ ?_);clear hK4;refine cSeq (fun K12 hK12 => ?_);refine cSR fun K13 hK13=>sMv F rfl rfl rfl (qBin rfl rfl rfl rfl bGeq (qNK hK13 ?_));clear hK13;clear F a;intro a F
  refine cIf F rfl (fun h14 => ?_) (fun h14 => ?_)
  ·
   replace h14 := of_decide_eq_true h14;refine cSR fun K14 hK14=>sMv F rfl rfl rfl ?_;clear F a;intro a F
   refine sBin F rfl rfl rfl rfl (bShrG (c := 8) ?_) ?_
   focus decide
   clear F a; intro a F;refine sAs F rfl rfl rfl (qNK hK14 (qReg (qMv rfl rfl rfl ?_)));clear hK14;clear F a;intro a F
   refine sBin F rfl rfl rfl rfl (bAddI ?_) ?_
   focus omega
   clear F a; intro a F;refine sAs F rfl rfl rfl (qNK hK12 (qSR fun K15 hK15=>qMv rfl rfl rfl (qMv rfl rfl rfl (qCv underlying176 underlying5 rfl rfl rfl (wrap8S (by omega)) ?_))));clear hK12;clear F a;intro a F;refine sIdT underlying9 F rfl rfl rfl rfl (by kernel_rfl) (by omega) ?_;clear F a; intro t22 ht22 a F
   have ht8 := ht22.2
   refine sCv underlying5 underlying3 F rfl rfl rfl (wrapB _) ?_;clear F a;intro a F
   refine sBin F rfl rfl rfl rfl (bAddI ?_) ?_
   focus omega
   clear F a; intro a F;refine sAs F rfl rfl rfl (qNK hK15 ?_);clear hK15;clear F a;intro a F;refine wp_ret ?_;refine bRet results121 F rfl ?_
   first
   | exact ⟨24 + t22.toNat, by congr 2 <;> omega, fun hx0 => len_bound (y := x / 2 ^ 16 / 2 ^ 8) (ht22.1 (by omega)) (by omega), by omega, H.below⟩
   | exact ⟨16 + t22.toNat, by congr 2 <;> omega, fun hx0 => len_bound (y := x / 2 ^ 16) (ht22.1 (by omega)) (by omega), by omega, H.below⟩
   | exact ⟨8 + t22.toNat, by congr 2 <;> omega, fun hx0 => len_bound (y := x / 2 ^ 8) (ht22.1 (by omega)) (by omega), by omega, H.below⟩
   | exact ⟨t22.toNat, by congr 2 <;> omega, fun hx0 => ht22.1 (by omega), by omega, H.below⟩
  replace h14 := of_decide_eq_false h14;refine wp_skip (hK12 _ _ (cSR fun K16 hK16=>sMv F rfl rfl rfl (qMv rfl rfl rfl (qCv underlying176 underlying5 rfl rfl rfl (wrap8S (by omega)) ?_))));clear hK12;clear F a;intro a F;refine sIdT underlying9 F rfl rfl rfl rfl (by kernel_rfl) (by omega) ?_;clear F a; intro t22 ht22 a F
  have ht8 := ht22.2
  refine sCv underlying5 underlying3 F rfl rfl rfl (wrapB _) ?_;clear F a;intro a F
  refine sBin F rfl rfl rfl rfl (bAddI ?_) ?_
  focus omega
  clear F a; intro a F;refine sAs F rfl rfl rfl (qNK hK16 ?_);clear hK16;clear F a;intro a F;refine wp_ret ?_;refine bRet results121 F rfl ?_
  first
  | exact ⟨24 + t22.toNat, by congr 2 <;> omega, fun hx0 => len_bound (y := x / 2 ^ 16 / 2 ^ 8) (ht22.1 (by omega)) (by omega), by omega, H.below⟩
  | exact ⟨16 + t22.toNat, by congr 2 <;> omega, fun hx0 => len_bound (y := x / 2 ^ 16) (ht22.1 (by omega)) (by omega), by omega, H.below⟩
  | exact ⟨8 + t22.toNat, by congr 2 <;> omega, fun hx0 => len_bound (y := x / 2 ^ 8) (ht22.1 (by omega)) (by omega), by omega, H.below⟩
  | exact ⟨t22.toNat, by congr 2 <;> omega, fun hx0 => ht22.1 (by omega), by omega, H.below⟩
theorem lenW_any (x : Nat) (w0 : World) (hx : x < 4294967296) :
    Calls Tryz.prog 87 #[.int .u64 (x : Int)] w0 fun e w' => ∃ r : Nat, e = .returned (.int .i64 (r : Int)) ∧ (0 < x → 2 ^ r ≤ 2 * x) ∧ r ≤ 40 ∧ Below w0.heap.size w0 w' := by
  have H := Own.start w0 none
  refine enterF func87 rfl ntmps87 rfl (fun a F => ?_);refine cSR fun K1 hK1=>sAs F rfl rfl rfl (qNK hK1 ?_);clear hK1;clear F a;intro a F;refine cSeq (fun K2 hK2 => ?_);refine cIfF F rfl ?_;refine wp_skip (hK2 _ _ (cSR fun K3 hK3=>sMv F rfl rfl rfl ?_));clear hK2;clear F a;intro a F;refine sCall call121 F rfl rfl rfl (len64_any x _ hx) ?_;rintro e w ⟨r, rfl, hr1, hr2, hb⟩;replace H := H.grow hb; clear hb;refine ⟨_, rfl, ?_⟩;clear F a; intro a F;refine sAs F rfl rfl rfl (qNK hK3 ?_);clear hK3;clear F a;intro a F;refine wp_ret ?_;refine bRet results87 F rfl ?_
  exact ⟨r, rfl, hr1, hr2, H.below⟩
theorem pow_lt {r : Nat} (h : r ≤ 40) : 2 ^ r < 18446744073709551616 := by
  have : 2 ^ r ≤ 2 ^ 40 := Nat.pow_le_pow_right (by decide) h
  omega
theorem nextPow_any (x : Nat) (w0 : World) (hx0 : 0 < x) (hx : x ≤ 1000000) :
    Calls Tryz.prog 128 #[.int .i64 (x : Int)] w0 fun e w' => ∃ r : Nat, e = .returned (.int .u64 (r : Int)) ∧ 1 ≤ r ∧ r ≤ 2 * x ∧ Below w0.heap.size w0 w' := by
  have H := Own.start w0 none
  refine enterF func128 rfl ntmps128 rfl (fun a F => ?_);refine cSR fun K1 hK1=>sAs F rfl rfl rfl (qNK hK1 (qSR fun K2 hK2=>qMv rfl rfl rfl (qCv underlying3 underlying137 rfl rfl rfl (wrapU (by omega)) ?_)));clear hK1;clear F a;intro a F;refine sCall call87 F rfl rfl rfl (lenW_any x _ (by omega)) ?_;rintro e w ⟨r, rfl, hr1, hr2, hb⟩;replace H := H.grow hb; clear hb;refine ⟨_, rfl, ?_⟩;clear F a; intro a F
  refine sBin F rfl rfl rfl rfl (bShlU (n := 1) ?_) ?_
  focus omega
  clear F a; intro a F;refine sAs F rfl rfl rfl (qNK hK2 ?_);clear hK2;clear F a;intro a F;refine wp_ret ?_;refine bRet results128 F rfl ?_
  have h1 := pow_lt hr2
  have h2 : 0 < 2 ^ r := Nat.pow_pos (by decide)
  refine ⟨2 ^ r, ?_, h2, hr1 hx0, H.below⟩
  rw [Nat.one_mul, Nat.mod_eq_of_lt h1]
def nx1 (v : Nat) : Nat := v ^^^ (v * 2 ^ 13 % 18446744073709551616)
def nx2 (v : Nat) : Nat := nx1 v ^^^ (nx1 v / 2 ^ 7)
def nx3 (v : Nat) : Nat := nx2 v ^^^ (nx2 v * 2 ^ 17 % 18446744073709551616)
theorem nx1_lt {v : Nat} (h : v < 18446744073709551616) : nx1 v < 18446744073709551616 := Nat.xor_lt_two_pow (n := 64) h (Nat.mod_lt _ (by decide))
theorem nx2_lt {v : Nat} (h : v < 18446744073709551616) : nx2 v < 18446744073709551616 := Nat.xor_lt_two_pow (n := 64) (nx1_lt h) (Nat.lt_of_le_of_lt (Nat.div_le_self _ _) (nx1_lt h))
theorem nx3_lt {v : Nat} (h : v < 18446744073709551616) : nx3 v < 18446744073709551616 := Nat.xor_lt_two_pow (n := 64) (nx2_lt h) (Nat.mod_lt _ (by decide))
theorem xnext_any (b v : Nat) (ty : TypeId) (W : World) (row : Option Nat) (rs : List Res) (w0 : World) (H : Own W row w0 (.blk b [.int .u64 (v : Int)] ty :: rs)) (hv : v < 18446744073709551616) :
    Calls Tryz.prog 129 #[.pointer (some ⟨b, 0, none⟩)] w0 fun e w' => ∃ v' : Nat, e = .returned (.int .u64 (v' : Int)) ∧ v' < 18446744073709551616 ∧ Own W row w' (.blk b [.int .u64 (v' : Int)] ty :: rs) := by
  have h1 := nx1_lt hv
  have h2 := nx2_lt hv
  have h3 := nx3_lt hv
  refine enterF func129 rfl ntmps129 rfl (fun a F => ?_);refine cSR fun K1 hK1=>sAs F rfl rfl rfl (qNK hK1 ?_);clear hK1;clear F a;intro a F;refine cSeq (fun K2 hK2 => ?_);refine cRegRO (by kernel_rfl) H ?_;replace H := H.drew;refine eTF 0 rfl (by kernel_rfl) F rfl rfl rfl (fun w=>rMv F rfl) H qq0 (qT 1 rfl (by kernel_rfl) rfl rfl rfl rfl (fun a F w H=>rNc F rfl) H qq0 (qT 2 rfl (by kernel_rfl) rfl rfl rfl rfl (fun a F w H=>rLd isAgg186 F rfl (H.cell 0 rfl rfl)) H qq0 (qTF 3 rfl (by kernel_rfl) rfl rfl rfl (fun a F w=>rMv F rfl) H qq0 (qT 4 rfl (by kernel_rfl) rfl rfl rfl rfl (fun a F w H=>rNc F rfl) H qq0 (qT 5 rfl (by kernel_rfl) rfl rfl rfl rfl (fun a F w H=>rLd isAgg186 F rfl (H.cell 0 rfl rfl)) H qq0 ?_)))));clear F a;intro a F
  refine eTakeF (k := 6) (i := 6) rfl (by kernel_rfl) F rfl rfl rfl (fun w => rBin F rfl rfl (bShlU (c := 13) ?_)) H (fun _ _ _ h => h) ?_
  focus decide
  clear F a; intro a F
  refine eTakeF (k := 7) (i := 7) rfl (by kernel_rfl) F rfl rfl rfl (fun w => rBin F rfl rfl (bXorU ?_ ?_)) H (fun _ _ _ h => h) ?_
  focus exact hv
  focus exact Nat.mod_lt _ (by decide)
  clear F a; intro a F;refine eT 8 rfl (by kernel_rfl) F rfl rfl rfl rfl (fun w H=>rNc F rfl) H qq0 ?_;clear F a;intro a F;refine eOne (k := 9) (i := 9) rfl (by kernel_rfl) F rfl (oSt H 0 sizeOf186 F rfl rfl rfl rfl rfl ?_);clear H; intro w H;refine ePartO (by kernel_rfl) H ?_;refine eNil (k := 10) (by kernel_rfl) ?_;refine hK2 _ _ ?_;clear hK2;refine cSeq (fun K3 hK3 => ?_);refine cRegRO (by kernel_rfl) H ?_;replace H := H.drew;refine eTF 0 rfl (by kernel_rfl) F rfl rfl rfl (fun w=>rMv F rfl) H qq0 (qT 1 rfl (by kernel_rfl) rfl rfl rfl rfl (fun a F w H=>rNc F rfl) H qq0 (qT 2 rfl (by kernel_rfl) rfl rfl rfl rfl (fun a F w H=>rLd isAgg186 F rfl (H.cell 0 rfl rfl)) H qq0 (qTF 3 rfl (by kernel_rfl) rfl rfl rfl (fun a F w=>rMv F rfl) H qq0 (qT 4 rfl (by kernel_rfl) rfl rfl rfl rfl (fun a F w H=>rNc F rfl) H qq0 (qT 5 rfl (by kernel_rfl) rfl rfl rfl rfl (fun a F w H=>rLd isAgg186 F rfl (H.cell 0 rfl rfl)) H qq0 ?_)))));clear F a;intro a F
  refine eTakeF (k := 6) (i := 6) rfl (by kernel_rfl) F rfl rfl rfl (fun w => rBin F rfl rfl (bShrG (c := 7) ?_)) H (fun _ _ _ h => h) ?_
  focus decide
  clear F a; intro a F
  refine eTakeF (k := 7) (i := 7) rfl (by kernel_rfl) F rfl rfl rfl (fun w => rBin F rfl rfl (bXorU ?_ ?_)) H (fun _ _ _ h => h) ?_
  focus exact h1
  focus exact Nat.lt_of_le_of_lt (Nat.div_le_self _ _) h1
  clear F a; intro a F;refine eT 8 rfl (by kernel_rfl) F rfl rfl rfl rfl (fun w H=>rNc F rfl) H qq0 ?_;clear F a;intro a F;refine eOne (k := 9) (i := 9) rfl (by kernel_rfl) F rfl (oSt H 0 sizeOf186 F rfl rfl rfl rfl rfl ?_);clear H; intro w H;refine ePartO (by kernel_rfl) H ?_;refine eNil (k := 10) (by kernel_rfl) ?_;refine hK3 _ _ ?_;clear hK3;refine cSeq (fun K4 hK4 => ?_);refine cRegRO (by kernel_rfl) H ?_;replace H := H.drew;refine eTF 0 rfl (by kernel_rfl) F rfl rfl rfl (fun w=>rMv F rfl) H qq0 (qT 1 rfl (by kernel_rfl) rfl rfl rfl rfl (fun a F w H=>rNc F rfl) H qq0 (qT 2 rfl (by kernel_rfl) rfl rfl rfl rfl (fun a F w H=>rLd isAgg186 F rfl (H.cell 0 rfl rfl)) H qq0 (qTF 3 rfl (by kernel_rfl) rfl rfl rfl (fun a F w=>rMv F rfl) H qq0 (qT 4 rfl (by kernel_rfl) rfl rfl rfl rfl (fun a F w H=>rNc F rfl) H qq0 (qT 5 rfl (by kernel_rfl) rfl rfl rfl rfl (fun a F w H=>rLd isAgg186 F rfl (H.cell 0 rfl rfl)) H qq0 ?_)))));clear F a;intro a F
  refine eTakeF (k := 6) (i := 6) rfl (by kernel_rfl) F rfl rfl rfl (fun w => rBin F rfl rfl (bShlU (c := 17) ?_)) H (fun _ _ _ h => h) ?_
  focus decide
  clear F a; intro a F
  refine eTakeF (k := 7) (i := 7) rfl (by kernel_rfl) F rfl rfl rfl (fun w => rBin F rfl rfl (bXorU ?_ ?_)) H (fun _ _ _ h => h) ?_
  focus exact h2
  focus exact Nat.mod_lt _ (by decide)
  clear F a; intro a F;refine eT 8 rfl (by kernel_rfl) F rfl rfl rfl rfl (fun w H=>rNc F rfl) H qq0 ?_;clear F a;intro a F;refine eOne (k := 9) (i := 9) rfl (by kernel_rfl) F rfl (oSt H 0 sizeOf186 F rfl rfl rfl rfl rfl ?_);clear H; intro w H;refine ePartO (by kernel_rfl) H ?_;refine eNil (k := 10) (by kernel_rfl) ?_;refine hK4 _ _ (cSR fun K5 hK5=>sMv F rfl rfl rfl (qNc rfl rfl rfl (qLd isAgg186 rfl rfl rfl (H.cell 0 rfl rfl) (qAs rfl rfl rfl (qNK hK5 ?_)))));clear hK4 hK5;clear F a;intro a F;refine wp_ret ?_;refine bRet results129 F rfl ?_
  exact ⟨nx3 v, rfl, h3, H⟩
set_option maxHeartbeats 1000000 in
theorem break_any (g n c : Nat) (d : By) (lo up : Nat) (W : World) (row : Option Nat) (rs : List Res) (w0 : World) (H : Own W row w0 (.byt g n c d :: rs)) (hb : up ≤ n) (hn : n ≤ 1000000) (hlo : lo + 12 < up) :
    Calls Tryz.prog 113 #[.slice (some ⟨g, 0, none⟩) n c, .int .i64 (lo : Int), .int .i64 (up : Int)] w0 fun e w' => e = .returned (.tuple #[]) ∧ ∃ d', Sm lo up d d' ∧ Own W row w' (.byt g n c d' :: rs) := by
  refine enterF func113 rfl ntmps113 rfl (fun a F => ?_);refine cSR fun K1 hK1=>sMv F rfl rfl rfl (qMv rfl rfl rfl ?_);clear F a;intro a F
  refine sBin F rfl rfl rfl rfl (bSubN ?_ ?_) ?_
  focus omega
  focus omega
  clear F a; intro a F;refine sAs F rfl rfl rfl (qNK hK1 (qSR fun K2 hK2=>qMv rfl rfl rfl (qBin rfl rfl rfl rfl bGeq (qNK hK2 ?_))));clear hK1 hK2;clear F a;intro a F
  refine cIf F rfl (fun h15 => ?_) (fun h15 => ?_)
  ·
   replace h15 := of_decide_eq_true h15;refine cSR fun K3 hK3=>sMv F rfl rfl rfl (qCv underlying3 underlying186 rfl rfl rfl (wrapU (by omega)) ?_);clear F a;intro a F;refine sAl H zeroValue186 F rfl rfl ?_;clear F a H; intro b7 a w F H;refine sSt H 0 sizeOf186 F rfl rfl rfl rfl rfl rfl ?_;clear H; intro w H;refine nK hK3 (cSR fun K4 hK4=>sMv F rfl rfl rfl ?_);clear hK3;clear F a;intro a F;refine sCall call128 F rfl rfl rfl (nextPow_any (up - lo) _ (by omega) (by omega)) ?_;rintro e w ⟨p, rfl, hp1, hp2, hb'⟩
   replace H := H.grow hb'; clear hb'
   refine ⟨_, rfl, ?_⟩;clear F a; intro a F;refine sAs F rfl rfl rfl (qNK hK4 (qSR fun K5 hK5=>qMv rfl rfl rfl (qMv rfl rfl rfl ?_)));clear hK4;clear F a;intro a F
   refine sBin F rfl rfl rfl rfl (bQuoN (j := 4) ?_ ?_) ?_
   focus omega
   focus first | omega | decide
   clear F a; intro a F
   refine sBin F rfl rfl rfl rfl (bMulT (j := 2) ?_) ?_
   focus omega
   clear F a; intro a F
   refine sBin F rfl rfl rfl rfl (bAddN ?_) ?_
   focus omega
   clear F a; intro a F
   refine sBin F rfl rfl rfl rfl (bSubN (j := 1) ?_ ?_) ?_
   focus omega
   focus omega
   clear F a; intro a F;refine sAs F rfl rfl rfl (qNK hK5 ?_);clear hK5;clear F a;intro a F;refine wp_block ?_
   refine cLoopR [0, 1, 6, 7, 8] (fun m ups w => ∃ (i v : Nat) (e : By), m = lo + (up - lo) / 4 * 2 + 2 - i ∧ ups = [(9, .int .i64 ((i : Nat) : Int))] ∧ lo ≤ i ∧ v < 18446744073709551616 ∧ Sm lo up d e ∧ Own W row w (.blk b7 [.int .u64 (v : Int)] 186 :: .byt g n c e :: rs)) F (lo + (up - lo) / 4 * 2 + 2 - (lo + (up - lo) / 4 * 2 - 1)) [(9, .int .i64 ((lo + (up - lo) / 4 * 2 - 1 : Nat) : Int))] (by repeat (first | exact SubR.nil | (apply SubR.cons; · rfl))) ?_ ?_ ?_
   · exact ⟨_, up - lo, d, rfl, rfl, by omega, by omega, Sm.refl _ _ _, H⟩
   · repeat (first | exact trivial | refine Le.cons rfl ?_)
   clear F
   clear H
   intro m ups a w hI F
   obtain ⟨i, v, e, rfl, rfl, hli, hv, hsm, H⟩ := hI
   refine cSeq (fun K6 hK6 => ?_);refine cSR fun K7 hK7=>sMv F rfl rfl rfl (qMv rfl rfl rfl (qMv rfl rfl rfl ?_));clear F a;intro a F
   refine sBin F rfl rfl rfl rfl (bQuoN (j := 4) ?_ ?_) ?_
   focus omega
   focus first | omega | decide
   clear F a; intro a F
   refine sBin F rfl rfl rfl rfl (bMulT (j := 2) ?_) ?_
   focus omega
   clear F a; intro a F
   refine sBin F rfl rfl rfl rfl (bAddN ?_) ?_
   focus omega
   clear F a; intro a F
   refine sBin F rfl rfl rfl rfl (bAddN (j := 1) ?_) ?_
   focus omega
   clear F a; intro a F;refine sBin F rfl rfl rfl rfl bLeq (qNK hK7 ?_);clear hK7;clear F a;intro a F
   refine cIf F rfl (fun h33 => ?_) (fun h33 => ?_)
   ·
    replace h33 := of_decide_eq_true h33;refine wp_skip (hK6 _ _ ?_);clear hK6;refine cSeq (fun K8 hK8 => ?_);refine wp_block ?_;refine cSR fun K9 hK9=>?_;refine sCall call129 F rfl rfl rfl (xnext_any b7 v 186 W row _ _ H hv) ?_;rintro e w ⟨v1, rfl, hv1, H2⟩
    replace H := H2; clear H2; have hand : v1 &&& (p - 1) ≤ p - 1 := Nat.and_le_right
    refine ⟨_, rfl, ?_⟩;clear F a; intro a F;refine sMv F rfl rfl rfl ?_;clear F a;intro a F
    refine sBin F rfl rfl rfl rfl (bSubU (m := 1) ?_ ?_) ?_
    focus omega
    focus omega
    clear F a; intro a F
    refine sBin F rfl rfl rfl rfl (bAndG ?_ ?_) ?_
    focus omega
    focus omega
    clear F a; intro a F;refine sCv underlying137 underlying3 F rfl rfl rfl (wrapN (by omega)) (qAs rfl rfl rfl (qNK hK9 ?_));clear hK9;clear F a;intro a F;refine cSeq (fun K10 hK10 => ?_);refine cSR fun K11 hK11=>sMv F rfl rfl rfl (qMv rfl rfl rfl (qBin rfl rfl rfl rfl bGeq (qNK hK11 ?_)));clear hK11;clear F a;intro a F
    refine cIf F rfl (fun h43 => ?_) (fun h43 => ?_)
    ·
     replace h43 := of_decide_eq_true h43;refine cReg (sMv F rfl rfl rfl (qMv rfl rfl rfl ?_));clear F a;intro a F
     refine sBin F rfl rfl rfl rfl (bSubN ?_ ?_) ?_
     focus omega
     focus omega
     clear F a; intro a F;refine sAs F rfl rfl rfl (qNK hK10 ?_);clear hK10;clear F a;intro a F;refine cRegRO (by kernel_rfl) H ?_;replace H := H.drew;refine eTF 0 rfl (by kernel_rfl) F rfl rfl rfl (fun w=>rMv F rfl) H qq0 (qTF 1 rfl (by kernel_rfl) rfl rfl rfl (fun a F w=>rMv F rfl) H qq0 (qTF 2 rfl (by kernel_rfl) rfl rfl rfl (fun a F w=>rMv F rfl) H qq0 (qTF 3 rfl (by kernel_rfl) rfl rfl rfl (fun a F w=>rMv F rfl) H qq0 (qTF 4 rfl (by kernel_rfl) rfl rfl rfl (fun a F w=>rMv F rfl) H qq0 ?_))));clear F a;intro a F
     refine eTakeF (k := 5) (i := 5) rfl (by kernel_rfl) F rfl rfl rfl (fun w => rBin F rfl rfl (bAddN ?_)) H (fun _ _ _ h => h) ?_
     focus omega
     clear F a; intro a F;refine eTF 6 rfl (by kernel_rfl) F rfl rfl rfl (fun w=>rMv F rfl) H qq0 (qTF 7 rfl (by kernel_rfl) rfl rfl rfl (fun a F w=>rMv F rfl) H qq0 (qTF 8 rfl (by kernel_rfl) rfl rfl rfl (fun a F w=>rMv F rfl) H qq0 ?_));clear F a;intro a F
     refine eTakeF (k := 9) (i := 9) rfl (by kernel_rfl) F rfl rfl rfl (fun w => rBin F rfl rfl (bAddN ?_)) H (fun _ _ _ h => h) ?_
     focus omega
     clear F a; intro a F
     refine eTakeF (k := 10) (i := 10) rfl (by kernel_rfl) F rfl rfl rfl (fun w => rIx underlying23 sizeOf5 F rfl rfl ?_) H (fun _ _ _ h => h) ?_
     focus (first | omega | decide | (simp; omega))
     clear F a; intro a F;refine eT 11 rfl (by kernel_rfl) F rfl rfl rfl rfl (fun w H=>rLd isAgg5 F rfl (H.bytCell 1 rfl (by omega))) H qq0 (qTF 12 rfl (by kernel_rfl) rfl rfl rfl (fun a F w=>rMv F rfl) H qq0 (qTF 13 rfl (by kernel_rfl) rfl rfl rfl (fun a F w=>rMv F rfl) H qq0 ?_));clear F a;intro a F
     refine eTakeF (k := 14) (i := 14) rfl (by kernel_rfl) F rfl rfl rfl (fun w => rIx underlying23 sizeOf5 F rfl rfl ?_) H (fun _ _ _ h => h) ?_
     focus (first | omega | decide | (simp; omega))
     clear F a; intro a F;refine eT 15 rfl (by kernel_rfl) F rfl rfl rfl rfl (fun w H=>rLd isAgg5 F rfl (H.bytCell 1 rfl (by omega))) H qq0 ?_;clear F a;intro a F
     refine eTakeF (k := 16) (i := 16) rfl (by kernel_rfl) F rfl rfl rfl (fun w => rIx underlying23 sizeOf5 F rfl rfl ?_) H (fun _ _ _ h => h) ?_
     focus (first | omega | decide | (simp; omega))
     clear F a; intro a F;refine eOne (k := 17) (i := 17) rfl (by kernel_rfl) F rfl (oStY H 1 sizeOf5 F rfl rfl rfl (by omega) ?_);clear H; intro w H;refine ePartO (by kernel_rfl) H ?_
     refine eTakeF (k := 18) (i := 18) rfl (by kernel_rfl) F rfl rfl rfl (fun w => rIx underlying23 sizeOf5 F rfl rfl ?_) H (fun _ _ _ h => h) ?_
     focus (first | omega | decide | (simp; omega))
     clear F a; intro a F;refine eOne (k := 19) (i := 19) rfl (by kernel_rfl) F rfl (oStY H 1 sizeOf5 F rfl rfl rfl (by omega) ?_);clear H; intro w H;refine ePartO (by kernel_rfl) H ?_;refine eNil (k := 20) (by kernel_rfl) ?_;refine hK8 _ _ (cReg (sMv F rfl rfl rfl ?_));clear hK8;clear F a;intro a F
     refine sBin F rfl rfl rfl rfl (bAddN (j := 1) ?_) ?_
     focus omega
     clear F a; intro a F;refine sAs F rfl rfl rfl ?_;clear F a;intro a F;refine sNil ?_
     first | exact ⟨_, by omega, _, ⟨i + 1, v1, _, rfl, rfl, by omega, hv1, hsm.trans (Sm.swap e (by omega) (by omega) (by omega) (by omega)), H.swp2⟩, F.to (by repeat (first | exact trivial | refine Le.cons rfl ?_))⟩
    replace h43 := of_decide_eq_false h43;refine wp_skip (hK10 _ _ ?_);clear hK10;refine cRegRO (by kernel_rfl) H ?_;replace H := H.drew;refine eTF 0 rfl (by kernel_rfl) F rfl rfl rfl (fun w=>rMv F rfl) H qq0 (qTF 1 rfl (by kernel_rfl) rfl rfl rfl (fun a F w=>rMv F rfl) H qq0 (qTF 2 rfl (by kernel_rfl) rfl rfl rfl (fun a F w=>rMv F rfl) H qq0 (qTF 3 rfl (by kernel_rfl) rfl rfl rfl (fun a F w=>rMv F rfl) H qq0 (qTF 4 rfl (by kernel_rfl) rfl rfl rfl (fun a F w=>rMv F rfl) H qq0 ?_))));clear F a;intro a F
    refine eTakeF (k := 5) (i := 5) rfl (by kernel_rfl) F rfl rfl rfl (fun w => rBin F rfl rfl (bAddN ?_)) H (fun _ _ _ h => h) ?_
    focus omega
    clear F a; intro a F;refine eTF 6 rfl (by kernel_rfl) F rfl rfl rfl (fun w=>rMv F rfl) H qq0 (qTF 7 rfl (by kernel_rfl) rfl rfl rfl (fun a F w=>rMv F rfl) H qq0 (qTF 8 rfl (by kernel_rfl) rfl rfl rfl (fun a F w=>rMv F rfl) H qq0 ?_));clear F a;intro a F
    refine eTakeF (k := 9) (i := 9) rfl (by kernel_rfl) F rfl rfl rfl (fun w => rBin F rfl rfl (bAddN ?_)) H (fun _ _ _ h => h) ?_
    focus omega
    clear F a; intro a F
    refine eTakeF (k := 10) (i := 10) rfl (by kernel_rfl) F rfl rfl rfl (fun w => rIx underlying23 sizeOf5 F rfl rfl ?_) H (fun _ _ _ h => h) ?_
    focus (first | omega | decide | (simp; omega))
    clear F a; intro a F;refine eT 11 rfl (by kernel_rfl) F rfl rfl rfl rfl (fun w H=>rLd isAgg5 F rfl (H.bytCell 1 rfl (by omega))) H qq0 (qTF 12 rfl (by kernel_rfl) rfl rfl rfl (fun a F w=>rMv F rfl) H qq0 (qTF 13 rfl (by kernel_rfl) rfl rfl rfl (fun a F w=>rMv F rfl) H qq0 ?_));clear F a;intro a F
    refine eTakeF (k := 14) (i := 14) rfl (by kernel_rfl) F rfl rfl rfl (fun w => rIx underlying23 sizeOf5 F rfl rfl ?_) H (fun _ _ _ h => h) ?_
    focus (first | omega | decide | (simp; omega))
    clear F a; intro a F;refine eT 15 rfl (by kernel_rfl) F rfl rfl rfl rfl (fun w H=>rLd isAgg5 F rfl (H.bytCell 1 rfl (by omega))) H qq0 ?_;clear F a;intro a F
    refine eTakeF (k := 16) (i := 16) rfl (by kernel_rfl) F rfl rfl rfl (fun w => rIx underlying23 sizeOf5 F rfl rfl ?_) H (fun _ _ _ h => h) ?_
    focus (first | omega | decide | (simp; omega))
    clear F a; intro a F;refine eOne (k := 17) (i := 17) rfl (by kernel_rfl) F rfl (oStY H 1 sizeOf5 F rfl rfl rfl (by omega) ?_);clear H; intro w H;refine ePartO (by kernel_rfl) H ?_
    refine eTakeF (k := 18) (i := 18) rfl (by kernel_rfl) F rfl rfl rfl (fun w => rIx underlying23 sizeOf5 F rfl rfl ?_) H (fun _ _ _ h => h) ?_
    focus (first | omega | decide | (simp; omega))
    clear F a; intro a F;refine eOne (k := 19) (i := 19) rfl (by kernel_rfl) F rfl (oStY H 1 sizeOf5 F rfl rfl rfl (by omega) ?_);clear H; intro w H;refine ePartO (by kernel_rfl) H ?_;refine eNil (k := 20) (by kernel_rfl) ?_;refine hK8 _ _ (cReg (sMv F rfl rfl rfl ?_));clear hK8;clear F a;intro a F
    refine sBin F rfl rfl rfl rfl (bAddN (j := 1) ?_) ?_
    focus omega
    clear F a; intro a F;refine sAs F rfl rfl rfl ?_;clear F a;intro a F;refine sNil ?_
    first | exact ⟨_, by omega, _, ⟨i + 1, v1, _, rfl, rfl, by omega, hv1, hsm.trans (Sm.swap e (by omega) (by omega) (by omega) (by omega)), H.swp2⟩, F.to (by repeat (first | exact trivial | refine Le.cons rfl ?_))⟩
   replace h33 := of_decide_eq_false h33;refine wp_exit ?_
   first | refine bEnd results113 F ?_ | (simp only [Exit.then, Exit.inBlock, if_true]; (repeat (first | rw [if_pos rfl] | rw [if_neg (by decide)])); refine bEnd results113 F ?_)
   exact ⟨rfl, e, hsm, H.tail⟩
  replace h15 := of_decide_eq_false h15
  omega
end Go.Proofs.YtklpiodciblabaaGreatDoor
