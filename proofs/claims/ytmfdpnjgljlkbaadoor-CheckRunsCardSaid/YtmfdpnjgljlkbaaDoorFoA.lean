/-
  WALK2. slices.Repeat of one bool; math/bits.Mul. Conditions: few.
-/
import Derived.Test.YtmfdpnjgljlkbaaDoorVcY
import Derived.Test.YtmfdpnjgljlkbaaDoorCkL
set_option linter.unusedSimpArgs false
set_option linter.unusedVariables false
namespace Go.Proofs.YtmfdpnjgljlkbaaDoor
open Go.RowKit
set_option maxRecDepth 100000

theorem mul64_any (x y : Nat) (w0 : World) (hx : x ≤ 65535) (hy : y ≤ 65535) :
    Calls Tryd.prog 88 #[.int .u64 (x : Int), .int .u64 (y : Int)] w0 fun e w' => e = .returned (.tuple #[.int .u64 ((0 : Nat) : Int), .int .u64 ((x * y : Nat) : Int)]) ∧ Below w0.heap.size w0 w' := by
  have H := Own.start w0 none
  have hxy : x * y < 4294967296 := Nat.lt_of_le_of_lt (Nat.mul_le_mul hx hy) (by omega)
  refine enterF Tryd.func88 rfl Tryd.ntmps88 rfl (fun a F => ?_)
  refine cSeq (fun K1 hK1 => ?_)
  refine cReg ?_
  refine sAs F rfl rfl rfl ?_;clear F a;intro a F
  refine sAs F rfl rfl rfl ?_;clear F a;intro a F
  refine sNil ?_
  refine hK1 _ _ ?_; clear hK1
  refine cSeq (fun K2 hK2 => ?_)
  refine cReg ?_
  refine sMv F rfl rfl rfl ?_;clear F a;intro a F
  refine sBin F rfl rfl rfl rfl (bAndU ?_) ?_
  focus omega
  clear F a; intro a F
  refine sAs F rfl rfl rfl ?_;clear F a;intro a F
  refine sNil ?_
  refine hK2 _ _ ?_; clear hK2
  refine cSeq (fun K3 hK3 => ?_)
  refine cReg ?_
  refine sMv F rfl rfl rfl ?_;clear F a;intro a F
  refine sBin F rfl rfl rfl rfl (bShrU ?_) ?_
  focus omega
  clear F a; intro a F
  refine sAs F rfl rfl rfl ?_;clear F a;intro a F
  refine sNil ?_
  refine hK3 _ _ ?_; clear hK3
  refine cSeq (fun K4 hK4 => ?_)
  refine cReg ?_
  refine sMv F rfl rfl rfl ?_;clear F a;intro a F
  refine sBin F rfl rfl rfl rfl (bAndU ?_) ?_
  focus omega
  clear F a; intro a F
  refine sAs F rfl rfl rfl ?_;clear F a;intro a F
  refine sNil ?_
  refine hK4 _ _ ?_; clear hK4
  refine cSeq (fun K5 hK5 => ?_)
  refine cReg ?_
  refine sMv F rfl rfl rfl ?_;clear F a;intro a F
  refine sBin F rfl rfl rfl rfl (bShrU ?_) ?_
  focus omega
  clear F a; intro a F
  refine sAs F rfl rfl rfl ?_;clear F a;intro a F
  refine sNil ?_
  refine hK5 _ _ ?_; clear hK5
  refine cSeq (fun K6 hK6 => ?_)
  refine cReg ?_
  refine sMv F rfl rfl rfl ?_;clear F a;intro a F
  refine sMv F rfl rfl rfl ?_;clear F a;intro a F
  refine sBin F rfl rfl rfl rfl (bMulU ?_) ?_
  focus omega
  clear F a; intro a F
  refine sAs F rfl rfl rfl ?_;clear F a;intro a F
  refine sNil ?_
  refine hK6 _ _ ?_; clear hK6
  refine cSeq (fun K7 hK7 => ?_)
  refine cReg ?_
  refine sMv F rfl rfl rfl ?_;clear F a;intro a F
  refine sMv F rfl rfl rfl ?_;clear F a;intro a F
  refine sBin F rfl rfl rfl rfl (bMulU ?_) ?_
  focus omega
  clear F a; intro a F
  refine sMv F rfl rfl rfl ?_;clear F a;intro a F
  refine sBin F rfl rfl rfl rfl (bShrU ?_) ?_
  focus omega
  clear F a; intro a F
  refine sBin F rfl rfl rfl rfl (bAddU ?_) ?_
  focus omega
  clear F a; intro a F
  refine sAs F rfl rfl rfl ?_;clear F a;intro a F
  refine sNil ?_
  refine hK7 _ _ ?_; clear hK7
  refine cSeq (fun K8 hK8 => ?_)
  refine cReg ?_
  refine sMv F rfl rfl rfl ?_;clear F a;intro a F
  refine sBin F rfl rfl rfl rfl (bAndU ?_) ?_
  focus omega
  clear F a; intro a F
  refine sAs F rfl rfl rfl ?_;clear F a;intro a F
  refine sNil ?_
  refine hK8 _ _ ?_; clear hK8
  refine cSeq (fun K9 hK9 => ?_)
  refine cReg ?_
  refine sMv F rfl rfl rfl ?_;clear F a;intro a F
  refine sBin F rfl rfl rfl rfl (bShrU ?_) ?_
  focus omega
  clear F a; intro a F
  refine sAs F rfl rfl rfl ?_;clear F a;intro a F
  refine sNil ?_
  refine hK9 _ _ ?_; clear hK9
  refine cSeq (fun K10 hK10 => ?_)
  refine cReg ?_
  refine sMv F rfl rfl rfl ?_;clear F a;intro a F
  refine sMv F rfl rfl rfl ?_;clear F a;intro a F
  refine sMv F rfl rfl rfl ?_;clear F a;intro a F
  refine sBin F rfl rfl rfl rfl (bMulU ?_) ?_
  focus omega
  clear F a; intro a F
  refine sBin F rfl rfl rfl rfl (bAddU ?_) ?_
  focus omega
  clear F a; intro a F
  refine sAs F rfl rfl rfl ?_;clear F a;intro a F
  refine sNil ?_
  refine hK10 _ _ ?_; clear hK10
  refine cSeq (fun K11 hK11 => ?_)
  refine cReg ?_
  refine sMv F rfl rfl rfl ?_;clear F a;intro a F
  refine sMv F rfl rfl rfl ?_;clear F a;intro a F
  refine sBin F rfl rfl rfl rfl (bMulU ?_) ?_
  focus omega
  clear F a; intro a F
  refine sMv F rfl rfl rfl ?_;clear F a;intro a F
  refine sBin F rfl rfl rfl rfl (bAddU ?_) ?_
  focus omega
  clear F a; intro a F
  refine sMv F rfl rfl rfl ?_;clear F a;intro a F
  refine sBin F rfl rfl rfl rfl (bShrU ?_) ?_
  focus omega
  clear F a; intro a F
  refine sBin F rfl rfl rfl rfl (bAddU ?_) ?_
  focus omega
  clear F a; intro a F
  refine sAs F rfl rfl rfl ?_;clear F a;intro a F
  refine sNil ?_
  refine hK11 _ _ ?_; clear hK11
  refine cSeq (fun K12 hK12 => ?_)
  refine cReg ?_
  refine sMv F rfl rfl rfl ?_;clear F a;intro a F
  refine sMv F rfl rfl rfl ?_;clear F a;intro a F
  refine sBin F rfl rfl rfl rfl (bMulU ?_) ?_
  focus omega
  clear F a; intro a F
  refine sAs F rfl rfl rfl ?_;clear F a;intro a F
  refine sNil ?_
  refine hK12 _ _ ?_; clear hK12
  refine wp_ret ?_
  refine bRet2 Tryd.results88 F rfl rfl ?_
  exact ⟨by simp, H.below⟩
theorem mul_any (x y : Nat) (w0 : World) (hx : x ≤ 65535) (hy : y ≤ 65535) :
    Calls Tryd.prog 81 #[.int .u64 (x : Int), .int .u64 (y : Int)] w0 fun e w' => e = .returned (.tuple #[.int .u64 ((0 : Nat) : Int), .int .u64 ((x * y : Nat) : Int)]) ∧ Below w0.heap.size w0 w' := by
  have H := Own.start w0 none
  refine enterF Tryd.func81 rfl Tryd.ntmps81 rfl (fun a F => ?_)
  refine cSeq (fun K1 hK1 => ?_)
  refine cReg ?_
  refine sAs F rfl rfl rfl ?_;clear F a;intro a F
  refine sAs F rfl rfl rfl ?_;clear F a;intro a F
  refine sNil ?_
  refine hK1 _ _ ?_; clear hK1
  refine cSeq (fun K2 hK2 => ?_)
  refine cIfF F rfl ?_
  refine wp_skip ?_
  refine hK2 _ _ ?_; clear hK2
  refine cSeq (fun K3 hK3 => ?_)
  refine cReg ?_
  refine sMv F rfl rfl rfl ?_;clear F a;intro a F
  refine sMv F rfl rfl rfl ?_;clear F a;intro a F
  refine sCall Tryd.call88 F rfl rfl rfl (mul64_any x y _ hx hy) ?_
  rintro e w ⟨rfl, hb⟩
  replace H := H.grow hb; clear hb
  refine ⟨_, rfl, ?_⟩
  clear F a; intro a F
  refine sMv F rfl rfl rfl ?_;clear F a;intro a F
  refine sExt F rfl rfl rfl rfl ?_;clear F a;intro a F
  refine sExt F rfl rfl rfl rfl ?_;clear F a;intro a F
  refine sAs F rfl rfl rfl ?_;clear F a;intro a F
  refine sAs F rfl rfl rfl ?_;clear F a;intro a F
  refine sNil ?_
  refine hK3 _ _ ?_; clear hK3
  refine cSeq (fun K4 hK4 => ?_)
  refine cReg ?_
  refine sMv F rfl rfl rfl ?_;clear F a;intro a F
  refine sMv F rfl rfl rfl ?_;clear F a;intro a F
  refine sAs F rfl rfl rfl ?_;clear F a;intro a F
  refine sAs F rfl rfl rfl ?_;clear F a;intro a F
  refine sNil ?_
  refine hK4 _ _ ?_; clear hK4
  refine wp_ret ?_
  refine bRet2 Tryd.results81 F rfl rfl ?_
  exact ⟨rfl, H.below⟩
/-- Bools as a block's cells. -/
def bl (l : List Bool) : List Value := l.map .bool
@[simp] theorem bl_length (l : List Bool) : (bl l).length = l.length := by simp [bl]
theorem bl_get {l : List Bool} {i : Nat} {v : Bool} (h : l[i]? = some v) : (bl l)[i]? = some (.bool v) := by rw [bl, List.getElem?_map, h]; rfl
theorem bl_set (l : List Bool) (i : Nat) (v : Bool) : (bl l).set i (.bool v) = bl (l.set i v) := by rw [bl, bl, List.map_set]
theorem bl_one (l : List Bool) : (bl l).all (·.oneCell') = true := by
  rw [List.all_eq_true]; intro v hv
  obtain ⟨x, _, rfl⟩ := List.mem_map.1 hv
  rfl
theorem bl_rep (n : Nat) (v : Bool) : List.replicate n (.bool v) = bl (List.replicate n v) := by simp [bl]
theorem splice_bl {l : List Bool} {k m n : Nat} (hl : l = List.replicate k true ++ List.replicate (n - k) false) (hk : k + m ≤ n) : splice (bl l) k (bl (List.replicate m true)) = bl (List.replicate (k + m) true ++ List.replicate (n - (k + m)) false) := by
  subst hl
  have e : List.replicate (n - k) false = List.replicate m false ++ List.replicate (n - (k + m)) false := by
    rw [List.replicate_append_replicate]; congr 1; omega
  rw [e]
  have h := splice_mid (bl (List.replicate (n - (k + m)) false)) (bl (List.replicate m true)) (bl (List.replicate m false)) (bl (List.replicate k true)) (by simp)
  rw [bl_length, List.length_replicate] at h
  rw [show bl (List.replicate k true ++ (List.replicate m false ++ List.replicate (n - (k + m)) false)) = bl (List.replicate k true) ++ (bl (List.replicate m false) ++ bl (List.replicate (n - (k + m)) false)) by simp [bl], h]
  simp [bl, ← List.replicate_append_replicate]
theorem rep_start {n : Nat} : splice (List.replicate n (.bool false)) 0 (bl (([true] : List Bool).take (min 1 n))) = bl (List.replicate (min 1 n) true ++ List.replicate (n - min 1 n) false) := by
  have e : ([true] : List Bool).take (min 1 n) = List.replicate (min 1 n) true := by
    rcases Nat.eq_zero_or_pos n with h | h
    · subst h; rfl
    · rw [Nat.min_eq_left h]; rfl
  rw [bl_rep, e]
  have := splice_bl (l := List.replicate n false) (k := 0) (m := min 1 n) (n := n) (by simp) (by omega)
  simpa using this
theorem rep_step {n k : Nat} (h : k ≤ n) : splice (bl (List.replicate k true ++ List.replicate (n - k) false)) (0 + k * 1) (bl (List.replicate (min k (n - k)) true)) = bl (List.replicate (k + min k (n - k)) true ++ List.replicate (n - (k + min k (n - k))) false) := by
  rw [Nat.zero_add, Nat.mul_one]
  exact splice_bl rfl (by omega)
theorem take_rep {n k m : Nat} (h : m ≤ k) : ((bl (List.replicate k true ++ List.replicate (n - k) false)).drop 0).take m = bl (List.replicate m true) := by
  rw [List.drop_zero, bl, bl, ← List.map_take, List.take_append_of_le_length (by simp; exact h), List.take_replicate, Nat.min_eq_left h]
set_option maxHeartbeats 1000000 in
theorem repeat_any (b0 n : Nat) (w0 : World) (hn : n ≤ 65535) (hb : w0.rangeAt b0 0 (bl [true])) :
    Calls Tryd.prog 65 #[.slice (some ⟨b0, 0, none⟩) 1 1, .int .i64 (n : Int)] w0 fun e w' => ∃ b, e = .returned (.slice (some ⟨b, 0, none⟩) n n) ∧ Own w0 none w' [.blk b (bl (List.replicate n true)) 4] := by
  have H := Own.start w0 none
  refine enterF Tryd.func65 rfl Tryd.ntmps65 rfl (fun a F => ?_)
  refine cSeq (fun K1 hK1 => ?_)
  refine cReg ?_
  refine sAs F rfl rfl rfl ?_;clear F a;intro a F
  refine sNil ?_
  refine hK1 _ _ ?_; clear hK1
  refine cSeq (fun K2 hK2 => ?_)
  refine cSeq (fun K3 hK3 => ?_)
  refine cReg ?_
  refine sMv F rfl rfl rfl ?_;clear F a;intro a F
  refine sBin F rfl rfl rfl rfl bLss ?_;clear F a;intro a F
  refine sNil ?_
  refine hK3 _ _ ?_; clear hK3
  refine cIf F rfl (fun h10 => ?_) (fun h10 => ?_)
  ·
   replace h10 := of_decide_eq_true h10
   omega
  replace h10 := of_decide_eq_false h10
  refine wp_skip ?_
  refine hK2 _ _ ?_; clear hK2
  refine cSeq (fun K4 hK4 => ?_)
  refine cReg ?_
  refine sMv F rfl rfl rfl ?_;clear F a;intro a F
  refine sLen Tryd.underlying101 F rfl rfl rfl ?_;clear F a;intro a F
  refine sCv Tryd.underlying3 Tryd.underlying111 F rfl rfl rfl (wrapU (by omega)) ?_;clear F a;intro a F
  refine sMv F rfl rfl rfl ?_;clear F a;intro a F
  refine sCv Tryd.underlying3 Tryd.underlying111 F rfl rfl rfl (wrapU (by omega)) ?_;clear F a;intro a F
  refine sCall Tryd.call81 F rfl rfl rfl (mul_any 1 n _ (by omega) hn) ?_
  rintro e w ⟨rfl, hb2⟩
  replace H := H.grow hb2; clear hb2; rw [Nat.one_mul]
  refine ⟨_, rfl, ?_⟩
  clear F a; intro a F
  refine sMv F rfl rfl rfl ?_;clear F a;intro a F
  refine sExt F rfl rfl rfl rfl ?_;clear F a;intro a F
  refine sExt F rfl rfl rfl rfl ?_;clear F a;intro a F
  refine sAs F rfl rfl rfl ?_;clear F a;intro a F
  refine sAs F rfl rfl rfl ?_;clear F a;intro a F
  refine sNil ?_
  refine hK4 _ _ ?_; clear hK4
  refine cSeq (fun K5 hK5 => ?_)
  refine cSeq (fun K6 hK6 => ?_)
  refine cReg ?_
  refine sMv F rfl rfl rfl ?_;clear F a;intro a F
  refine sBin F rfl rfl rfl rfl bGtr ?_;clear F a;intro a F
  refine sMv F rfl rfl rfl ?_;clear F a;intro a F
  refine F.split 23 rfl ?_ ?_ <;> (clear F; intro h23 F)
  ·
   replace h23 := of_decide_eq_true h23
   omega
  replace h23 := of_decide_eq_false h23
  refine sMv F rfl rfl rfl ?_;clear F a;intro a F
  refine sBin F rfl rfl rfl rfl bGtr ?_;clear F a;intro a F
  refine sPk F rfl rfl rfl rfl ?_;clear F a;intro a F
  refine sNil ?_
  refine hK6 _ _ ?_; clear hK6
  refine cIf F rfl (fun h26 => ?_) (fun h26 => ?_)
  ·
   replace h26 := of_decide_eq_true h26
   omega
  replace h26 := of_decide_eq_false h26
  refine wp_skip ?_
  refine hK5 _ _ ?_; clear hK5
  refine cSeq (fun K7 hK7 => ?_)
  refine cReg ?_
  refine sMv F rfl rfl rfl ?_;clear F a;intro a F
  refine sCv Tryd.underlying111 Tryd.underlying3 F rfl rfl rfl (wrapN (by omega)) ?_;clear F a;intro a F
  refine sMk (z := .bool false) (bytes := 1) H Tryd.underlying101 (by kernel_rfl) rfl F rfl rfl rfl rfl (by omega) (by omega) ?_
  clear F a H; intro b30 a w F H
  refine sAs F rfl rfl rfl ?_;clear F a;intro a F
  refine sNil ?_
  refine hK7 _ _ ?_; clear hK7
  refine cSeq (fun K8 hK8 => ?_)
  refine cReg ?_
  refine sMv F rfl rfl rfl ?_;clear F a;intro a F
  refine sMv F rfl rfl rfl ?_;clear F a;intro a F
  refine sCpL H 0 Tryd.underlying101 Tryd.sizeOf4 F rfl rfl rfl rfl rfl ((fun j v hj => H.arg (hb j v (by rw [bl, List.getElem?_map, List.getElem?_take] at hj; split at hj; (· rw [bl, List.getElem?_map]; exact hj); (· cases hj))))) ((by simp [Nat.min_comm])) ((bl_one (([true] : List Bool).take (min 1 n)))) ((by simp; omega)) ?_
  clear F a H; intro a w F H
  refine sAs F rfl rfl rfl ?_;clear F a;intro a F
  refine sNil ?_
  refine hK8 _ _ ?_; clear hK8
  refine cSeq (fun K9 hK9 => ?_)
  refine wp_block ?_
  refine cLoopR [7] (fun m ups w => ∃ k : Nat, m = n - k ∧ ups = [(8, .int .i64 ((k : Nat) : Int))] ∧ k ≤ n ∧ (n = k ∨ 1 ≤ k) ∧ Own w0 none w [.blk b30 (bl (List.replicate k true ++ List.replicate (n - k) false)) 4]) F (n - min 1 n) [(8, .int .i64 ((min 1 n : Nat) : Int))] (by repeat (first | exact SubR.nil | (apply SubR.cons; · rfl))) ?_ ?_ ?_
  · (rw [rep_start] at H
     exact ⟨min 1 n, rfl, rfl, by omega, by omega, H⟩)
  · repeat (first | exact trivial | refine Le.cons rfl ?_)
  clear F
  clear H
  intro m ups a w hI F
  obtain ⟨k, rfl, rfl, hk, hk1, H⟩ := hI
  refine cSeq (fun K10 hK10 => ?_)
  refine cSeq (fun K11 hK11 => ?_)
  refine cReg ?_
  refine sMv F rfl rfl rfl ?_;clear F a;intro a F
  refine sMv F rfl rfl rfl ?_;clear F a;intro a F
  refine sLen Tryd.underlying101 F rfl rfl rfl ?_;clear F a;intro a F
  refine sBin F rfl rfl rfl rfl bLss ?_;clear F a;intro a F
  refine sNil ?_
  refine hK11 _ _ ?_; clear hK11
  refine cIf F rfl (fun h37 => ?_) (fun h37 => ?_)
  ·
   replace h37 := of_decide_eq_true h37
   refine wp_skip ?_
   refine hK10 _ _ ?_; clear hK10
   refine wp_block ?_
   refine cRegRO (by kernel_rfl) H ?_
   replace H := H.drew
   refine eTakeF (k := 0) (i := 0) rfl (by kernel_rfl) F rfl rfl rfl (fun w => rMv F rfl) H (fun _ _ _ h => h) ?_;clear F a;intro a F
   refine eTakeF (k := 1) (i := 1) rfl (by kernel_rfl) F rfl rfl rfl (fun w => rMv F rfl) H (fun _ _ _ h => h) ?_;clear F a;intro a F
   refine eTakeF (k := 2) (i := 2) rfl (by kernel_rfl) F rfl rfl rfl (fun w => rMv F rfl) H (fun _ _ _ h => h) ?_;clear F a;intro a F
   refine eTake (k := 3) (i := 3) rfl (by kernel_rfl) F rfl rfl rfl rfl (fun w H => rSlL Tryd.underlying101 Tryd.sizeOf4 F rfl rfl ?_ ?_) H (fun _ _ _ h => h) ?_
   focus (first | omega | decide | (simp; omega))
   focus (first | omega | decide | (simp; omega))
   clear F a; intro a F
   refine eTakeF (k := 4) (i := 4) rfl (by kernel_rfl) F rfl rfl rfl (fun w => rMv F rfl) H (fun _ _ _ h => h) ?_;clear F a;intro a F
   refine eTakeF (k := 5) (i := 5) rfl (by kernel_rfl) F rfl rfl rfl (fun w => rMv F rfl) H (fun _ _ _ h => h) ?_;clear F a;intro a F
   refine eTake (k := 6) (i := 6) rfl (by kernel_rfl) F rfl rfl rfl rfl (fun w H => rSlH Tryd.underlying101 (fun w => ⟨_, Tryd.sizeOf4 w⟩) F rfl rfl ?_) H (fun _ _ _ h => h) ?_
   focus (first | omega | decide | (simp; omega))
   clear F a; intro a F
   refine eOne (k := 7) (i := 7) rfl (by kernel_rfl) F rfl (oCpL H 0 Tryd.underlying101 Tryd.sizeOf4 F rfl rfl rfl rfl ((by have := H.range 0 rfl 0 (min k (n - k)); rw [take_rep (by omega)] at this; exact this)) ((by simp)) ((bl_one _)) ((by simp; omega)) ?_)
   clear F a H; intro a w F H
   refine ePartO (by kernel_rfl) H ?_
   refine eTakeF (k := 8) (i := 8) rfl (by kernel_rfl) F rfl rfl rfl (fun w => rBin F rfl rfl (bAddN ?_)) H (fun _ _ _ h => h) ?_
   focus omega
   clear F a; intro a F
   refine eTakeF (k := 9) (i := 9) rfl (by kernel_rfl) F rfl rfl rfl (fun w => rAs F rfl) H (fun _ _ _ h => h) ?_;clear F a;intro a F
   refine eNil (k := 10) (by kernel_rfl) ?_
   rw [rep_step (by omega)] at H
   exact ⟨_, by omega, _, ⟨k + min k (n - k), rfl, rfl, by omega, by omega, H⟩, F.to (by repeat (first | exact trivial | refine Le.cons rfl ?_))⟩
  replace h37 := of_decide_eq_false h37
  obtain rfl : k = n := by omega
  rw [Nat.sub_self, List.replicate_zero, List.append_nil] at H
  refine wp_exit ?_
  refine hK9 _ _ ?_; clear hK9
  refine cSeq (fun K12 hK12 => ?_)
  refine cReg ?_
  refine sMv F rfl rfl rfl ?_;clear F a;intro a F
  refine sAs F rfl rfl rfl ?_;clear F a;intro a F
  refine sNil ?_
  refine hK12 _ _ ?_; clear hK12
  refine wp_ret ?_
  refine bRet Tryd.results65 F rfl ?_
  exact ⟨_, rfl, H.pick 0 rfl⟩
end Go.Proofs.YtmfdpnjgljlkbaaDoor
