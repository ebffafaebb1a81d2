/-
  WALK2. slices.Repeat of one bool; math/bits.Mul. Conditions: few.
-/
import Derived.Test.YtbgnapmaimkpkaaGreatDoorVcU1
import Derived.Test.YtbgnapmaimkpkaaGreatDoorCkL
set_option linter.unusedSimpArgs false
set_option linter.unusedVariables false
namespace Go.Proofs.YtbgnapmaimkpkaaGreatDoor
open Go.Proofs.Tryz
open Go.RowKit
set_option maxRecDepth 100000

theorem mul64_any (x y : Nat) (w0 : World) (hx : x ≤ 65535) (hy : y ≤ 65535) :
    Calls Tryz.prog 183 #[.int .u64 (x : Int), .int .u64 (y : Int)] w0 fun e w' => e = .returned (.tuple #[.int .u64 ((0 : Nat) : Int), .int .u64 ((x * y : Nat) : Int)]) ∧ Below w0.heap.size w0 w' := by
  have H := Own.start w0 none
  have hxy : x * y < 4294967296 := Nat.lt_of_le_of_lt (Nat.mul_le_mul hx hy) (by omega)
  refine enterF func183 rfl ntmps183 rfl (fun a F => ?_);refine cSR fun K1 hK1=>sAs F rfl rfl rfl (qAs rfl rfl rfl (qNK hK1 (qSR fun K2 hK2=>qMv rfl rfl rfl ?_)));clear hK1;clear F a;intro a F
  refine sBin F rfl rfl rfl rfl (bAndU ?_) ?_
  focus omega
  clear F a; intro a F;refine sAs F rfl rfl rfl (qNK hK2 (qSR fun K3 hK3=>qMv rfl rfl rfl ?_));clear hK2;clear F a;intro a F
  refine sBin F rfl rfl rfl rfl (bShrU ?_) ?_
  focus omega
  clear F a; intro a F;refine sAs F rfl rfl rfl (qNK hK3 (qSR fun K4 hK4=>qMv rfl rfl rfl ?_));clear hK3;clear F a;intro a F
  refine sBin F rfl rfl rfl rfl (bAndU ?_) ?_
  focus omega
  clear F a; intro a F;refine sAs F rfl rfl rfl (qNK hK4 (qSR fun K5 hK5=>qMv rfl rfl rfl ?_));clear hK4;clear F a;intro a F
  refine sBin F rfl rfl rfl rfl (bShrU ?_) ?_
  focus omega
  clear F a; intro a F;refine sAs F rfl rfl rfl (qNK hK5 (qSR fun K6 hK6=>qMv rfl rfl rfl (qMv rfl rfl rfl ?_)));clear hK5;clear F a;intro a F
  refine sBin F rfl rfl rfl rfl (bMulU ?_) ?_
  focus omega
  clear F a; intro a F;refine sAs F rfl rfl rfl (qNK hK6 (qSR fun K7 hK7=>qMv rfl rfl rfl (qMv rfl rfl rfl ?_)));clear hK6;clear F a;intro a F
  refine sBin F rfl rfl rfl rfl (bMulU ?_) ?_
  focus omega
  clear F a; intro a F;refine sMv F rfl rfl rfl ?_;clear F a;intro a F
  refine sBin F rfl rfl rfl rfl (bShrU ?_) ?_
  focus omega
  clear F a; intro a F
  refine sBin F rfl rfl rfl rfl (bAddU ?_) ?_
  focus omega
  clear F a; intro a F;refine sAs F rfl rfl rfl (qNK hK7 (qSR fun K8 hK8=>qMv rfl rfl rfl ?_));clear hK7;clear F a;intro a F
  refine sBin F rfl rfl rfl rfl (bAndU ?_) ?_
  focus omega
  clear F a; intro a F;refine sAs F rfl rfl rfl (qNK hK8 (qSR fun K9 hK9=>qMv rfl rfl rfl ?_));clear hK8;clear F a;intro a F
  refine sBin F rfl rfl rfl rfl (bShrU ?_) ?_
  focus omega
  clear F a; intro a F;refine sAs F rfl rfl rfl (qNK hK9 (qSR fun K10 hK10=>qMv rfl rfl rfl (qMv rfl rfl rfl (qMv rfl rfl rfl ?_))));clear hK9;clear F a;intro a F
  refine sBin F rfl rfl rfl rfl (bMulU ?_) ?_
  focus omega
  clear F a; intro a F
  refine sBin F rfl rfl rfl rfl (bAddU ?_) ?_
  focus omega
  clear F a; intro a F;refine sAs F rfl rfl rfl (qNK hK10 (qSR fun K11 hK11=>qMv rfl rfl rfl (qMv rfl rfl rfl ?_)));clear hK10;clear F a;intro a F
  refine sBin F rfl rfl rfl rfl (bMulU ?_) ?_
  focus omega
  clear F a; intro a F;refine sMv F rfl rfl rfl ?_;clear F a;intro a F
  refine sBin F rfl rfl rfl rfl (bAddU ?_) ?_
  focus omega
  clear F a; intro a F;refine sMv F rfl rfl rfl ?_;clear F a;intro a F
  refine sBin F rfl rfl rfl rfl (bShrU ?_) ?_
  focus omega
  clear F a; intro a F
  refine sBin F rfl rfl rfl rfl (bAddU ?_) ?_
  focus omega
  clear F a; intro a F;refine sAs F rfl rfl rfl (qNK hK11 (qSR fun K12 hK12=>qMv rfl rfl rfl (qMv rfl rfl rfl ?_)));clear hK11;clear F a;intro a F
  refine sBin F rfl rfl rfl rfl (bMulU ?_) ?_
  focus omega
  clear F a; intro a F;refine sAs F rfl rfl rfl (qNK hK12 ?_);clear hK12;clear F a;intro a F;refine wp_ret ?_;refine bRet2 results183 F rfl rfl ?_
  exact ⟨by simp, H.below⟩
theorem mul_any (x y : Nat) (w0 : World) (hx : x ≤ 65535) (hy : y ≤ 65535) :
    Calls Tryz.prog 149 #[.int .u64 (x : Int), .int .u64 (y : Int)] w0 fun e w' => e = .returned (.tuple #[.int .u64 ((0 : Nat) : Int), .int .u64 ((x * y : Nat) : Int)]) ∧ Below w0.heap.size w0 w' := by
  have H := Own.start w0 none
  refine enterF func149 rfl ntmps149 rfl (fun a F => ?_);refine cSR fun K1 hK1=>sAs F rfl rfl rfl (qAs rfl rfl rfl (qNK hK1 ?_));clear hK1;clear F a;intro a F;refine cSeq (fun K2 hK2 => ?_);refine cIfF F rfl ?_;refine wp_skip (hK2 _ _ (cSR fun K3 hK3=>sMv F rfl rfl rfl (qMv rfl rfl rfl ?_)));clear hK2;clear F a;intro a F;refine sCall call183 F rfl rfl rfl (mul64_any x y _ hx hy) ?_;rintro e w ⟨rfl, hb⟩;replace H := H.grow hb; clear hb;refine ⟨_, rfl, ?_⟩;clear F a; intro a F;refine sMv F rfl rfl rfl (qExt rfl rfl rfl rfl (qExt rfl rfl rfl rfl (qAs rfl rfl rfl (qAs rfl rfl rfl (qNK hK3 (qSR fun K4 hK4=>qMv rfl rfl rfl (qMv rfl rfl rfl (qAs rfl rfl rfl (qAs rfl rfl rfl (qNK hK4 ?_))))))))));clear hK3 hK4;clear F a;intro a F;refine wp_ret ?_;refine bRet2 results149 F rfl rfl ?_
  exact ⟨rfl, H.below⟩
def bl (l : List Bool) : List Value := l.map .bool
@[simp] theorem bl_length (l : List Bool) : (bl l).length = l.length := by simp [bl]
theorem bl_get {l : List Bool} {i : Nat} {v : Bool} (h : l[i]? = some v) : (bl l)[i]? = some (.bool v) := by rw [bl, List.getElem?_map, h]; rfl
theorem bl_set (l : List Bool) (i : Nat) (v : Bool) : (bl l).set i (.bool v) = bl (l.set i v) := by rw [bl, bl, List.map_set]
theorem bl_one (l : List Bool) : (bl l).all (·.oneCell') = true := by
  rw [List.all_eq_true]; intro v hv
  obtain ⟨x, _, rfl⟩ := List.mem_map.1 hv
  rfl
theorem bl_rep (n : Nat) (v : Bool) : List.replicate n (.bool v) = bl (List.replicate n v) := by simp [bl]
theorem splice_bl {l : List Bool} {k m n : Nat} (hl : l = List.replicate k true ++ List.replicate (n - k) false) (hk : k + m ≤ n) : splice (bl l) k (bl (List.replicate m true)) = bl (List.replicate (k + m) true ++ List.replicate (n - (k + m)) false) := by
  subst hl
  have e : List.replicate (n - k) false = List.replicate m false ++ List.replicate (n - (k + m)) false := by
    rw [List.replicate_append_replicate]; congr 1; omega
  rw [e]
  have h := splice_mid (bl (List.replicate (n - (k + m)) false)) (bl (List.replicate m true)) (bl (List.replicate m false)) (bl (List.replicate k true)) (by simp)
  rw [bl_length, List.length_replicate] at h
  rw [show bl (List.replicate k true ++ (List.replicate m false ++ List.replicate (n - (k + m)) false)) = bl (List.replicate k true) ++ (bl (List.replicate m false) ++ bl (List.replicate (n - (k + m)) false)) by simp [bl], h]
  simp [bl, ← List.replicate_append_replicate]
theorem rep_start {n : Nat} : splice (List.replicate n (.bool false)) 0 (bl (([true] : List Bool).take (min 1 n))) = bl (List.replicate (min 1 n) true ++ List.replicate (n - min 1 n) false) := by
  have e : ([true] : List Bool).take (min 1 n) = List.replicate (min 1 n) true := by
    rcases Nat.eq_zero_or_pos n with h | h
    · subst h; rfl
    · rw [Nat.min_eq_left h]; rfl
  rw [bl_rep, e]
  have := splice_bl (l := List.replicate n false) (k := 0) (m := min 1 n) (n := n) (by simp) (by omega)
  simpa using this
theorem rep_step {n k : Nat} (h : k ≤ n) : splice (bl (List.replicate k true ++ List.replicate (n - k) false)) (0 + k * 1) (bl (List.replicate (min k (n - k)) true)) = bl (List.replicate (k + min k (n - k)) true ++ List.replicate (n - (k + min k (n - k))) false) := by
  rw [Nat.zero_add, Nat.mul_one]
  exact splice_bl rfl (by omega)
theorem take_rep {n k m : Nat} (h : m ≤ k) : ((bl (List.replicate k true ++ List.replicate (n - k) false)).drop 0).take m = bl (List.replicate m true) := by
  rw [List.drop_zero, bl, bl, ← List.map_take, List.take_append_of_le_length (by simp; exact h), List.take_replicate, Nat.min_eq_left h]
set_option maxHeartbeats 1000000 in
theorem repeat_any (b0 n : Nat) (w0 : World) (hn : n ≤ 65535) (hb : w0.rangeAt b0 0 (bl [true])) :
    Calls Tryz.prog 115 #[.slice (some ⟨b0, 0, none⟩) 1 1, .int .i64 (n : Int)] w0 fun e w' => ∃ b, e = .returned (.slice (some ⟨b, 0, none⟩) n n) ∧ Own w0 none w' [.blk b (bl (List.replicate n true)) 4] := by
  have H := Own.start w0 none
  refine enterF func115 rfl ntmps115 rfl (fun a F => ?_);refine cSR fun K1 hK1=>sAs F rfl rfl rfl (qNK hK1 ?_);clear hK1;clear F a;intro a F;refine cSeq (fun K2 hK2 => ?_);refine cSR fun K3 hK3=>sMv F rfl rfl rfl (qBin rfl rfl rfl rfl bLss (qNK hK3 ?_));clear hK3;clear F a;intro a F
  refine cIf F rfl (fun h10 => ?_) (fun h10 => ?_)
  ·
   replace h10 := of_decide_eq_true h10
   omega
  replace h10 := of_decide_eq_false h10;refine wp_skip (hK2 _ _ (cSR fun K4 hK4=>sMv F rfl rfl rfl (qLen underlying176 rfl rfl rfl (qCv underlying3 underlying204 rfl rfl rfl (wrapU (by omega)) (qMv rfl rfl rfl (qCv underlying3 underlying204 rfl rfl rfl (wrapU (by omega)) ?_))))));clear hK2;clear F a;intro a F;refine sCall call149 F rfl rfl rfl (mul_any 1 n _ (by omega) hn) ?_;rintro e w ⟨rfl, hb2⟩
  replace H := H.grow hb2; clear hb2; rw [Nat.one_mul]
  refine ⟨_, rfl, ?_⟩;clear F a; intro a F;refine sMv F rfl rfl rfl (qExt rfl rfl rfl rfl (qExt rfl rfl rfl rfl (qAs rfl rfl rfl (qAs rfl rfl rfl (qNK hK4 ?_)))));clear hK4;clear F a;intro a F;refine cSeq (fun K5 hK5 => ?_);refine cSR fun K6 hK6=>sMv F rfl rfl rfl (qBin rfl rfl rfl rfl bGtr (qMv rfl rfl rfl ?_));clear F a;intro a F
  refine F.split 23 rfl ?_ ?_ <;> (clear F; intro h23 F)
  ·
   replace h23 := of_decide_eq_true h23
   omega
  replace h23 := of_decide_eq_false h23;refine sMv F rfl rfl rfl (qBin rfl rfl rfl rfl bGtr (qPk rfl rfl rfl rfl (qNK hK6 ?_)));clear hK6;clear F a;intro a F
  refine cIf F rfl (fun h26 => ?_) (fun h26 => ?_)
  ·
   replace h26 := of_decide_eq_true h26
   omega
  replace h26 := of_decide_eq_false h26;refine wp_skip (hK5 _ _ (cSR fun K7 hK7=>sMv F rfl rfl rfl (qCv underlying204 underlying3 rfl rfl rfl (wrapN (by omega)) ?_)));clear hK5;clear F a;intro a F;refine sMk (z := .bool false) (bytes := 1) H underlying176 (by kernel_rfl) rfl F rfl rfl rfl rfl (by omega) (by omega) ?_;clear F a H; intro b30 a w F H;refine sAs F rfl rfl rfl (qNK hK7 (qSR fun K8 hK8=>qMv rfl rfl rfl (qMv rfl rfl rfl ?_)));clear hK7;clear F a;intro a F
  refine sCpL H 0 underlying176 sizeOf4 F rfl rfl rfl rfl rfl ((fun j v hj => H.arg (hb j v (by rw [bl, List.getElem?_map, List.getElem?_take] at hj; split at hj; (· rw [bl, List.getElem?_map]; exact hj); (· cases hj))))) ((by simp [Nat.min_comm])) ((bl_one (([true] : List Bool).take (min 1 n)))) ((by simp; omega)) ?_
  clear F a H; intro a w F H;refine sAs F rfl rfl rfl (qNK hK8 ?_);clear hK8;clear F a;intro a F;refine cSeq (fun K9 hK9 => ?_);refine wp_block ?_
  refine cLoopR [7] (fun m ups w => ∃ k : Nat, m = n - k ∧ ups = [(8, .int .i64 ((k : Nat) : Int))] ∧ k ≤ n ∧ (n = k ∨ 1 ≤ k) ∧ Own w0 none w [.blk b30 (bl (List.replicate k true ++ List.replicate (n - k) false)) 4]) F (n - min 1 n) [(8, .int .i64 ((min 1 n : Nat) : Int))] (by repeat (first | exact SubR.nil | (apply SubR.cons; · rfl))) ?_ ?_ ?_
  · (rw [rep_start] at H
     exact ⟨min 1 n, rfl, rfl, by omega, by omega, H⟩)
  · repeat (first | exact trivial | refine Le.cons rfl ?_)
  clear F
  clear H
  intro m ups a w hI F
  obtain ⟨k, rfl, rfl, hk, hk1, H⟩ := hI
  refine cSeq (fun K10 hK10 => ?_);refine cSR fun K11 hK11=>sMv F rfl rfl rfl (qMv rfl rfl rfl (qLen underlying176 rfl rfl rfl (qBin rfl rfl rfl rfl bLss (qNK hK11 ?_))));clear hK11;clear F a;intro a F
  refine cIf F rfl (fun h37 => ?_) (fun h37 => ?_)
  ·
   replace h37 := of_decide_eq_true h37;refine wp_skip (hK10 _ _ ?_);clear hK10;refine wp_block ?_;refine cRegRO (by kernel_rfl) H ?_;replace H := H.drew;refine eTF 0 rfl (by kernel_rfl) F rfl rfl rfl (fun w=>rMv F rfl) H qq0 (qTF 1 rfl (by kernel_rfl) rfl rfl rfl (fun a F w=>rMv F rfl) H qq0 (qTF 2 rfl (by kernel_rfl) rfl rfl rfl (fun a F w=>rMv F rfl) H qq0 ?_));clear F a;intro a F
   refine eTake (k := 3) (i := 3) rfl (by kernel_rfl) F rfl rfl rfl rfl (fun w H => rSlL underlying176 sizeOf4 F rfl rfl ?_ ?_) (H.sel [0] rfl rfl) (fun _ _ _ h => h) ?_
   focus (first | omega | decide | (simp; omega))
   focus (first | omega | decide | (simp; omega))
   clear F a; intro a F;refine eTF 4 rfl (by kernel_rfl) F rfl rfl rfl (fun w=>rMv F rfl) H qq0 (qTF 5 rfl (by kernel_rfl) rfl rfl rfl (fun a F w=>rMv F rfl) H qq0 ?_);clear F a;intro a F
   refine eTake (k := 6) (i := 6) rfl (by kernel_rfl) F rfl rfl rfl rfl (fun w H => rSlH underlying176 (fun w => ⟨_, sizeOf4 w⟩) F rfl rfl ?_) (H.sel [0] rfl rfl) (fun _ _ _ h => h) ?_
   focus (first | omega | decide | (simp; omega))
   clear F a; intro a F;refine eOne (k := 7) (i := 7) rfl (by kernel_rfl) F rfl (oCpL H 0 underlying176 sizeOf4 F rfl rfl rfl rfl ((by have := H.range 0 rfl 0 (min k (n - k)); rw [take_rep (by omega)] at this; exact this)) ((by simp)) ((bl_one _)) ((by simp; omega)) ?_);clear F a H; intro a w F H;refine ePartO (by kernel_rfl) H ?_
   refine eTakeF (k := 8) (i := 8) rfl (by kernel_rfl) F rfl rfl rfl (fun w => rBin F rfl rfl (bAddN ?_)) (H.sel [0] rfl rfl) (fun _ _ _ h => h) ?_
   focus omega
   clear F a; intro a F;refine eTF 9 rfl (by kernel_rfl) F rfl rfl rfl (fun w=>rAs F rfl) H qq0 ?_;clear F a;intro a F;refine eNil (k := 10) (by kernel_rfl) ?_;rw [rep_step (by omega)] at H
   exact ⟨_, by omega, _, ⟨k + min k (n - k), rfl, rfl, by omega, by omega, H⟩, F.to (by repeat (first | exact trivial | refine Le.cons rfl ?_))⟩
  replace h37 := of_decide_eq_false h37
  obtain rfl : k = n := by omega
  rw [Nat.sub_self, List.replicate_zero, List.append_nil] at H;refine wp_exit ?_;refine hK9 _ _ (cSR fun K12 hK12=>sMv F rfl rfl rfl (qAs rfl rfl rfl (qNK hK12 ?_)));clear hK9 hK12;clear F a;intro a F;refine wp_ret ?_;refine bRet results115 F rfl ?_
  exact ⟨_, rfl, H.pick 0 rfl⟩
end Go.Proofs.YtbgnapmaimkpkaaGreatDoor
