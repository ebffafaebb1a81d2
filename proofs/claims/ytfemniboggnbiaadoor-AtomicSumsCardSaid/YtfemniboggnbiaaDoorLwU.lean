/-
  WALK2. The law AtomicSums. Conditions: block 0 holds the table of needs.
-/
import Derived.Test.YtfemniboggnbiaaDoorLwP
import Derived.Test.YtfemniboggnbiaaDoorRfP
import Derived.Test.YtfemniboggnbiaaDoorVcX
set_option linter.unusedSimpArgs false
set_option linter.unusedVariables false
namespace Go.Proofs.YtfemniboggnbiaaDoor
open Go.RowKit
set_option maxRecDepth 100000

/-- The program of the law. -/
def fP (a b c : UInt8) : Prg where
  name := ⟨#[102]⟩
  locs := [⟨#[120]⟩]
  init := [a]
  threads := [[⟨5, 0, 0, false, b, false, 0, 0, 0, 0⟩, ⟨4, 1, 0, false, c, false, 0, 0, 0, 0⟩, ⟨6, 2, 0, false, b, false, a, 0, 0, 0⟩]]
  ask := 3
  cond := .mk 0 0 0 0 []
theorem f_ins (op dst n m : UInt8) (h : op = 4 ∨ op = 5 ∨ op = 6) (hd : dst < 8) (hm : op ≠ 6 → m = 0) (k : Int) : insOk ⟨op, dst, 0, false, n, false, m, 0, 0, 0⟩ 1 k = true := by
  rcases h with rfl | rfl | rfl
  · obtain rfl := hm (by decide)
    rw [ins_4 rfl]; simp [want4, argOk, hd]
  · obtain rfl := hm (by decide)
    rw [ins_5 rfl]; simp [want4, argOk, hd]
  · rw [ins_6 rfl]; simp [want6, argOk, hd]
theorem f_right (a b c : UInt8) : rightErr (fP a b c) = 0 := by
  have h0 : demandK (fP a b c) 0 = true := by
    show oneWord ⟨#[102]⟩ = true
    kernel_rfl
  have h1 : demandK (fP a b c) 1 = true := by
    show locsOk (fP 0 0 0) = true
    kernel_rfl
  have h2 : demandK (fP a b c) 2 = true := rfl
  have h3 : demandK (fP a b c) 3 = true := by
    show threadsOk (fP a b c) = true
    simp only [threadsOk, fP, List.all_cons, List.all_nil, Bool.and_true, threadOk, insesOk, Bool.and_eq_true]
    exact ⟨by simp, f_ins 5 0 b 0 (.inr (.inl rfl)) (by decide) (fun _ => rfl) _, f_ins 4 1 c 0 (.inl rfl) (by decide) (fun _ => rfl) _, f_ins 6 2 b a (.inr (.inr rfl)) (by decide) (fun h => absurd rfl h) _⟩
  have h4 : demandK (fP a b c) 4 = true := rfl
  have h5 : demandK (fP a b c) 5 = true := rfl
  unfold rightErr rightFrom
  rw [if_pos h0]; unfold rightFrom
  rw [if_pos h1]; unfold rightFrom
  rw [if_pos h2]; unfold rightFrom
  rw [if_pos h3]; unfold rightFrom
  rw [if_pos h4]; unfold rightFrom
  rw [if_pos h5]; rfl
theorem f_enabled (a b c : UInt8) (s : By) : enabledP (fP a b c) s = if (s 0).toNat < 3 then [0] else [] := by
  show (List.range 1).filter _ = _
  rw [show List.range 1 = [0] from rfl]
  simp only [List.filter, mayP, fP, List.getElem?_cons_zero, Nat.zero_mul, List.length_cons, List.length_nil]
  by_cases h : (s 0).toNat < 3
  · simp [h]
  · simp [h]
section
variable (a b c : UInt8)
def f1 : By := moveP ⟨5, 0, 0, false, b, false, 0, 0, 0, 0⟩ (startP (fP a b c)) 0
def f2 : By := moveP ⟨4, 1, 0, false, c, false, 0, 0, 0, 0⟩ (f1 a b c) 0
def f3 : By := moveP ⟨6, 2, 0, false, b, false, a, 0, 0, 0⟩ (f2 a b c) 0
theorem f0_pc : startP (fP a b c) 0 = 0 := rfl
theorem f0_mem : startP (fP a b c) 36 = a := rfl
theorem f1_pc : f1 a b c 0 = 1 := rfl
theorem f1_mem : f1 a b c 36 = a + b := rfl
theorem f1_r0 : f1 a b c 1 = a := rfl
theorem f2_pc : f2 a b c 0 = 2 := rfl
theorem f2_mem : f2 a b c 36 = c := rfl
theorem f2_r0 : f2 a b c 1 = a := rfl
theorem f2_r1 : f2 a b c 2 = a + b := rfl
theorem f3_pc : f3 a b c 0 = 3 := rfl
theorem f3_mem : f3 a b c 36 = if c = b then a else c := rfl
theorem f3_r0 : f3 a b c 1 = a := rfl
theorem f3_r1 : f3 a b c 2 = a + b := rfl
theorem f3_r2 : f3 a b c 3 = c := rfl
theorem f_play : playR (fP a b c) [] = (f3 a b c, [0, 0, 0]) := by
  have e0 : enabledP (fP a b c) (startP (fP a b c)) = [0] := by rw [f_enabled, f0_pc]; rfl
  have e1 : enabledP (fP a b c) (f1 a b c) = [0] := by rw [f_enabled, f1_pc]; rfl
  have e2 : enabledP (fP a b c) (f2 a b c) = [0] := by rw [f_enabled, f2_pc]; rfl
  have e3 : enabledP (fP a b c) (f3 a b c) = [] := by rw [f_enabled, f3_pc]; rfl
  have s1 : stepP (fP a b c) (startP (fP a b c)) 0 = f1 a b c := stepP_at (l := _) rfl (by rw [Nat.zero_mul, f0_pc]; rfl)
  have s2 : stepP (fP a b c) (f1 a b c) 0 = f2 a b c := stepP_at (l := _) rfl (by rw [Nat.zero_mul, f1_pc]; rfl)
  have s3 : stepP (fP a b c) (f2 a b c) 0 = f3 a b c := stepP_at (l := _) rfl (by rw [Nat.zero_mul, f2_pc]; rfl)
  unfold playR
  rw [play_step (f := 47) (k := 0) (by rw [e0]; simp) (by rw [e0]; rfl), s1, play_step (f := 46) (k := 0) (by rw [e1]; simp) (by rw [e1]; rfl), s2, play_step (f := 45) (k := 0) (by rw [e2]; simp) (by rw [e2]; rfl), s3, play_end e3]
  rfl
end
theorem f_playO (a b c : UInt8) : playO (fP a b c) [] = [0, 0, 0] := by rw [playO, if_pos (f_right a b c), f_play]
theorem f_playF (a b c : UInt8) : playF (fP a b c) [] = finalP (f3 a b c) := by rw [playF, if_pos (f_right a b c), f_play]
theorem f_startE (a b c : UInt8) : startE (fP a b c) = 0 := if_pos (f_right a b c)
theorem g_r0 (a b c : UInt8) : finalP (f3 a b c) 0 = a := rfl
theorem g_r1 (a b c : UInt8) : finalP (f3 a b c) 1 = a + b := rfl
theorem g_r2 (a b c : UInt8) : finalP (f3 a b c) 2 = c := rfl
theorem g_mem (a b c : UInt8) : finalP (f3 a b c) 32 = if c = b then a else c := rfl
theorem reg_any (n : UInt8) (w0 : World) : Calls Tryd.prog 15 #[b8 n] w0 fun e w' => e = .returned (.agg #[.bool true, b8 n]) ∧ Below w0.heap.size w0 w' := by
  have H := Own.start w0 none
  refine enterF Tryd.func15 rfl Tryd.ntmps15 rfl (fun a F => ?_)
  refine cSeq (fun K1 hK1 => ?_)
  refine cReg ?_
  refine sAl H Tryd.zeroValue50 F rfl rfl ?_
  clear F a H; intro b2 a w F H
  refine sNil ?_
  refine hK1 _ _ ?_; clear hK1
  refine cSeq (fun K2 hK2 => ?_)
  refine cReg ?_
  refine sMv F rfl rfl rfl ?_
  clear F a; intro a F
  refine sBd (places := [(0, 1), (1, 1)]) Tryd.zeroValue50 Tryd.underlying50 (by kernel_rfl) F rfl rfl rfl rfl ?_
  clear F a; intro a F
  refine sSr H 0 ?si F rfl rfl rfl ?s1 rfl rfl ?_
  case si => exact info_size Tryd.sizeOf50
  case s1 => first | rfl | (repeat (first | exact one_nil | (apply one_cons; · first | rfl | assumption | exact one_bif rfl rfl)))
  clear H; intro w H
  refine sNil ?_
  refine hK2 _ _ ?_; clear hK2
  refine wp_ret ?_
  refine bRetC Tryd.results15 F rfl Tryd.underlying50 rfl H 0 rfl Tryd.sizeOf50 rfl ?_
  exact ⟨rfl, H.below⟩
/-- The three tests. -/
def tests (a b : UInt8) : List (UInt8 × Bool) := [(4, a == b), (5, a != b), (6, decide (a < b))]
theorem tests_skip {a b : UInt8} {j : Nat} {q : UInt8 × Bool} (h : (tests a b)[j]? = some q) : skipsP q.1 a b = q.2 := by
  match j, h with
  | 0, h => cases h; rfl
  | 1, h => cases h; rfl
  | 2, h => cases h; rfl
  | n + 3, h => simp [tests] at h
theorem tests_cells {a b : UInt8} {j : Nat} {q : UInt8 × Bool} (h : (tests a b)[j]? = some q) : (([b8 4, .bool (a == b), b8 5, .bool (a != b), b8 6, .bool (decide (a < b))] : List Value).drop (j * 2)).take 2 = [b8 q.1, .bool q.2] := by
  match j, h with
  | 0, h => cases h; rfl
  | 1, h => cases h; rfl
  | 2, h => cases h; rfl
  | n + 3, h => simp [tests] at h
theorem f_prog {w : World} {a b c : UInt8} {b1 b2 b3 b4 : Nat} (h1 : w.rangeAt b1 0 [.string ⟨#[120]⟩]) (h2 : w.rangeAt b2 0 [b8 a]) (h3 : w.rangeAt b3 0 [.slice (some ⟨b4, 0, none⟩) 3 3]) (h4 : w.rangeAt b4 0 (((fP a b c).threads.getD 0 []).map Ins.cells).flatten) :
    ProgAt w [.string ⟨#[102]⟩, .slice (some ⟨b1, 0, none⟩) 1 1, .slice (some ⟨b2, 0, none⟩) 1 1, .slice (some ⟨b3, 0, none⟩) 1 1, b8 3, b8 0, b8 0, b8 0, b8 0, .slice none 0 0] (fP a b c) := by
  refine ⟨some ⟨b1, 0, none⟩, 1, some ⟨b2, 0, none⟩, 1, some ⟨b3, 0, none⟩, 1, 1, [b8 0, b8 0, b8 0, b8 0, .slice none 0 0], ?_⟩
  have hone : ∀ (l : List Ins) (r : List Value), r ∈ l.map Ins.cells → r.length = 10 := fun l r hr => by
    obtain ⟨x, _, rfl⟩ := List.mem_map.1 hr; rfl
  refine ⟨rfl, (by show ((⟨#[102]⟩ : ByteArray).size ≤ maxLen); decide), RowsAt.ofRange (sz := 1) (rows := [[_]]) h1 (by simp), by simp [fP], by simp [fP], ?_, RowsAt.ofRange (sz := 1) (rows := [[_]]) h2 (by simp), by simp [fP], ?_, by simp [fP], none, 0, rfl, by decide, fun j kid hj => by simp at hj⟩
  · intro s hs
    have : s = ⟨#[120]⟩ := by simpa [fP] using hs
    subst this; decide
  · intro j t hj
    match j, hj with
    | 0, hj => cases hj; exact ⟨b3, 0, some ⟨b4, 0, none⟩, 3, rfl, h3 0 _ rfl, RowsAt.ofRange h4 (hone _), by simp⟩
    | n + 1, hj => simp [fP] at hj
/-- The thread of the law, and its instructions. -/
def sT (a b c : UInt8) : By := lay zb 1 8 (put (put (put zb 0 a) 1 b) 2 c)
def sI (fn p : UInt8) : Ins := ⟨3, 3, 0, true, p, true, 1, fn, 0, 0⟩
def sK (fn k : UInt8) : Ins := ⟨8, 0, 0, true, 0, true, 1, fn, 0, k⟩
section
variable (a b c : UInt8)
theorem sum_r0 : localP (sI 1 0) (sT a b c) 1 = a := rfl
theorem sum_r3 : localP (sI 1 0) (sT a b c) 4 = a + b := rfl
theorem diff_r3 : localP (sI 2 3) (localP (sI 1 0) (sT a b c)) 4 = a := by
  have : localP (sI 2 3) (localP (sI 1 0) (sT a b c)) 4 = (a + b) - b := rfl
  rw [this, UInt8.add_sub_cancel]
theorem diff_pc : localP (sI 2 3) (localP (sI 1 0) (sT a b c)) 0 = 2 := rfl
theorem even_r3 : localP (sI 3 3) (localP (sI 3 0) (sT a b c)) 4 = a := by
  have : localP (sI 3 3) (localP (sI 3 0) (sT a b c)) 4 = (a ^^^ b) ^^^ b := rfl
  rw [this, UInt8.xor_assoc, UInt8.xor_self, UInt8.xor_zero]
theorem skip_regs (fn k : UInt8) : same 8 (cut (localP (sK fn k) (sT a b c)) 1) (cut (sT a b c) 1) = true := by
  rw [same_iff]; intro i hi
  show put _ 0 _ (1 + i) = _
  unfold put; rw [if_neg (by omega)]; rfl
theorem skip_pc (fn k : UInt8) : localP (sK fn k) (sT a b c) 0 = if skipsP fn a b then 0 + k + 1 else 0 + 1 := rfl
theorem k_ne (k0 : UInt8) : k0 % 10 + 1 ≠ 0 := by
  intro h
  have h1 := congrArg UInt8.toNat h
  rw [UInt8.toNat_add, UInt8.toNat_mod] at h1
  have e1 : (1 : UInt8).toNat = 1 := rfl
  have e2 : (10 : UInt8).toNat = 10 := rfl
  have e3 : (0 : UInt8).toNat = 0 := rfl
  rw [e1, e2, e3] at h1
  have := Nat.mod_lt k0.toNat (show 0 < 10 by omega)
  omega
theorem skip_over (fn k0 : UInt8) : (localP (sK fn (k0 % 10 + 1)) (sT a b c) 0 == k0 % 10 + 1 + 1) = skipsP fn a b := by
  rw [skip_pc]
  cases skipsP fn a b
  · rw [if_neg (by simp)]
    apply beq_false_of_ne
    intro h
    have h2 : (0 : UInt8) = k0 % 10 + 1 := by
      have := congrArg (· - 1) h
      simpa using this
    exact k_ne k0 h2.symm
  · rw [if_pos rfl, UInt8.zero_add]; simp
end
theorem H_tests {w0 w : World} {row : Option Nat} {rs : List Res} (H : Own w0 row w rs) {a b : UInt8} {B : Nat} {e : TypeId} {j : Nat} {q : UInt8 × Bool} (i : Nat) (hi : rs[i]? = some (.blk B [b8 4, .bool (a == b), b8 5, .bool (a != b), b8 6, .bool (decide (a < b))] e)) (h : (tests a b)[j]? = some q) :
    w.rangeAt B (0 + j * 2) [b8 q.1, .bool q.2] := by
  have := H.range i hi (j * 2) 2
  rw [tests_cells h] at this
  rwa [Nat.zero_add]
set_option maxHeartbeats 4000000 in
theorem sums_any (va vb vc k0 : UInt8) (w0 : World) (hN : NeedsAt w0) :
    Calls Tryd.prog 4 #[b8 va, b8 vb, b8 vc, b8 k0] w0 fun e w' => e = .returned (.bool true) ∧ Below w0.heap.size w0 w' := by
  have H := Own.start w0 none
  refine enterF Tryd.func4 rfl Tryd.ntmps4 rfl (fun a F => ?_)
  refine cSeq (fun K1 hK1 => ?_)
  refine cReg ?_
  refine sAs F rfl rfl rfl ?_
  clear F a; intro a F
  refine sNil ?_
  refine hK1 _ _ ?_; clear hK1
  refine cSeq (fun K2 hK2 => ?_)
  refine cReg ?_
  refine sMv F rfl rfl rfl ?_
  clear F a; intro a F
  refine sMv F rfl rfl rfl ?_
  clear F a; intro a F
  refine sMv F rfl rfl rfl ?_
  clear F a; intro a F
  refine sBaB zB30 Tryd.underlying30 Tryd.sizeOf5 F rfl rfl rfl (FillB.one rfl rfl (FillB.one rfl rfl (FillB.one rfl rfl FillB.nil))) ?_
  clear F a; intro a F
  refine sBdB (places := [(0, 1), (1, 8)]) zB32 Tryd.underlying32 (by kernel_rfl) F rfl rfl rfl (FillB.row rfl rfl FillB.nil) ?_
  clear F a; intro a F
  refine sAlB H zB32 F rfl rfl ?_
  clear F a H; intro b9 a w F H
  refine sSrB H 0 Tryd.sizeOf32 F rfl rfl rfl rfl (by omega) ?_
  clear H; intro w H
  rw [lay_all] at H
  refine sNil ?_
  refine hK2 _ _ ?_; clear hK2
  refine cSeq (fun K3 hK3 => ?_)
  refine cReg ?_
  refine sAs F rfl rfl rfl ?_
  clear F a; intro a F
  refine sNil ?_
  refine hK3 _ _ ?_; clear hK3
  refine cSeq (fun K4 hK4 => ?_)
  refine cRegRO (by kernel_rfl) H ?_
  replace H := H.drew
  refine eTakeF (k := 0) (i := 0) rfl (by kernel_rfl) F rfl rfl rfl (fun w => rMv F rfl) (H.sel [0] rfl rfl) (fun _ _ _ h => h) ?_
  clear F a; intro a F
  refine eTakeF (k := 1) (i := 2) rfl (by kernel_rfl) F rfl rfl rfl (fun w => rMv F rfl) (H.sel [0] rfl rfl) (fun _ _ _ h => h) ?_
  clear F a; intro a F
  refine eTake (k := 2) (i := 5) rfl (by kernel_rfl) F rfl rfl rfl rfl (fun w H => rLrB Tryd.underlying32 rfl Tryd.sizeOf32 F rfl (H.whole 0 rfl)) (H.sel [0] rfl rfl) (fun _ _ _ h => h) ?_
  clear F a; intro a F
  refine eJoin F H [0, 1, 2, 3, 9, 10] 11 [true, true, true, true, true, true, true, true, true, true, true, false, false] (fun rs ups w => ∃ b11, ups = [(36, .agg #[.bool true, Go.Proofs.YtfemniboggnbiaaDoor.b8 0]), (38, .agg #[.bool true, Go.Proofs.YtfemniboggnbiaaDoor.b8 1]), (42, .agg (bs 9 (localP (sI 1 0) (sT va vb vc))).toArray), (43, .bool true), (11, .pointer (some ⟨b11, 0, none⟩))] ∧ Own w0 none w ((.blk b11 (bs 9 zb) 32) :: rs)) (by repeat (first | exact SubR.nil | (apply SubR.cons; · rfl))) ?_ (fun hJ => ?_)
  rotate_left
  ·
    refine eTwo (k := 3) (i := 1) (j := 10) (by kernel_rfl) F rfl rfl rfl rfl ?_ ?_
    ·
      refine oCallF F rfl rfl Tryd.call15 rfl (reg_any 0 _) ?_
      rintro e w ⟨rfl, hb⟩
      replace H := H.grow hb; clear hb
      refine ⟨_, rfl, ?_⟩
      clear F a; intro a F
      refine eKeep (H.sel [0] rfl rfl) ?_
      refine eTwo (k := 4) (i := 3) (j := 10) (by kernel_rfl) F rfl rfl rfl rfl ?_ ?_
      ·
        refine oCallF F rfl rfl Tryd.call15 rfl (reg_any 1 _) ?_
        rintro e w ⟨rfl, hb⟩
        replace H := H.grow hb; clear hb
        refine ⟨_, rfl, ?_⟩
        clear F a; intro a F
        refine eKeep (H.sel [0] rfl rfl) ?_
        refine eTake (k := 5) (i := 4) rfl (by kernel_rfl) F rfl rfl rfl rfl (fun w H => rBd (places := [(0, 1), (1, 1), (2, 1), (3, 2), (5, 2), (7, 1), (8, 1), (9, 1)]) Tryd.zeroValue52 Tryd.underlying52 (by kernel_rfl) F rfl rfl) (H.sel [0] rfl rfl) (fun _ _ _ h => h) ?_
        clear F a; intro a F
        refine eTwo (k := 6) (i := 6) (j := 10) (by kernel_rfl) F rfl rfl rfl rfl ?_ ?_
        ·
          refine oCall Tryd.call16 F rfl rfl (local_any (sI 1 0) (sT va vb vc) _) ?_
          rintro e w ⟨rfl, hb⟩
          replace H := H.grow hb; clear hb
          refine ⟨_, rfl, ?_⟩
          clear F a; intro a F
          refine eKeep (H.sel [0] rfl rfl) ?_
          refine eTakeF (k := 7) (i := 7) rfl (by kernel_rfl) F rfl rfl rfl (fun w => rMv F rfl) (H.sel [0] rfl rfl) (fun _ _ _ h => h) ?_
          clear F a; intro a F
          refine eTakeF (k := 8) (i := 8) rfl (by kernel_rfl) F rfl rfl rfl (fun w => rExt F rfl rfl) (H.sel [0] rfl rfl) (fun _ _ _ h => h) ?_
          clear F a; intro a F
          refine eTakeF (k := 9) (i := 9) rfl (by kernel_rfl) F rfl rfl rfl (fun w => rExt F rfl rfl) (H.sel [0] rfl rfl) (fun _ _ _ h => h) ?_
          clear F a; intro a F
          refine eOne (k := 10) (i := 10) rfl (by kernel_rfl) F rfl (oAlB H zB32 F rfl ?_)
          clear F a H; intro b11 a w F H
          refine eKeep (H.sel [1] rfl rfl) ?_
          exact eGo hJ (by kernel_rfl) _ ⟨b11, rfl, H.sel [0, 1] rfl rfl⟩ (F.to (by repeat (first | exact trivial | refine Le.cons rfl ?_)))
        ·
          refine oAlB H zB32 F rfl ?_
          clear F a H; intro b11 a w F H
          refine eKeep (H.sel [1] rfl rfl) ?_
          refine eOne (k := 7) (i := 6) rfl (by kernel_rfl) F rfl (oCall Tryd.call16 F rfl rfl (local_any (sI 1 0) (sT va vb vc) _) ?_)
          rintro e w ⟨rfl, hb⟩
          replace H := H.grow hb; clear hb
          refine ⟨_, rfl, ?_⟩
          clear F a; intro a F
          refine eKeep (H.sel [1] rfl rfl) ?_
          refine eTakeF (k := 8) (i := 7) rfl (by kernel_rfl) F rfl rfl rfl (fun w => rMv F rfl) (H.sel [1] rfl rfl) (fun _ _ _ h => h) ?_
          clear F a; intro a F
          refine eTakeF (k := 9) (i := 8) rfl (by kernel_rfl) F rfl rfl rfl (fun w => rExt F rfl rfl) (H.sel [1] rfl rfl) (fun _ _ _ h => h) ?_
          clear F a; intro a F
          refine eTakeF (k := 10) (i := 9) rfl (by kernel_rfl) F rfl rfl rfl (fun w => rExt F rfl rfl) (H.sel [1] rfl rfl) (fun _ _ _ h => h) ?_
          clear F a; intro a F
          exact eGo hJ (by kernel_rfl) _ ⟨b11, rfl, H.sel [0, 1] rfl rfl⟩ (F.to (by repeat (first | exact trivial | refine Le.cons rfl ?_)))
      ·
        refine oAlB H zB32 F rfl ?_
        clear F a H; intro b11 a w F H
        refine eKeep (H.sel [1] rfl rfl) ?_
        refine eOne (k := 5) (i := 3) rfl (by kernel_rfl) F rfl (oCallF F rfl rfl Tryd.call15 rfl (reg_any 1 _) ?_)
        rintro e w ⟨rfl, hb⟩
        replace H := H.grow hb; clear hb
        refine ⟨_, rfl, ?_⟩
        clear F a; intro a F
        refine eKeep (H.sel [1] rfl rfl) ?_
        refine eTake (k := 6) (i := 4) rfl (by kernel_rfl) F rfl rfl rfl rfl (fun w H => rBd (places := [(0, 1), (1, 1), (2, 1), (3, 2), (5, 2), (7, 1), (8, 1), (9, 1)]) Tryd.zeroValue52 Tryd.underlying52 (by kernel_rfl) F rfl rfl) (H.sel [1] rfl rfl) (fun _ _ _ h => h) ?_
        clear F a; intro a F
        refine eOne (k := 7) (i := 6) rfl (by kernel_rfl) F rfl (oCall Tryd.call16 F rfl rfl (local_any (sI 1 0) (sT va vb vc) _) ?_)
        rintro e w ⟨rfl, hb⟩
        replace H := H.grow hb; clear hb
        refine ⟨_, rfl, ?_⟩
        clear F a; intro a F
        refine eKeep (H.sel [1] rfl rfl) ?_
        refine eTakeF (k := 8) (i := 7) rfl (by kernel_rfl) F rfl rfl rfl (fun w => rMv F rfl) (H.sel [1] rfl rfl) (fun _ _ _ h => h) ?_
        clear F a; intro a F
        refine eTakeF (k := 9) (i := 8) rfl (by kernel_rfl) F rfl rfl rfl (fun w => rExt F rfl rfl) (H.sel [1] rfl rfl) (fun _ _ _ h => h) ?_
        clear F a; intro a F
        refine eTakeF (k := 10) (i := 9) rfl (by kernel_rfl) F rfl rfl rfl (fun w => rExt F rfl rfl) (H.sel [1] rfl rfl) (fun _ _ _ h => h) ?_
        clear F a; intro a F
        exact eGo hJ (by kernel_rfl) _ ⟨b11, rfl, H.sel [0, 1] rfl rfl⟩ (F.to (by repeat (first | exact trivial | refine Le.cons rfl ?_)))
    ·
      refine oAlB H zB32 F rfl ?_
      clear F a H; intro b11 a w F H
      refine eKeep (H.sel [1] rfl rfl) ?_
      refine eOne (k := 4) (i := 1) rfl (by kernel_rfl) F rfl (oCallF F rfl rfl Tryd.call15 rfl (reg_any 0 _) ?_)
      rintro e w ⟨rfl, hb⟩
      replace H := H.grow hb; clear hb
      refine ⟨_, rfl, ?_⟩
      clear F a; intro a F
      refine eKeep (H.sel [1] rfl rfl) ?_
      refine eOne (k := 5) (i := 3) rfl (by kernel_rfl) F rfl (oCallF F rfl rfl Tryd.call15 rfl (reg_any 1 _) ?_)
      rintro e w ⟨rfl, hb⟩
      replace H := H.grow hb; clear hb
      refine ⟨_, rfl, ?_⟩
      clear F a; intro a F
      refine eKeep (H.sel [1] rfl rfl) ?_
      refine eTake (k := 6) (i := 4) rfl (by kernel_rfl) F rfl rfl rfl rfl (fun w H => rBd (places := [(0, 1), (1, 1), (2, 1), (3, 2), (5, 2), (7, 1), (8, 1), (9, 1)]) Tryd.zeroValue52 Tryd.underlying52 (by kernel_rfl) F rfl rfl) (H.sel [1] rfl rfl) (fun _ _ _ h => h) ?_
      clear F a; intro a F
      refine eOne (k := 7) (i := 6) rfl (by kernel_rfl) F rfl (oCall Tryd.call16 F rfl rfl (local_any (sI 1 0) (sT va vb vc) _) ?_)
      rintro e w ⟨rfl, hb⟩
      replace H := H.grow hb; clear hb
      refine ⟨_, rfl, ?_⟩
      clear F a; intro a F
      refine eKeep (H.sel [1] rfl rfl) ?_
      refine eTakeF (k := 8) (i := 7) rfl (by kernel_rfl) F rfl rfl rfl (fun w => rMv F rfl) (H.sel [1] rfl rfl) (fun _ _ _ h => h) ?_
      clear F a; intro a F
      refine eTakeF (k := 9) (i := 8) rfl (by kernel_rfl) F rfl rfl rfl (fun w => rExt F rfl rfl) (H.sel [1] rfl rfl) (fun _ _ _ h => h) ?_
      clear F a; intro a F
      refine eTakeF (k := 10) (i := 9) rfl (by kernel_rfl) F rfl rfl rfl (fun w => rExt F rfl rfl) (H.sel [1] rfl rfl) (fun _ _ _ h => h) ?_
      clear F a; intro a F
      exact eGo hJ (by kernel_rfl) _ ⟨b11, rfl, H.sel [0, 1] rfl rfl⟩ (F.to (by repeat (first | exact trivial | refine Le.cons rfl ?_)))
  clear F H; intro ups a w hI F
  obtain ⟨b11, rfl, H⟩ := hI
  refine eOne (k := 11) (i := 11) rfl (by kernel_rfl) F rfl (oSrB H 0 Tryd.sizeOf32 F rfl rfl rfl (by omega) ?_)
  clear H; intro w H
  rw [lay_all] at H
  refine ePartO (by kernel_rfl) H ?_
  refine eTakeF (k := 12) (i := 12) rfl (by kernel_rfl) F rfl rfl rfl (fun w => rAs F rfl) (H.sel [0, 1] rfl rfl) (fun _ _ _ h => h) ?_
  clear F a; intro a F
  refine eNil (k := 13) (by kernel_rfl) ?_
  refine hK4 _ _ ?_; clear hK4
  refine cSeq (fun K5 hK5 => ?_)
  refine cRegRO (by kernel_rfl) H ?_
  replace H := H.drew
  refine eTakeF (k := 0) (i := 0) rfl (by kernel_rfl) F rfl rfl rfl (fun w => rMv F rfl) (H.sel [0, 1] rfl rfl) (fun _ _ _ h => h) ?_
  clear F a; intro a F
  refine eTakeF (k := 1) (i := 2) rfl (by kernel_rfl) F rfl rfl rfl (fun w => rMv F rfl) (H.sel [0, 1] rfl rfl) (fun _ _ _ h => h) ?_
  clear F a; intro a F
  refine eTake (k := 2) (i := 5) rfl (by kernel_rfl) F rfl rfl rfl rfl (fun w H => rLrB Tryd.underlying32 rfl Tryd.sizeOf32 F rfl (H.whole 0 rfl)) (H.sel [0, 1] rfl rfl) (fun _ _ _ h => h) ?_
  clear F a; intro a F
  refine eJoin F H [0, 1, 2, 3, 9, 10, 11] 11 [true, true, true, true, true, true, true, true, true, true, true, false, false] (fun rs ups w => ∃ b13, ups = [(46, .agg #[.bool true, Go.Proofs.YtfemniboggnbiaaDoor.b8 3]), (48, .agg #[.bool true, Go.Proofs.YtfemniboggnbiaaDoor.b8 1]), (52, .agg (bs 9 (localP (sI 2 3) (localP (sI 1 0) (sT va vb vc)))).toArray), (53, .bool true), (13, .pointer (some ⟨b13, 0, none⟩))] ∧ Own w0 none w ((.blk b13 (bs 9 zb) 32) :: rs)) (by repeat (first | exact SubR.nil | (apply SubR.cons; · rfl))) ?_ (fun hJ => ?_)
  rotate_left
  ·
    refine eTwo (k := 3) (i := 1) (j := 10) (by kernel_rfl) F rfl rfl rfl rfl ?_ ?_
    ·
      refine oCallF F rfl rfl Tryd.call15 rfl (reg_any 3 _) ?_
      rintro e w ⟨rfl, hb⟩
      replace H := H.grow hb; clear hb
      refine ⟨_, rfl, ?_⟩
      clear F a; intro a F
      refine eKeep (H.sel [0, 1] rfl rfl) ?_
      refine eTwo (k := 4) (i := 3) (j := 10) (by kernel_rfl) F rfl rfl rfl rfl ?_ ?_
      ·
        refine oCallF F rfl rfl Tryd.call15 rfl (reg_any 1 _) ?_
        rintro e w ⟨rfl, hb⟩
        replace H := H.grow hb; clear hb
        refine ⟨_, rfl, ?_⟩
        clear F a; intro a F
        refine eKeep (H.sel [0, 1] rfl rfl) ?_
        refine eTake (k := 5) (i := 4) rfl (by kernel_rfl) F rfl rfl rfl rfl (fun w H => rBd (places := [(0, 1), (1, 1), (2, 1), (3, 2), (5, 2), (7, 1), (8, 1), (9, 1)]) Tryd.zeroValue52 Tryd.underlying52 (by kernel_rfl) F rfl rfl) (H.sel [0, 1] rfl rfl) (fun _ _ _ h => h) ?_
        clear F a; intro a F
        refine eTwo (k := 6) (i := 6) (j := 10) (by kernel_rfl) F rfl rfl rfl rfl ?_ ?_
        ·
          refine oCall Tryd.call16 F rfl rfl (local_any (sI 2 3) (localP (sI 1 0) (sT va vb vc)) _) ?_
          rintro e w ⟨rfl, hb⟩
          replace H := H.grow hb; clear hb
          refine ⟨_, rfl, ?_⟩
          clear F a; intro a F
          refine eKeep (H.sel [0, 1] rfl rfl) ?_
          refine eTakeF (k := 7) (i := 7) rfl (by kernel_rfl) F rfl rfl rfl (fun w => rMv F rfl) (H.sel [0, 1] rfl rfl) (fun _ _ _ h => h) ?_
          clear F a; intro a F
          refine eTakeF (k := 8) (i := 8) rfl (by kernel_rfl) F rfl rfl rfl (fun w => rExt F rfl rfl) (H.sel [0, 1] rfl rfl) (fun _ _ _ h => h) ?_
          clear F a; intro a F
          refine eTakeF (k := 9) (i := 9) rfl (by kernel_rfl) F rfl rfl rfl (fun w => rExt F rfl rfl) (H.sel [0, 1] rfl rfl) (fun _ _ _ h => h) ?_
          clear F a; intro a F
          refine eOne (k := 10) (i := 10) rfl (by kernel_rfl) F rfl (oAlB H zB32 F rfl ?_)
          clear F a H; intro b13 a w F H
          refine eKeep (H.sel [1, 2] rfl rfl) ?_
          exact eGo hJ (by kernel_rfl) _ ⟨b13, rfl, H.sel [0, 1, 2] rfl rfl⟩ (F.to (by repeat (first | exact trivial | refine Le.cons rfl ?_)))
        ·
          refine oAlB H zB32 F rfl ?_
          clear F a H; intro b13 a w F H
          refine eKeep (H.sel [1, 2] rfl rfl) ?_
          refine eOne (k := 7) (i := 6) rfl (by kernel_rfl) F rfl (oCall Tryd.call16 F rfl rfl (local_any (sI 2 3) (localP (sI 1 0) (sT va vb vc)) _) ?_)
          rintro e w ⟨rfl, hb⟩
          replace H := H.grow hb; clear hb
          refine ⟨_, rfl, ?_⟩
          clear F a; intro a F
          refine eKeep (H.sel [1, 2] rfl rfl) ?_
          refine eTakeF (k := 8) (i := 7) rfl (by kernel_rfl) F rfl rfl rfl (fun w => rMv F rfl) (H.sel [1, 2] rfl rfl) (fun _ _ _ h => h) ?_
          clear F a; intro a F
          refine eTakeF (k := 9) (i := 8) rfl (by kernel_rfl) F rfl rfl rfl (fun w => rExt F rfl rfl) (H.sel [1, 2] rfl rfl) (fun _ _ _ h => h) ?_
          clear F a; intro a F
          refine eTakeF (k := 10) (i := 9) rfl (by kernel_rfl) F rfl rfl rfl (fun w => rExt F rfl rfl) (H.sel [1, 2] rfl rfl) (fun _ _ _ h => h) ?_
          clear F a; intro a F
          exact eGo hJ (by kernel_rfl) _ ⟨b13, rfl, H.sel [0, 1, 2] rfl rfl⟩ (F.to (by repeat (first | exact trivial | refine Le.cons rfl ?_)))
      ·
        refine oAlB H zB32 F rfl ?_
        clear F a H; intro b13 a w F H
        refine eKeep (H.sel [1, 2] rfl rfl) ?_
        refine eOne (k := 5) (i := 3) rfl (by kernel_rfl) F rfl (oCallF F rfl rfl Tryd.call15 rfl (reg_any 1 _) ?_)
        rintro e w ⟨rfl, hb⟩
        replace H := H.grow hb; clear hb
        refine ⟨_, rfl, ?_⟩
        clear F a; intro a F
        refine eKeep (H.sel [1, 2] rfl rfl) ?_
        refine eTake (k := 6) (i := 4) rfl (by kernel_rfl) F rfl rfl rfl rfl (fun w H => rBd (places := [(0, 1), (1, 1), (2, 1), (3, 2), (5, 2), (7, 1), (8, 1), (9, 1)]) Tryd.zeroValue52 Tryd.underlying52 (by kernel_rfl) F rfl rfl) (H.sel [1, 2] rfl rfl) (fun _ _ _ h => h) ?_
        clear F a; intro a F
        refine eOne (k := 7) (i := 6) rfl (by kernel_rfl) F rfl (oCall Tryd.call16 F rfl rfl (local_any (sI 2 3) (localP (sI 1 0) (sT va vb vc)) _) ?_)
        rintro e w ⟨rfl, hb⟩
        replace H := H.grow hb; clear hb
        refine ⟨_, rfl, ?_⟩
        clear F a; intro a F
        refine eKeep (H.sel [1, 2] rfl rfl) ?_
        refine eTakeF (k := 8) (i := 7) rfl (by kernel_rfl) F rfl rfl rfl (fun w => rMv F rfl) (H.sel [1, 2] rfl rfl) (fun _ _ _ h => h) ?_
        clear F a; intro a F
        refine eTakeF (k := 9) (i := 8) rfl (by kernel_rfl) F rfl rfl rfl (fun w => rExt F rfl rfl) (H.sel [1, 2] rfl rfl) (fun _ _ _ h => h) ?_
        clear F a; intro a F
        refine eTakeF (k := 10) (i := 9) rfl (by kernel_rfl) F rfl rfl rfl (fun w => rExt F rfl rfl) (H.sel [1, 2] rfl rfl) (fun _ _ _ h => h) ?_
        clear F a; intro a F
        exact eGo hJ (by kernel_rfl) _ ⟨b13, rfl, H.sel [0, 1, 2] rfl rfl⟩ (F.to (by repeat (first | exact trivial | refine Le.cons rfl ?_)))
    ·
      refine oAlB H zB32 F rfl ?_
      clear F a H; intro b13 a w F H
      refine eKeep (H.sel [1, 2] rfl rfl) ?_
      refine eOne (k := 4) (i := 1) rfl (by kernel_rfl) F rfl (oCallF F rfl rfl Tryd.call15 rfl (reg_any 3 _) ?_)
      rintro e w ⟨rfl, hb⟩
      replace H := H.grow hb; clear hb
      refine ⟨_, rfl, ?_⟩
      clear F a; intro a F
      refine eKeep (H.sel [1, 2] rfl rfl) ?_
      refine eOne (k := 5) (i := 3) rfl (by kernel_rfl) F rfl (oCallF F rfl rfl Tryd.call15 rfl (reg_any 1 _) ?_)
      rintro e w ⟨rfl, hb⟩
      replace H := H.grow hb; clear hb
      refine ⟨_, rfl, ?_⟩
      clear F a; intro a F
      refine eKeep (H.sel [1, 2] rfl rfl) ?_
      refine eTake (k := 6) (i := 4) rfl (by kernel_rfl) F rfl rfl rfl rfl (fun w H => rBd (places := [(0, 1), (1, 1), (2, 1), (3, 2), (5, 2), (7, 1), (8, 1), (9, 1)]) Tryd.zeroValue52 Tryd.underlying52 (by kernel_rfl) F rfl rfl) (H.sel [1, 2] rfl rfl) (fun _ _ _ h => h) ?_
      clear F a; intro a F
      refine eOne (k := 7) (i := 6) rfl (by kernel_rfl) F rfl (oCall Tryd.call16 F rfl rfl (local_any (sI 2 3) (localP (sI 1 0) (sT va vb vc)) _) ?_)
      rintro e w ⟨rfl, hb⟩
      replace H := H.grow hb; clear hb
      refine ⟨_, rfl, ?_⟩
      clear F a; intro a F
      refine eKeep (H.sel [1, 2] rfl rfl) ?_
      refine eTakeF (k := 8) (i := 7) rfl (by kernel_rfl) F rfl rfl rfl (fun w => rMv F rfl) (H.sel [1, 2] rfl rfl) (fun _ _ _ h => h) ?_
      clear F a; intro a F
      refine eTakeF (k := 9) (i := 8) rfl (by kernel_rfl) F rfl rfl rfl (fun w => rExt F rfl rfl) (H.sel [1, 2] rfl rfl) (fun _ _ _ h => h) ?_
      clear F a; intro a F
      refine eTakeF (k := 10) (i := 9) rfl (by kernel_rfl) F rfl rfl rfl (fun w => rExt F rfl rfl) (H.sel [1, 2] rfl rfl) (fun _ _ _ h => h) ?_
      clear F a; intro a F
      exact eGo hJ (by kernel_rfl) _ ⟨b13, rfl, H.sel [0, 1, 2] rfl rfl⟩ (F.to (by repeat (first | exact trivial | refine Le.cons rfl ?_)))
  clear F H; intro ups a w hI F
  obtain ⟨b13, rfl, H⟩ := hI
  refine eOne (k := 11) (i := 11) rfl (by kernel_rfl) F rfl (oSrB H 0 Tryd.sizeOf32 F rfl rfl rfl (by omega) ?_)
  clear H; intro w H
  rw [lay_all] at H
  refine ePartO (by kernel_rfl) H ?_
  refine eTakeF (k := 12) (i := 12) rfl (by kernel_rfl) F rfl rfl rfl (fun w => rAs F rfl) (H.sel [0, 1, 2] rfl rfl) (fun _ _ _ h => h) ?_
  clear F a; intro a F
  refine eNil (k := 13) (by kernel_rfl) ?_
  refine hK5 _ _ ?_; clear hK5
  refine cSeq (fun K6 hK6 => ?_)
  refine cRegRO (by kernel_rfl) H ?_
  replace H := H.drew
  refine eTakeF (k := 0) (i := 0) rfl (by kernel_rfl) F rfl rfl rfl (fun w => rMv F rfl) (H.sel [0, 1, 2] rfl rfl) (fun _ _ _ h => h) ?_
  clear F a; intro a F
  refine eTakeF (k := 1) (i := 2) rfl (by kernel_rfl) F rfl rfl rfl (fun w => rMv F rfl) (H.sel [0, 1, 2] rfl rfl) (fun _ _ _ h => h) ?_
  clear F a; intro a F
  refine eTake (k := 2) (i := 5) rfl (by kernel_rfl) F rfl rfl rfl rfl (fun w H => rLrB Tryd.underlying32 rfl Tryd.sizeOf32 F rfl (H.whole 2 rfl)) (H.sel [0, 1, 2] rfl rfl) (fun _ _ _ h => h) ?_
  clear F a; intro a F
  refine eJoin F H [0, 1, 2, 3, 9, 10, 11, 13] 11 [true, true, true, true, true, true, true, true, true, true, true, false, false] (fun rs ups w => ∃ b15, ups = [(56, .agg #[.bool true, Go.Proofs.YtfemniboggnbiaaDoor.b8 0]), (58, .agg #[.bool true, Go.Proofs.YtfemniboggnbiaaDoor.b8 1]), (62, .agg (bs 9 (localP (sI 3 0) (sT va vb vc))).toArray), (63, .bool true), (15, .pointer (some ⟨b15, 0, none⟩))] ∧ Own w0 none w ((.blk b15 (bs 9 zb) 32) :: rs)) (by repeat (first | exact SubR.nil | (apply SubR.cons; · rfl))) ?_ (fun hJ => ?_)
  rotate_left
  ·
    refine eTwo (k := 3) (i := 1) (j := 10) (by kernel_rfl) F rfl rfl rfl rfl ?_ ?_
    ·
      refine oCallF F rfl rfl Tryd.call15 rfl (reg_any 0 _) ?_
      rintro e w ⟨rfl, hb⟩
      replace H := H.grow hb; clear hb
      refine ⟨_, rfl, ?_⟩
      clear F a; intro a F
      refine eKeep (H.sel [0, 1, 2] rfl rfl) ?_
      refine eTwo (k := 4) (i := 3) (j := 10) (by kernel_rfl) F rfl rfl rfl rfl ?_ ?_
      ·
        refine oCallF F rfl rfl Tryd.call15 rfl (reg_any 1 _) ?_
        rintro e w ⟨rfl, hb⟩
        replace H := H.grow hb; clear hb
        refine ⟨_, rfl, ?_⟩
        clear F a; intro a F
        refine eKeep (H.sel [0, 1, 2] rfl rfl) ?_
        refine eTake (k := 5) (i := 4) rfl (by kernel_rfl) F rfl rfl rfl rfl (fun w H => rBd (places := [(0, 1), (1, 1), (2, 1), (3, 2), (5, 2), (7, 1), (8, 1), (9, 1)]) Tryd.zeroValue52 Tryd.underlying52 (by kernel_rfl) F rfl rfl) (H.sel [0, 1, 2] rfl rfl) (fun _ _ _ h => h) ?_
        clear F a; intro a F
        refine eTwo (k := 6) (i := 6) (j := 10) (by kernel_rfl) F rfl rfl rfl rfl ?_ ?_
        ·
          refine oCall Tryd.call16 F rfl rfl (local_any (sI 3 0) (sT va vb vc) _) ?_
          rintro e w ⟨rfl, hb⟩
          replace H := H.grow hb; clear hb
          refine ⟨_, rfl, ?_⟩
          clear F a; intro a F
          refine eKeep (H.sel [0, 1, 2] rfl rfl) ?_
          refine eTakeF (k := 7) (i := 7) rfl (by kernel_rfl) F rfl rfl rfl (fun w => rMv F rfl) (H.sel [0, 1, 2] rfl rfl) (fun _ _ _ h => h) ?_
          clear F a; intro a F
          refine eTakeF (k := 8) (i := 8) rfl (by kernel_rfl) F rfl rfl rfl (fun w => rExt F rfl rfl) (H.sel [0, 1, 2] rfl rfl) (fun _ _ _ h => h) ?_
          clear F a; intro a F
          refine eTakeF (k := 9) (i := 9) rfl (by kernel_rfl) F rfl rfl rfl (fun w => rExt F rfl rfl) (H.sel [0, 1, 2] rfl rfl) (fun _ _ _ h => h) ?_
          clear F a; intro a F
          refine eOne (k := 10) (i := 10) rfl (by kernel_rfl) F rfl (oAlB H zB32 F rfl ?_)
          clear F a H; intro b15 a w F H
          refine eKeep (H.sel [1, 2, 3] rfl rfl) ?_
          exact eGo hJ (by kernel_rfl) _ ⟨b15, rfl, H.sel [0, 1, 2, 3] rfl rfl⟩ (F.to (by repeat (first | exact trivial | refine Le.cons rfl ?_)))
        ·
          refine oAlB H zB32 F rfl ?_
          clear F a H; intro b15 a w F H
          refine eKeep (H.sel [1, 2, 3] rfl rfl) ?_
          refine eOne (k := 7) (i := 6) rfl (by kernel_rfl) F rfl (oCall Tryd.call16 F rfl rfl (local_any (sI 3 0) (sT va vb vc) _) ?_)
          rintro e w ⟨rfl, hb⟩
          replace H := H.grow hb; clear hb
          refine ⟨_, rfl, ?_⟩
          clear F a; intro a F
          refine eKeep (H.sel [1, 2, 3] rfl rfl) ?_
          refine eTakeF (k := 8) (i := 7) rfl (by kernel_rfl) F rfl rfl rfl (fun w => rMv F rfl) (H.sel [1, 2, 3] rfl rfl) (fun _ _ _ h => h) ?_
          clear F a; intro a F
          refine eTakeF (k := 9) (i := 8) rfl (by kernel_rfl) F rfl rfl rfl (fun w => rExt F rfl rfl) (H.sel [1, 2, 3] rfl rfl) (fun _ _ _ h => h) ?_
          clear F a; intro a F
          refine eTakeF (k := 10) (i := 9) rfl (by kernel_rfl) F rfl rfl rfl (fun w => rExt F rfl rfl) (H.sel [1, 2, 3] rfl rfl) (fun _ _ _ h => h) ?_
          clear F a; intro a F
          exact eGo hJ (by kernel_rfl) _ ⟨b15, rfl, H.sel [0, 1, 2, 3] rfl rfl⟩ (F.to (by repeat (first | exact trivial | refine Le.cons rfl ?_)))
      ·
        refine oAlB H zB32 F rfl ?_
        clear F a H; intro b15 a w F H
        refine eKeep (H.sel [1, 2, 3] rfl rfl) ?_
        refine eOne (k := 5) (i := 3) rfl (by kernel_rfl) F rfl (oCallF F rfl rfl Tryd.call15 rfl (reg_any 1 _) ?_)
        rintro e w ⟨rfl, hb⟩
        replace H := H.grow hb; clear hb
        refine ⟨_, rfl, ?_⟩
        clear F a; intro a F
        refine eKeep (H.sel [1, 2, 3] rfl rfl) ?_
        refine eTake (k := 6) (i := 4) rfl (by kernel_rfl) F rfl rfl rfl rfl (fun w H => rBd (places := [(0, 1), (1, 1), (2, 1), (3, 2), (5, 2), (7, 1), (8, 1), (9, 1)]) Tryd.zeroValue52 Tryd.underlying52 (by kernel_rfl) F rfl rfl) (H.sel [1, 2, 3] rfl rfl) (fun _ _ _ h => h) ?_
        clear F a; intro a F
        refine eOne (k := 7) (i := 6) rfl (by kernel_rfl) F rfl (oCall Tryd.call16 F rfl rfl (local_any (sI 3 0) (sT va vb vc) _) ?_)
        rintro e w ⟨rfl, hb⟩
        replace H := H.grow hb; clear hb
        refine ⟨_, rfl, ?_⟩
        clear F a; intro a F
        refine eKeep (H.sel [1, 2, 3] rfl rfl) ?_
        refine eTakeF (k := 8) (i := 7) rfl (by kernel_rfl) F rfl rfl rfl (fun w => rMv F rfl) (H.sel [1, 2, 3] rfl rfl) (fun _ _ _ h => h) ?_
        clear F a; intro a F
        refine eTakeF (k := 9) (i := 8) rfl (by kernel_rfl) F rfl rfl rfl (fun w => rExt F rfl rfl) (H.sel [1, 2, 3] rfl rfl) (fun _ _ _ h => h) ?_
        clear F a; intro a F
        refine eTakeF (k := 10) (i := 9) rfl (by kernel_rfl) F rfl rfl rfl (fun w => rExt F rfl rfl) (H.sel [1, 2, 3] rfl rfl) (fun _ _ _ h => h) ?_
        clear F a; intro a F
        exact eGo hJ (by kernel_rfl) _ ⟨b15, rfl, H.sel [0, 1, 2, 3] rfl rfl⟩ (F.to (by repeat (first | exact trivial | refine Le.cons rfl ?_)))
    ·
      refine oAlB H zB32 F rfl ?_
      clear F a H; intro b15 a w F H
      refine eKeep (H.sel [1, 2, 3] rfl rfl) ?_
      refine eOne (k := 4) (i := 1) rfl (by kernel_rfl) F rfl (oCallF F rfl rfl Tryd.call15 rfl (reg_any 0 _) ?_)
      rintro e w ⟨rfl, hb⟩
      replace H := H.grow hb; clear hb
      refine ⟨_, rfl, ?_⟩
      clear F a; intro a F
      refine eKeep (H.sel [1, 2, 3] rfl rfl) ?_
      refine eOne (k := 5) (i := 3) rfl (by kernel_rfl) F rfl (oCallF F rfl rfl Tryd.call15 rfl (reg_any 1 _) ?_)
      rintro e w ⟨rfl, hb⟩
      replace H := H.grow hb; clear hb
      refine ⟨_, rfl, ?_⟩
      clear F a; intro a F
      refine eKeep (H.sel [1, 2, 3] rfl rfl) ?_
      refine eTake (k := 6) (i := 4) rfl (by kernel_rfl) F rfl rfl rfl rfl (fun w H => rBd (places := [(0, 1), (1, 1), (2, 1), (3, 2), (5, 2), (7, 1), (8, 1), (9, 1)]) Tryd.zeroValue52 Tryd.underlying52 (by kernel_rfl) F rfl rfl) (H.sel [1, 2, 3] rfl rfl) (fun _ _ _ h => h) ?_
      clear F a; intro a F
      refine eOne (k := 7) (i := 6) rfl (by kernel_rfl) F rfl (oCall Tryd.call16 F rfl rfl (local_any (sI 3 0) (sT va vb vc) _) ?_)
      rintro e w ⟨rfl, hb⟩
      replace H := H.grow hb; clear hb
      refine ⟨_, rfl, ?_⟩
      clear F a; intro a F
      refine eKeep (H.sel [1, 2, 3] rfl rfl) ?_
      refine eTakeF (k := 8) (i := 7) rfl (by kernel_rfl) F rfl rfl rfl (fun w => rMv F rfl) (H.sel [1, 2, 3] rfl rfl) (fun _ _ _ h => h) ?_
      clear F a; intro a F
      refine eTakeF (k := 9) (i := 8) rfl (by kernel_rfl) F rfl rfl rfl (fun w => rExt F rfl rfl) (H.sel [1, 2, 3] rfl rfl) (fun _ _ _ h => h) ?_
      clear F a; intro a F
      refine eTakeF (k := 10) (i := 9) rfl (by kernel_rfl) F rfl rfl rfl (fun w => rExt F rfl rfl) (H.sel [1, 2, 3] rfl rfl) (fun _ _ _ h => h) ?_
      clear F a; intro a F
      exact eGo hJ (by kernel_rfl) _ ⟨b15, rfl, H.sel [0, 1, 2, 3] rfl rfl⟩ (F.to (by repeat (first | exact trivial | refine Le.cons rfl ?_)))
  clear F H; intro ups a w hI F
  obtain ⟨b15, rfl, H⟩ := hI
  refine eOne (k := 11) (i := 11) rfl (by kernel_rfl) F rfl (oSrB H 0 Tryd.sizeOf32 F rfl rfl rfl (by omega) ?_)
  clear H; intro w H
  rw [lay_all] at H
  refine ePartO (by kernel_rfl) H ?_
  refine eTakeF (k := 12) (i := 12) rfl (by kernel_rfl) F rfl rfl rfl (fun w => rAs F rfl) (H.sel [0, 1, 2, 3] rfl rfl) (fun _ _ _ h => h) ?_
  clear F a; intro a F
  refine eNil (k := 13) (by kernel_rfl) ?_
  refine hK6 _ _ ?_; clear hK6
  refine cSeq (fun K7 hK7 => ?_)
  refine cRegRO (by kernel_rfl) H ?_
  replace H := H.drew
  refine eTakeF (k := 0) (i := 0) rfl (by kernel_rfl) F rfl rfl rfl (fun w => rMv F rfl) (H.sel [0, 1, 2, 3] rfl rfl) (fun _ _ _ h => h) ?_
  clear F a; intro a F
  refine eTakeF (k := 1) (i := 2) rfl (by kernel_rfl) F rfl rfl rfl (fun w => rMv F rfl) (H.sel [0, 1, 2, 3] rfl rfl) (fun _ _ _ h => h) ?_
  clear F a; intro a F
  refine eTake (k := 2) (i := 5) rfl (by kernel_rfl) F rfl rfl rfl rfl (fun w H => rLrB Tryd.underlying32 rfl Tryd.sizeOf32 F rfl (H.whole 0 rfl)) (H.sel [0, 1, 2, 3] rfl rfl) (fun _ _ _ h => h) ?_
  clear F a; intro a F
  refine eJoin F H [0, 1, 2, 3, 9, 10, 11, 13] 11 [true, true, true, true, true, true, true, true, true, true, true, false, false] (fun rs ups w => ∃ b17, ups = [(66, .agg #[.bool true, Go.Proofs.YtfemniboggnbiaaDoor.b8 3]), (68, .agg #[.bool true, Go.Proofs.YtfemniboggnbiaaDoor.b8 1]), (72, .agg (bs 9 (localP (sI 3 3) (localP (sI 3 0) (sT va vb vc)))).toArray), (73, .bool true), (17, .pointer (some ⟨b17, 0, none⟩))] ∧ Own w0 none w ((.blk b17 (bs 9 zb) 32) :: rs)) (by repeat (first | exact SubR.nil | (apply SubR.cons; · rfl))) ?_ (fun hJ => ?_)
  rotate_left
  ·
    refine eTwo (k := 3) (i := 1) (j := 10) (by kernel_rfl) F rfl rfl rfl rfl ?_ ?_
    ·
      refine oCallF F rfl rfl Tryd.call15 rfl (reg_any 3 _) ?_
      rintro e w ⟨rfl, hb⟩
      replace H := H.grow hb; clear hb
      refine ⟨_, rfl, ?_⟩
      clear F a; intro a F
      refine eKeep (H.sel [0, 1, 2, 3] rfl rfl) ?_
      refine eTwo (k := 4) (i := 3) (j := 10) (by kernel_rfl) F rfl rfl rfl rfl ?_ ?_
      ·
        refine oCallF F rfl rfl Tryd.call15 rfl (reg_any 1 _) ?_
        rintro e w ⟨rfl, hb⟩
        replace H := H.grow hb; clear hb
        refine ⟨_, rfl, ?_⟩
        clear F a; intro a F
        refine eKeep (H.sel [0, 1, 2, 3] rfl rfl) ?_
        refine eTake (k := 5) (i := 4) rfl (by kernel_rfl) F rfl rfl rfl rfl (fun w H => rBd (places := [(0, 1), (1, 1), (2, 1), (3, 2), (5, 2), (7, 1), (8, 1), (9, 1)]) Tryd.zeroValue52 Tryd.underlying52 (by kernel_rfl) F rfl rfl) (H.sel [0, 1, 2, 3] rfl rfl) (fun _ _ _ h => h) ?_
        clear F a; intro a F
        refine eTwo (k := 6) (i := 6) (j := 10) (by kernel_rfl) F rfl rfl rfl rfl ?_ ?_
        ·
          refine oCall Tryd.call16 F rfl rfl (local_any (sI 3 3) (localP (sI 3 0) (sT va vb vc)) _) ?_
          rintro e w ⟨rfl, hb⟩
          replace H := H.grow hb; clear hb
          refine ⟨_, rfl, ?_⟩
          clear F a; intro a F
          refine eKeep (H.sel [0, 1, 2, 3] rfl rfl) ?_
          refine eTakeF (k := 7) (i := 7) rfl (by kernel_rfl) F rfl rfl rfl (fun w => rMv F rfl) (H.sel [0, 1, 2, 3] rfl rfl) (fun _ _ _ h => h) ?_
          clear F a; intro a F
          refine eTakeF (k := 8) (i := 8) rfl (by kernel_rfl) F rfl rfl rfl (fun w => rExt F rfl rfl) (H.sel [0, 1, 2, 3] rfl rfl) (fun _ _ _ h => h) ?_
          clear F a; intro a F
          refine eTakeF (k := 9) (i := 9) rfl (by kernel_rfl) F rfl rfl rfl (fun w => rExt F rfl rfl) (H.sel [0, 1, 2, 3] rfl rfl) (fun _ _ _ h => h) ?_
          clear F a; intro a F
          refine eOne (k := 10) (i := 10) rfl (by kernel_rfl) F rfl (oAlB H zB32 F rfl ?_)
          clear F a H; intro b17 a w F H
          refine eKeep (H.sel [1, 2, 3, 4] rfl rfl) ?_
          exact eGo hJ (by kernel_rfl) _ ⟨b17, rfl, H.sel [0, 1, 2, 3, 4] rfl rfl⟩ (F.to (by repeat (first | exact trivial | refine Le.cons rfl ?_)))
        ·
          refine oAlB H zB32 F rfl ?_
          clear F a H; intro b17 a w F H
          refine eKeep (H.sel [1, 2, 3, 4] rfl rfl) ?_
          refine eOne (k := 7) (i := 6) rfl (by kernel_rfl) F rfl (oCall Tryd.call16 F rfl rfl (local_any (sI 3 3) (localP (sI 3 0) (sT va vb vc)) _) ?_)
          rintro e w ⟨rfl, hb⟩
          replace H := H.grow hb; clear hb
          refine ⟨_, rfl, ?_⟩
          clear F a; intro a F
          refine eKeep (H.sel [1, 2, 3, 4] rfl rfl) ?_
          refine eTakeF (k := 8) (i := 7) rfl (by kernel_rfl) F rfl rfl rfl (fun w => rMv F rfl) (H.sel [1, 2, 3, 4] rfl rfl) (fun _ _ _ h => h) ?_
          clear F a; intro a F
          refine eTakeF (k := 9) (i := 8) rfl (by kernel_rfl) F rfl rfl rfl (fun w => rExt F rfl rfl) (H.sel [1, 2, 3, 4] rfl rfl) (fun _ _ _ h => h) ?_
          clear F a; intro a F
          refine eTakeF (k := 10) (i := 9) rfl (by kernel_rfl) F rfl rfl rfl (fun w => rExt F rfl rfl) (H.sel [1, 2, 3, 4] rfl rfl) (fun _ _ _ h => h) ?_
          clear F a; intro a F
          exact eGo hJ (by kernel_rfl) _ ⟨b17, rfl, H.sel [0, 1, 2, 3, 4] rfl rfl⟩ (F.to (by repeat (first | exact trivial | refine Le.cons rfl ?_)))
      ·
        refine oAlB H zB32 F rfl ?_
        clear F a H; intro b17 a w F H
        refine eKeep (H.sel [1, 2, 3, 4] rfl rfl) ?_
        refine eOne (k := 5) (i := 3) rfl (by kernel_rfl) F rfl (oCallF F rfl rfl Tryd.call15 rfl (reg_any 1 _) ?_)
        rintro e w ⟨rfl, hb⟩
        replace H := H.grow hb; clear hb
        refine ⟨_, rfl, ?_⟩
        clear F a; intro a F
        refine eKeep (H.sel [1, 2, 3, 4] rfl rfl) ?_
        refine eTake (k := 6) (i := 4) rfl (by kernel_rfl) F rfl rfl rfl rfl (fun w H => rBd (places := [(0, 1), (1, 1), (2, 1), (3, 2), (5, 2), (7, 1), (8, 1), (9, 1)]) Tryd.zeroValue52 Tryd.underlying52 (by kernel_rfl) F rfl rfl) (H.sel [1, 2, 3, 4] rfl rfl) (fun _ _ _ h => h) ?_
        clear F a; intro a F
        refine eOne (k := 7) (i := 6) rfl (by kernel_rfl) F rfl (oCall Tryd.call16 F rfl rfl (local_any (sI 3 3) (localP (sI 3 0) (sT va vb vc)) _) ?_)
        rintro e w ⟨rfl, hb⟩
        replace H := H.grow hb; clear hb
        refine ⟨_, rfl, ?_⟩
        clear F a; intro a F
        refine eKeep (H.sel [1, 2, 3, 4] rfl rfl) ?_
        refine eTakeF (k := 8) (i := 7) rfl (by kernel_rfl) F rfl rfl rfl (fun w => rMv F rfl) (H.sel [1, 2, 3, 4] rfl rfl) (fun _ _ _ h => h) ?_
        clear F a; intro a F
        refine eTakeF (k := 9) (i := 8) rfl (by kernel_rfl) F rfl rfl rfl (fun w => rExt F rfl rfl) (H.sel [1, 2, 3, 4] rfl rfl) (fun _ _ _ h => h) ?_
        clear F a; intro a F
        refine eTakeF (k := 10) (i := 9) rfl (by kernel_rfl) F rfl rfl rfl (fun w => rExt F rfl rfl) (H.sel [1, 2, 3, 4] rfl rfl) (fun _ _ _ h => h) ?_
        clear F a; intro a F
        exact eGo hJ (by kernel_rfl) _ ⟨b17, rfl, H.sel [0, 1, 2, 3, 4] rfl rfl⟩ (F.to (by repeat (first | exact trivial | refine Le.cons rfl ?_)))
    ·
      refine oAlB H zB32 F rfl ?_
      clear F a H; intro b17 a w F H
      refine eKeep (H.sel [1, 2, 3, 4] rfl rfl) ?_
      refine eOne (k := 4) (i := 1) rfl (by kernel_rfl) F rfl (oCallF F rfl rfl Tryd.call15 rfl (reg_any 3 _) ?_)
      rintro e w ⟨rfl, hb⟩
      replace H := H.grow hb; clear hb
      refine ⟨_, rfl, ?_⟩
      clear F a; intro a F
      refine eKeep (H.sel [1, 2, 3, 4] rfl rfl) ?_
      refine eOne (k := 5) (i := 3) rfl (by kernel_rfl) F rfl (oCallF F rfl rfl Tryd.call15 rfl (reg_any 1 _) ?_)
      rintro e w ⟨rfl, hb⟩
      replace H := H.grow hb; clear hb
      refine ⟨_, rfl, ?_⟩
      clear F a; intro a F
      refine eKeep (H.sel [1, 2, 3, 4] rfl rfl) ?_
      refine eTake (k := 6) (i := 4) rfl (by kernel_rfl) F rfl rfl rfl rfl (fun w H => rBd (places := [(0, 1), (1, 1), (2, 1), (3, 2), (5, 2), (7, 1), (8, 1), (9, 1)]) Tryd.zeroValue52 Tryd.underlying52 (by kernel_rfl) F rfl rfl) (H.sel [1, 2, 3, 4] rfl rfl) (fun _ _ _ h => h) ?_
      clear F a; intro a F
      refine eOne (k := 7) (i := 6) rfl (by kernel_rfl) F rfl (oCall Tryd.call16 F rfl rfl (local_any (sI 3 3) (localP (sI 3 0) (sT va vb vc)) _) ?_)
      rintro e w ⟨rfl, hb⟩
      replace H := H.grow hb; clear hb
      refine ⟨_, rfl, ?_⟩
      clear F a; intro a F
      refine eKeep (H.sel [1, 2, 3, 4] rfl rfl) ?_
      refine eTakeF (k := 8) (i := 7) rfl (by kernel_rfl) F rfl rfl rfl (fun w => rMv F rfl) (H.sel [1, 2, 3, 4] rfl rfl) (fun _ _ _ h => h) ?_
      clear F a; intro a F
      refine eTakeF (k := 9) (i := 8) rfl (by kernel_rfl) F rfl rfl rfl (fun w => rExt F rfl rfl) (H.sel [1, 2, 3, 4] rfl rfl) (fun _ _ _ h => h) ?_
      clear F a; intro a F
      refine eTakeF (k := 10) (i := 9) rfl (by kernel_rfl) F rfl rfl rfl (fun w => rExt F rfl rfl) (H.sel [1, 2, 3, 4] rfl rfl) (fun _ _ _ h => h) ?_
      clear F a; intro a F
      exact eGo hJ (by kernel_rfl) _ ⟨b17, rfl, H.sel [0, 1, 2, 3, 4] rfl rfl⟩ (F.to (by repeat (first | exact trivial | refine Le.cons rfl ?_)))
  clear F H; intro ups a w hI F
  obtain ⟨b17, rfl, H⟩ := hI
  refine eOne (k := 11) (i := 11) rfl (by kernel_rfl) F rfl (oSrB H 0 Tryd.sizeOf32 F rfl rfl rfl (by omega) ?_)
  clear H; intro w H
  rw [lay_all] at H
  refine ePartO (by kernel_rfl) H ?_
  refine eTakeF (k := 12) (i := 12) rfl (by kernel_rfl) F rfl rfl rfl (fun w => rAs F rfl) (H.sel [0, 1, 2, 3, 4] rfl rfl) (fun _ _ _ h => h) ?_
  clear F a; intro a F
  refine eNil (k := 13) (by kernel_rfl) ?_
  refine hK7 _ _ ?_; clear hK7
  refine cSeq (fun K8 hK8 => ?_)
  refine cSeq (fun K9 hK9 => ?_)
  refine cReg ?_
  refine sFa (f := 1) (k := 1) Tryd.underlying32 rfl Tryd.sizeOf30 rfl rfl F rfl rfl rfl ?_
  clear F a; intro a F
  refine sIa (j := 3) Tryd.underlying30 Tryd.sizeOf5 F rfl rfl rfl rfl ?_ ?_
  focus (first | omega | decide | (simp; omega))
  clear F a; intro a F
  refine sLd Tryd.isAgg5 F rfl rfl rfl (H.cellB 2 rfl (by omega)) ?_
  clear F a; intro a F
  refine sMv F rfl rfl rfl ?_
  clear F a; intro a F
  refine sBin F rfl rfl rfl rfl bNeqB ?_
  clear F a; intro a F
  refine sMv F rfl rfl rfl ?_
  clear F a; intro a F
  refine F.split 79 rfl ?_ ?_ <;> (clear F; intro h79 F)
  ·
    replace h79 := bneT h79
    exact absurd (diff_r3 va vb vc) h79
  ·
    replace h79 := bneF h79
    refine sFa (f := 1) (k := 1) Tryd.underlying32 rfl Tryd.sizeOf30 rfl rfl F rfl rfl rfl ?_
    clear F a; intro a F
    refine sIa (j := 3) Tryd.underlying30 Tryd.sizeOf5 F rfl rfl rfl rfl ?_ ?_
    focus (first | omega | decide | (simp; omega))
    clear F a; intro a F
    refine sLd Tryd.isAgg5 F rfl rfl rfl (H.cellB 0 rfl (by omega)) ?_
    clear F a; intro a F
    refine sMv F rfl rfl rfl ?_
    clear F a; intro a F
    refine sBin F rfl rfl rfl rfl bNeqB ?_
    clear F a; intro a F
    refine sPk F rfl rfl rfl rfl ?_
    clear F a; intro a F
    refine sMv F rfl rfl rfl ?_
    clear F a; intro a F
    refine F.split 86 rfl ?_ ?_ <;> (clear F; intro h86 F)
    ·
      replace h86 := bneT h86
      exact absurd (even_r3 va vb vc) h86
    ·
      replace h86 := bneF h86
      refine sFa (f := 0) (k := 0) Tryd.underlying32 rfl Tryd.sizeOf5 rfl rfl F rfl rfl rfl ?_
      clear F a; intro a F
      refine sLd Tryd.isAgg5 F rfl rfl rfl (H.cellB 2 rfl (by omega)) ?_
      clear F a; intro a F
      refine sBin F rfl rfl rfl rfl (bNeqB (y := 2)) ?_
      clear F a; intro a F
      refine sPk F rfl rfl rfl rfl ?_
      clear F a; intro a F
      refine sMv F rfl rfl rfl ?_
      clear F a; intro a F
      refine F.split 91 rfl ?_ ?_ <;> (clear F; intro h91 F)
      ·
        replace h91 := bneT h91
        exact absurd (diff_pc va vb vc) h91
      ·
        replace h91 := bneF h91
        refine sFa (f := 1) (k := 1) Tryd.underlying32 rfl Tryd.sizeOf30 rfl rfl F rfl rfl rfl ?_
        clear F a; intro a F
        refine sIa (j := 0) Tryd.underlying30 Tryd.sizeOf5 F rfl rfl rfl rfl ?_ ?_
        focus (first | omega | decide | (simp; omega))
        clear F a; intro a F
        refine sLd Tryd.isAgg5 F rfl rfl rfl (H.cellB 3 rfl (by omega)) ?_
        clear F a; intro a F
        refine sMv F rfl rfl rfl ?_
        clear F a; intro a F
        refine sBin F rfl rfl rfl rfl bNeqB ?_
        clear F a; intro a F
        refine sPk F rfl rfl rfl rfl ?_
        clear F a; intro a F
        refine sMv F rfl rfl rfl ?_
        clear F a; intro a F
        refine F.split 98 rfl ?_ ?_ <;> (clear F; intro h98 F)
        ·
          replace h98 := bneT h98
          exact absurd (sum_r0 va vb vc) h98
        ·
          replace h98 := bneF h98
          refine sFa (f := 1) (k := 1) Tryd.underlying32 rfl Tryd.sizeOf30 rfl rfl F rfl rfl rfl ?_
          clear F a; intro a F
          refine sIa (j := 3) Tryd.underlying30 Tryd.sizeOf5 F rfl rfl rfl rfl ?_ ?_
          focus (first | omega | decide | (simp; omega))
          clear F a; intro a F
          refine sLd Tryd.isAgg5 F rfl rfl rfl (H.cellB 3 rfl (by omega)) ?_
          clear F a; intro a F
          refine sMv F rfl rfl rfl ?_
          clear F a; intro a F
          refine sBin F rfl rfl rfl rfl (bSubB) ?_
          clear F a; intro a F
          refine sMv F rfl rfl rfl ?_
          clear F a; intro a F
          refine sBin F rfl rfl rfl rfl bNeqB ?_
          clear F a; intro a F
          refine sPk F rfl rfl rfl rfl ?_
          clear F a; intro a F
          refine sNil ?_
          refine hK9 _ _ ?_; clear hK9
          refine cIf F rfl (fun h106 => ?_) (fun h106 => ?_)
          ·
            replace h106 := bneT h106
            exact absurd (UInt8.add_sub_cancel va vb) h106
          ·
            replace h106 := bneF h106
            refine wp_skip ?_
            refine hK8 _ _ ?_; clear hK8
            refine cSeq (fun K10 hK10 => ?_)
            refine cReg ?_
            refine sMv F rfl rfl rfl ?_
            clear F a; intro a F
            refine sBin F rfl rfl rfl rfl (bRemB (y := 10) ?_) ?_
            focus decide
            clear F a; intro a F
            refine sBin F rfl rfl rfl rfl (bAddB (y := 1)) ?_
            clear F a; intro a F
            refine sAs F rfl rfl rfl ?_
            clear F a; intro a F
            refine sNil ?_
            refine hK10 _ _ ?_; clear hK10
            refine cSeq (fun K11 hK11 => ?_)
            refine cSeq (fun K12 hK12 => ?_)
            refine cReg ?_
            refine sMv F rfl rfl rfl ?_
            clear F a; intro a F
            refine sMv F rfl rfl rfl ?_
            clear F a; intro a F
            refine sBin F rfl rfl rfl rfl bEqlB ?_
            clear F a; intro a F
            refine sBd (places := [(0, 1), (1, 1)]) Tryd.zeroValue61 Tryd.underlying61 (by kernel_rfl) F rfl rfl rfl rfl ?_
            clear F a; intro a F
            refine sMv F rfl rfl rfl ?_
            clear F a; intro a F
            refine sMv F rfl rfl rfl ?_
            clear F a; intro a F
            refine sBin F rfl rfl rfl rfl bNeqB ?_
            clear F a; intro a F
            refine sBd (places := [(0, 1), (1, 1)]) Tryd.zeroValue61 Tryd.underlying61 (by kernel_rfl) F rfl rfl rfl rfl ?_
            clear F a; intro a F
            refine sMv F rfl rfl rfl ?_
            clear F a; intro a F
            refine sMv F rfl rfl rfl ?_
            clear F a; intro a F
            refine sBin F rfl rfl rfl rfl bLssB ?_
            clear F a; intro a F
            refine sBd (places := [(0, 1), (1, 1)]) Tryd.zeroValue61 Tryd.underlying61 (by kernel_rfl) F rfl rfl rfl rfl ?_
            clear F a; intro a F
            refine sBs H Tryd.underlying62 Tryd.sizeOf61 Tryd.zeroValue61 rfl F rfl rfl rfl rfl rfl ?_
            clear F a H; intro b122 a w F H
            refine sLen Tryd.underlying62 F rfl rfl rfl ?_
            clear F a; intro a F
            refine sMv F rfl rfl rfl ?_
            clear F a; intro a F
            refine sNil ?_
            refine hK12 _ _ ?_; clear hK12
            refine wp_block ?_
            refine cLoopR [0, 1, 2, 9, 10, 19, 122, 123] (fun m ups w => ∃ j : Nat, m = 3 - j ∧ ups = [(124, .int .i64 ((j : Nat) : Int))] ∧ j ≤ 3 ∧ Own w0 none w [.blk b122 [Go.Proofs.YtfemniboggnbiaaDoor.b8 4, .bool (va == vb), Go.Proofs.YtfemniboggnbiaaDoor.b8 5, .bool (va != vb), Go.Proofs.YtfemniboggnbiaaDoor.b8 6, .bool (decide (va < vb))] 61, .blk b9 (bs 9 (sT va vb vc)) 32]) F (3) [(124, .int .i64 ((0 : Nat) : Int))] (by repeat (first | exact SubR.nil | (apply SubR.cons; · rfl))) ?_ ?_ ?_
            · exact ⟨0, rfl, rfl, by omega, H.sel [0, 5] rfl rfl⟩
            · repeat (first | exact trivial | refine Le.cons rfl ?_)
            clear F
            clear H
            intro m ups a w hI F
            obtain ⟨j, rfl, rfl, hj, H⟩ := hI
            refine cSeq (fun K13 hK13 => ?_)
            refine cReg ?_
            refine sBin F rfl rfl rfl rfl bLss ?_
            clear F a; intro a F
            refine sNil ?_
            refine hK13 _ _ ?_; clear hK13
            refine cSeq (fun K14 hK14 => ?_)
            refine cIf F rfl (fun h125 => ?_) (fun h125 => ?_)
            ·
              replace h125 := of_decide_eq_true h125
              have hj3 : j < 3 := by omega
              obtain ⟨q, hq⟩ : ∃ q, (tests va vb)[j]? = some q := ⟨_, List.getElem?_eq_getElem hj3⟩
              have hsk := tests_skip hq
              refine wp_skip ?_
              refine hK14 _ _ ?_; clear hK14
              refine cSeq (fun K15 hK15 => ?_)
              refine wp_block ?_
              refine cSeq (fun K16 hK16 => ?_)
              refine cReg ?_
              refine sIx Tryd.underlying62 Tryd.sizeOf61 F rfl rfl rfl rfl ?_ ?_
              focus (first | omega | decide | (simp; omega))
              clear F a; intro a F
              refine sLr Tryd.underlying61 rfl ?si F rfl rfl rfl (H_tests H 0 rfl hq) ?_
              case si => exact info_size Tryd.sizeOf61
              clear F a; intro a F
              refine sAl H Tryd.zeroValue61 F rfl rfl ?_
              clear F a H; intro b21 a w F H
              refine sSr H 0 ?si F rfl rfl rfl ?s1 rfl rfl ?_
              case si => exact info_size Tryd.sizeOf61
              case s1 => first | rfl | (repeat (first | exact one_nil | (apply one_cons; · first | rfl | assumption | exact one_bif rfl rfl)))
              clear H; intro w H
              refine sNil ?_
              refine hK16 _ _ ?_; clear hK16
              refine cSeq (fun K17 hK17 => ?_)
              refine cRegRO (by kernel_rfl) H ?_
              replace H := H.drew
              refine eTakeF (k := 0) (i := 0) rfl (by kernel_rfl) F rfl rfl rfl (fun w => rMv F rfl) (H.sel [0, 1, 2] rfl rfl) (fun _ _ _ h => h) ?_
              clear F a; intro a F
              refine eTakeF (k := 1) (i := 2) rfl (by kernel_rfl) F rfl rfl rfl (fun w => rMv F rfl) (H.sel [0, 1, 2] rfl rfl) (fun _ _ _ h => h) ?_
              clear F a; intro a F
              refine eTakeF (k := 2) (i := 4) rfl (by kernel_rfl) F rfl rfl rfl (fun w => rFa (f := 0) (k := 0) Tryd.underlying61 rfl Tryd.sizeOf5 rfl rfl F rfl) (H.sel [0, 1, 2] rfl rfl) (fun _ _ _ h => h) ?_
              clear F a; intro a F
              refine eTake (k := 3) (i := 5) rfl (by kernel_rfl) F rfl rfl rfl rfl (fun w H => rLd Tryd.isAgg5 F rfl (H.cell 0 rfl rfl)) (H.sel [0, 1, 2] rfl rfl) (fun _ _ _ h => h) ?_
              clear F a; intro a F
              refine eTakeF (k := 4) (i := 6) rfl (by kernel_rfl) F rfl rfl rfl (fun w => rMv F rfl) (H.sel [0, 1, 2] rfl rfl) (fun _ _ _ h => h) ?_
              clear F a; intro a F
              refine eTake (k := 5) (i := 8) rfl (by kernel_rfl) F rfl rfl rfl rfl (fun w H => rLrB Tryd.underlying32 rfl Tryd.sizeOf32 F rfl (H.whole 2 rfl)) (H.sel [0, 1, 2] rfl rfl) (fun _ _ _ h => h) ?_
              clear F a; intro a F
              refine eJoin F H [0, 1, 2, 9, 10, 19, 21, 122, 123, 124] 14 [true, true, true, true, true, true, true, true, true, true, true, true, true, true, false, false] (fun rs ups w => ∃ b22, ups = [(130, .agg #[.bool true, Go.Proofs.YtfemniboggnbiaaDoor.b8 0]), (132, .agg #[.bool true, Go.Proofs.YtfemniboggnbiaaDoor.b8 1]), (139, .agg (bs 9 (localP (sK q.1 (k0 % 10 + 1)) (sT va vb vc))).toArray), (140, .bool true), (22, .pointer (some ⟨b22, 0, none⟩))] ∧ Own w0 none w ((.blk b22 (bs 9 zb) 32) :: rs)) (by repeat (first | exact SubR.nil | (apply SubR.cons; · rfl))) ?_ (fun hJ => ?_)
              rotate_left
              ·
                refine eTwo (k := 6) (i := 1) (j := 13) (by kernel_rfl) F rfl rfl rfl rfl ?_ ?_
                ·
                  refine oCallF F rfl rfl Tryd.call15 rfl (reg_any 0 _) ?_
                  rintro e w ⟨rfl, hb⟩
                  replace H := H.grow hb; clear hb
                  refine ⟨_, rfl, ?_⟩
                  clear F a; intro a F
                  refine eKeep (H.sel [0, 1, 2] rfl rfl) ?_
                  refine eTwo (k := 7) (i := 3) (j := 13) (by kernel_rfl) F rfl rfl rfl rfl ?_ ?_
                  ·
                    refine oCallF F rfl rfl Tryd.call15 rfl (reg_any 1 _) ?_
                    rintro e w ⟨rfl, hb⟩
                    replace H := H.grow hb; clear hb
                    refine ⟨_, rfl, ?_⟩
                    clear F a; intro a F
                    refine eKeep (H.sel [0, 1, 2] rfl rfl) ?_
                    refine eTake (k := 8) (i := 7) rfl (by kernel_rfl) F rfl rfl rfl rfl (fun w H => rBd (places := [(0, 1), (1, 1), (2, 1), (3, 2), (5, 2), (7, 1), (8, 1), (9, 1)]) Tryd.zeroValue52 Tryd.underlying52 (by kernel_rfl) F rfl rfl) (H.sel [0, 1, 2] rfl rfl) (fun _ _ _ h => h) ?_
                    clear F a; intro a F
                    refine eTwo (k := 9) (i := 9) (j := 13) (by kernel_rfl) F rfl rfl rfl rfl ?_ ?_
                    ·
                      refine oCall Tryd.call16 F rfl rfl (local_any (sK q.1 (k0 % 10 + 1)) (sT va vb vc) _) ?_
                      rintro e w ⟨rfl, hb⟩
                      replace H := H.grow hb; clear hb
                      refine ⟨_, rfl, ?_⟩
                      clear F a; intro a F
                      refine eKeep (H.sel [0, 1, 2] rfl rfl) ?_
                      refine eTakeF (k := 10) (i := 10) rfl (by kernel_rfl) F rfl rfl rfl (fun w => rMv F rfl) (H.sel [0, 1, 2] rfl rfl) (fun _ _ _ h => h) ?_
                      clear F a; intro a F
                      refine eTakeF (k := 11) (i := 11) rfl (by kernel_rfl) F rfl rfl rfl (fun w => rExt F rfl rfl) (H.sel [0, 1, 2] rfl rfl) (fun _ _ _ h => h) ?_
                      clear F a; intro a F
                      refine eTakeF (k := 12) (i := 12) rfl (by kernel_rfl) F rfl rfl rfl (fun w => rExt F rfl rfl) (H.sel [0, 1, 2] rfl rfl) (fun _ _ _ h => h) ?_
                      clear F a; intro a F
                      refine eOne (k := 13) (i := 13) rfl (by kernel_rfl) F rfl (oAlB H zB32 F rfl ?_)
                      clear F a H; intro b22 a w F H
                      refine eKeep (H.sel [1, 2, 3] rfl rfl) ?_
                      exact eGo hJ (by kernel_rfl) _ ⟨b22, rfl, H.sel [0, 1, 2, 3] rfl rfl⟩ (F.to (by repeat (first | exact trivial | refine Le.cons rfl ?_)))
                    ·
                      refine oAlB H zB32 F rfl ?_
                      clear F a H; intro b22 a w F H
                      refine eKeep (H.sel [1, 2, 3] rfl rfl) ?_
                      refine eOne (k := 10) (i := 9) rfl (by kernel_rfl) F rfl (oCall Tryd.call16 F rfl rfl (local_any (sK q.1 (k0 % 10 + 1)) (sT va vb vc) _) ?_)
                      rintro e w ⟨rfl, hb⟩
                      replace H := H.grow hb; clear hb
                      refine ⟨_, rfl, ?_⟩
                      clear F a; intro a F
                      refine eKeep (H.sel [1, 2, 3] rfl rfl) ?_
                      refine eTakeF (k := 11) (i := 10) rfl (by kernel_rfl) F rfl rfl rfl (fun w => rMv F rfl) (H.sel [1, 2, 3] rfl rfl) (fun _ _ _ h => h) ?_
                      clear F a; intro a F
                      refine eTakeF (k := 12) (i := 11) rfl (by kernel_rfl) F rfl rfl rfl (fun w => rExt F rfl rfl) (H.sel [1, 2, 3] rfl rfl) (fun _ _ _ h => h) ?_
                      clear F a; intro a F
                      refine eTakeF (k := 13) (i := 12) rfl (by kernel_rfl) F rfl rfl rfl (fun w => rExt F rfl rfl) (H.sel [1, 2, 3] rfl rfl) (fun _ _ _ h => h) ?_
                      clear F a; intro a F
                      exact eGo hJ (by kernel_rfl) _ ⟨b22, rfl, H.sel [0, 1, 2, 3] rfl rfl⟩ (F.to (by repeat (first | exact trivial | refine Le.cons rfl ?_)))
                  ·
                    refine oAlB H zB32 F rfl ?_
                    clear F a H; intro b22 a w F H
                    refine eKeep (H.sel [1, 2, 3] rfl rfl) ?_
                    refine eOne (k := 8) (i := 3) rfl (by kernel_rfl) F rfl (oCallF F rfl rfl Tryd.call15 rfl (reg_any 1 _) ?_)
                    rintro e w ⟨rfl, hb⟩
                    replace H := H.grow hb; clear hb
                    refine ⟨_, rfl, ?_⟩
                    clear F a; intro a F
                    refine eKeep (H.sel [1, 2, 3] rfl rfl) ?_
                    refine eTake (k := 9) (i := 7) rfl (by kernel_rfl) F rfl rfl rfl rfl (fun w H => rBd (places := [(0, 1), (1, 1), (2, 1), (3, 2), (5, 2), (7, 1), (8, 1), (9, 1)]) Tryd.zeroValue52 Tryd.underlying52 (by kernel_rfl) F rfl rfl) (H.sel [1, 2, 3] rfl rfl) (fun _ _ _ h => h) ?_
                    clear F a; intro a F
                    refine eOne (k := 10) (i := 9) rfl (by kernel_rfl) F rfl (oCall Tryd.call16 F rfl rfl (local_any (sK q.1 (k0 % 10 + 1)) (sT va vb vc) _) ?_)
                    rintro e w ⟨rfl, hb⟩
                    replace H := H.grow hb; clear hb
                    refine ⟨_, rfl, ?_⟩
                    clear F a; intro a F
                    refine eKeep (H.sel [1, 2, 3] rfl rfl) ?_
                    refine eTakeF (k := 11) (i := 10) rfl (by kernel_rfl) F rfl rfl rfl (fun w => rMv F rfl) (H.sel [1, 2, 3] rfl rfl) (fun _ _ _ h => h) ?_
                    clear F a; intro a F
                    refine eTakeF (k := 12) (i := 11) rfl (by kernel_rfl) F rfl rfl rfl (fun w => rExt F rfl rfl) (H.sel [1, 2, 3] rfl rfl) (fun _ _ _ h => h) ?_
                    clear F a; intro a F
                    refine eTakeF (k := 13) (i := 12) rfl (by kernel_rfl) F rfl rfl rfl (fun w => rExt F rfl rfl) (H.sel [1, 2, 3] rfl rfl) (fun _ _ _ h => h) ?_
                    clear F a; intro a F
                    exact eGo hJ (by kernel_rfl) _ ⟨b22, rfl, H.sel [0, 1, 2, 3] rfl rfl⟩ (F.to (by repeat (first | exact trivial | refine Le.cons rfl ?_)))
                ·
                  refine oAlB H zB32 F rfl ?_
                  clear F a H; intro b22 a w F H
                  refine eKeep (H.sel [1, 2, 3] rfl rfl) ?_
                  refine eOne (k := 7) (i := 1) rfl (by kernel_rfl) F rfl (oCallF F rfl rfl Tryd.call15 rfl (reg_any 0 _) ?_)
                  rintro e w ⟨rfl, hb⟩
                  replace H := H.grow hb; clear hb
                  refine ⟨_, rfl, ?_⟩
                  clear F a; intro a F
                  refine eKeep (H.sel [1, 2, 3] rfl rfl) ?_
                  refine eOne (k := 8) (i := 3) rfl (by kernel_rfl) F rfl (oCallF F rfl rfl Tryd.call15 rfl (reg_any 1 _) ?_)
                  rintro e w ⟨rfl, hb⟩
                  replace H := H.grow hb; clear hb
                  refine ⟨_, rfl, ?_⟩
                  clear F a; intro a F
                  refine eKeep (H.sel [1, 2, 3] rfl rfl) ?_
                  refine eTake (k := 9) (i := 7) rfl (by kernel_rfl) F rfl rfl rfl rfl (fun w H => rBd (places := [(0, 1), (1, 1), (2, 1), (3, 2), (5, 2), (7, 1), (8, 1), (9, 1)]) Tryd.zeroValue52 Tryd.underlying52 (by kernel_rfl) F rfl rfl) (H.sel [1, 2, 3] rfl rfl) (fun _ _ _ h => h) ?_
                  clear F a; intro a F
                  refine eOne (k := 10) (i := 9) rfl (by kernel_rfl) F rfl (oCall Tryd.call16 F rfl rfl (local_any (sK q.1 (k0 % 10 + 1)) (sT va vb vc) _) ?_)
                  rintro e w ⟨rfl, hb⟩
                  replace H := H.grow hb; clear hb
                  refine ⟨_, rfl, ?_⟩
                  clear F a; intro a F
                  refine eKeep (H.sel [1, 2, 3] rfl rfl) ?_
                  refine eTakeF (k := 11) (i := 10) rfl (by kernel_rfl) F rfl rfl rfl (fun w => rMv F rfl) (H.sel [1, 2, 3] rfl rfl) (fun _ _ _ h => h) ?_
                  clear F a; intro a F
                  refine eTakeF (k := 12) (i := 11) rfl (by kernel_rfl) F rfl rfl rfl (fun w => rExt F rfl rfl) (H.sel [1, 2, 3] rfl rfl) (fun _ _ _ h => h) ?_
                  clear F a; intro a F
                  refine eTakeF (k := 13) (i := 12) rfl (by kernel_rfl) F rfl rfl rfl (fun w => rExt F rfl rfl) (H.sel [1, 2, 3] rfl rfl) (fun _ _ _ h => h) ?_
                  clear F a; intro a F
                  exact eGo hJ (by kernel_rfl) _ ⟨b22, rfl, H.sel [0, 1, 2, 3] rfl rfl⟩ (F.to (by repeat (first | exact trivial | refine Le.cons rfl ?_)))
              clear F H; intro ups a w hI F
              obtain ⟨b22, rfl, H⟩ := hI
              refine eOne (k := 14) (i := 14) rfl (by kernel_rfl) F rfl (oSrB H 0 Tryd.sizeOf32 F rfl rfl rfl (by omega) ?_)
              clear H; intro w H
              rw [lay_all] at H
              refine ePartO (by kernel_rfl) H ?_
              refine eTakeF (k := 15) (i := 15) rfl (by kernel_rfl) F rfl rfl rfl (fun w => rAs F rfl) (H.sel [0, 1, 2, 3] rfl rfl) (fun _ _ _ h => h) ?_
              clear F a; intro a F
              refine eNil (k := 16) (by kernel_rfl) ?_
              refine hK17 _ _ ?_; clear hK17
              refine cSeq (fun K18 hK18 => ?_)
              refine cReg ?_
              refine sMv F rfl rfl rfl ?_
              clear F a; intro a F
              refine sNot F rfl rfl rfl ?_
              clear F a; intro a F
              refine sMv F rfl rfl rfl ?_
              clear F a; intro a F
              refine F.split 143 rfl ?_ ?_ <;> (clear F; intro h143 F)
              ·
                replace h143 := notT h143
                exact absurd h143 (by simp)
              ·
                replace h143 := notF h143
                refine sFa (f := 1) (k := 1) Tryd.underlying32 rfl Tryd.sizeOf30 rfl rfl F rfl rfl rfl ?_
                clear F a; intro a F
                refine sLrB Tryd.underlying30 rfl Tryd.sizeOf30 F rfl rfl rfl (H.rangeB 0 _ 8 rfl (by omega)) ?_
                clear F a; intro a F
                refine sFa (f := 1) (k := 1) Tryd.underlying32 rfl Tryd.sizeOf30 rfl rfl F rfl rfl rfl ?_
                clear F a; intro a F
                refine sLrB Tryd.underlying30 rfl Tryd.sizeOf30 F rfl rfl rfl (H.rangeB 3 _ 8 rfl (by omega)) ?_
                clear F a; intro a F
                refine sBin F rfl rfl rfl rfl (bNeY eT30 gT30 rfl) ?_
                clear F a; intro a F
                refine sPk F rfl rfl rfl rfl ?_
                clear F a; intro a F
                refine sMv F rfl rfl rfl ?_
                clear F a; intro a F
                refine F.split 150 rfl ?_ ?_ <;> (clear F; intro h150 F)
                ·
                  replace h150 := notT h150
                  exact notEq (skip_regs va vb vc q.1 (k0 % 10 + 1)) h150
                ·
                  replace h150 := notF h150
                  refine sFa (f := 0) (k := 0) Tryd.underlying32 rfl Tryd.sizeOf5 rfl rfl F rfl rfl rfl ?_
                  clear F a; intro a F
                  refine sLd Tryd.isAgg5 F rfl rfl rfl (H.cellB 0 rfl (by omega)) ?_
                  clear F a; intro a F
                  refine sMv F rfl rfl rfl ?_
                  clear F a; intro a F
                  refine sBin F rfl rfl rfl rfl (bAddB (y := 1)) ?_
                  clear F a; intro a F
                  refine sBin F rfl rfl rfl rfl bEqlB ?_
                  clear F a; intro a F
                  refine sFa (f := 1) (k := 1) Tryd.underlying61 rfl Tryd.sizeOf4 rfl rfl F rfl rfl rfl ?_
                  clear F a; intro a F
                  refine sLd Tryd.isAgg4 F rfl rfl rfl (H.cell 1 rfl rfl) ?_
                  clear F a; intro a F
                  refine sBin F rfl rfl rfl rfl (bBoolNe Tryd.underlying4) ?_
                  clear F a; intro a F
                  refine sPk F rfl rfl rfl rfl ?_
                  clear F a; intro a F
                  refine sMv F rfl rfl rfl ?_
                  clear F a; intro a F
                  refine F.split 160 rfl ?_ ?_ <;> (clear F; intro h160 F)
                  ·
                    replace h160 := nbeqT h160
                    exact (h160 (by rw [← hsk]; exact skip_over va vb vc q.1 k0)).elim
                  ·
                    replace h160 := nbeqF h160
                    refine sFa (f := 1) (k := 1) Tryd.underlying61 rfl Tryd.sizeOf4 rfl rfl F rfl rfl rfl ?_
                    clear F a; intro a F
                    refine sLd Tryd.isAgg4 F rfl rfl rfl (H.cell 1 rfl rfl) ?_
                    clear F a; intro a F
                    refine sNot F rfl rfl rfl ?_
                    clear F a; intro a F
                    refine sMv F rfl rfl rfl ?_
                    clear F a; intro a F
                    refine F.split 164 rfl ?_ ?_ <;> (clear F; intro h164 F)
                    ·
                      replace h164 := notT h164
                      refine sFa (f := 0) (k := 0) Tryd.underlying32 rfl Tryd.sizeOf5 rfl rfl F rfl rfl rfl ?_
                      clear F a; intro a F
                      refine sLd Tryd.isAgg5 F rfl rfl rfl (H.cellB 0 rfl (by omega)) ?_
                      clear F a; intro a F
                      refine sBin F rfl rfl rfl rfl (bNeqB (y := 1)) ?_
                      clear F a; intro a F
                      refine sPk F rfl rfl rfl rfl ?_
                      clear F a; intro a F
                      refine sPk F rfl rfl rfl rfl ?_
                      clear F a; intro a F
                      refine sNil ?_
                      refine hK18 _ _ ?_; clear hK18
                      refine cIf F rfl (fun h169 => ?_) (fun h169 => ?_)
                      ·
                        replace h169 := bneT h169
                        exact absurd (show localP (sK q.1 (k0 % 10 + 1)) (sT va vb vc) 0 = 1 from by rw [skip_pc, hsk, h164]; rfl) h169
                      ·
                        replace h169 := bneF h169
                        refine wp_skip ?_
                        refine hK15 _ _ ?_; clear hK15
                        refine cReg ?_
                        refine sBin F rfl rfl rfl rfl (bAddN (j := 1) ?_) ?_
                        focus omega
                        clear F a; intro a F
                        refine sMv F rfl rfl rfl ?_
                        clear F a; intro a F
                        refine sNil ?_
                        exact ⟨_, by omega, _, ⟨j + 1, rfl, rfl, by omega, H.sel [2, 3] rfl rfl⟩, F.to (by repeat (first | exact trivial | refine Le.cons rfl ?_))⟩
                    ·
                      replace h164 := notF h164
                      refine sSk F rfl rfl ?_
                      clear F a; intro a F
                      refine sSk F rfl rfl ?_
                      clear F a; intro a F
                      refine sSk F rfl rfl ?_
                      clear F a; intro a F
                      refine sPk F rfl rfl rfl rfl ?_
                      clear F a; intro a F
                      refine sPk F rfl rfl rfl rfl ?_
                      clear F a; intro a F
                      refine sNil ?_
                      refine hK18 _ _ ?_; clear hK18
                      refine cIfF F rfl ?_
                      refine wp_skip ?_
                      refine hK15 _ _ ?_; clear hK15
                      refine cReg ?_
                      refine sBin F rfl rfl rfl rfl (bAddN (j := 1) ?_) ?_
                      focus omega
                      clear F a; intro a F
                      refine sMv F rfl rfl rfl ?_
                      clear F a; intro a F
                      refine sNil ?_
                      exact ⟨_, by omega, _, ⟨j + 1, rfl, rfl, by omega, H.sel [2, 3] rfl rfl⟩, F.to (by repeat (first | exact trivial | refine Le.cons rfl ?_))⟩
            ·
              replace h125 := of_decide_eq_false h125
              refine wp_exit ?_
              refine hK11 _ _ ?_; clear hK11
              refine cSeq (fun K19 hK19 => ?_)
              refine cReg ?_
              refine sBs1 H Tryd.underlying22 Tryd.sizeOf9 Tryd.zeroValue9 rfl F rfl rfl rfl rfl ?_
              clear F a H; intro b171 a w F H
              refine sMv F rfl rfl rfl ?_
              clear F a; intro a F
              refine sBs1 H Tryd.underlying23 Tryd.sizeOf5 Tryd.zeroValue5 rfl F rfl rfl rfl rfl ?_
              clear F a H; intro b173 a w F H
              refine sMv F rfl rfl rfl ?_
              clear F a; intro a F
              refine sBd (cs := [.bool false, Go.Proofs.YtfemniboggnbiaaDoor.b8 vb]) (places := [(0, 1), (1, 1)]) Tryd.zeroValue50 Tryd.underlying50 (by kernel_rfl) F rfl rfl rfl rfl ?_
              clear F a; intro a F
              refine sBd (cs := [Go.Proofs.YtfemniboggnbiaaDoor.b8 5, Go.Proofs.YtfemniboggnbiaaDoor.b8 0, Go.Proofs.YtfemniboggnbiaaDoor.b8 0, .bool false, Go.Proofs.YtfemniboggnbiaaDoor.b8 vb, .bool false, Go.Proofs.YtfemniboggnbiaaDoor.b8 0, Go.Proofs.YtfemniboggnbiaaDoor.b8 0, Go.Proofs.YtfemniboggnbiaaDoor.b8 0, Go.Proofs.YtfemniboggnbiaaDoor.b8 0]) (places := [(0, 1), (1, 1), (2, 1), (3, 2), (5, 2), (7, 1), (8, 1), (9, 1)]) Tryd.zeroValue52 Tryd.underlying52 (by kernel_rfl) F rfl rfl rfl rfl ?_
              clear F a; intro a F
              refine sMv F rfl rfl rfl ?_
              clear F a; intro a F
              refine sBd (cs := [.bool false, Go.Proofs.YtfemniboggnbiaaDoor.b8 vc]) (places := [(0, 1), (1, 1)]) Tryd.zeroValue50 Tryd.underlying50 (by kernel_rfl) F rfl rfl rfl rfl ?_
              clear F a; intro a F
              refine sBd (cs := [Go.Proofs.YtfemniboggnbiaaDoor.b8 4, Go.Proofs.YtfemniboggnbiaaDoor.b8 1, Go.Proofs.YtfemniboggnbiaaDoor.b8 0, .bool false, Go.Proofs.YtfemniboggnbiaaDoor.b8 vc, .bool false, Go.Proofs.YtfemniboggnbiaaDoor.b8 0, Go.Proofs.YtfemniboggnbiaaDoor.b8 0, Go.Proofs.YtfemniboggnbiaaDoor.b8 0, Go.Proofs.YtfemniboggnbiaaDoor.b8 0]) (places := [(0, 1), (1, 1), (2, 1), (3, 2), (5, 2), (7, 1), (8, 1), (9, 1)]) Tryd.zeroValue52 Tryd.underlying52 (by kernel_rfl) F rfl rfl rfl rfl ?_
              clear F a; intro a F
              refine sMv F rfl rfl rfl ?_
              clear F a; intro a F
              refine sBd (cs := [.bool false, Go.Proofs.YtfemniboggnbiaaDoor.b8 vb]) (places := [(0, 1), (1, 1)]) Tryd.zeroValue50 Tryd.underlying50 (by kernel_rfl) F rfl rfl rfl rfl ?_
              clear F a; intro a F
              refine sMv F rfl rfl rfl ?_
              clear F a; intro a F
              refine sBd (cs := [.bool false, Go.Proofs.YtfemniboggnbiaaDoor.b8 va]) (places := [(0, 1), (1, 1)]) Tryd.zeroValue50 Tryd.underlying50 (by kernel_rfl) F rfl rfl rfl rfl ?_
              clear F a; intro a F
              refine sBd (cs := [Go.Proofs.YtfemniboggnbiaaDoor.b8 6, Go.Proofs.YtfemniboggnbiaaDoor.b8 2, Go.Proofs.YtfemniboggnbiaaDoor.b8 0, .bool false, Go.Proofs.YtfemniboggnbiaaDoor.b8 vb, .bool false, Go.Proofs.YtfemniboggnbiaaDoor.b8 va, Go.Proofs.YtfemniboggnbiaaDoor.b8 0, Go.Proofs.YtfemniboggnbiaaDoor.b8 0, Go.Proofs.YtfemniboggnbiaaDoor.b8 0]) (places := [(0, 1), (1, 1), (2, 1), (3, 2), (5, 2), (7, 1), (8, 1), (9, 1)]) Tryd.zeroValue52 Tryd.underlying52 (by kernel_rfl) F rfl rfl rfl rfl ?_
              clear F a; intro a F
              refine sBsR (rows := [[Go.Proofs.YtfemniboggnbiaaDoor.b8 5, Go.Proofs.YtfemniboggnbiaaDoor.b8 0, Go.Proofs.YtfemniboggnbiaaDoor.b8 0, .bool false, Go.Proofs.YtfemniboggnbiaaDoor.b8 vb, .bool false, Go.Proofs.YtfemniboggnbiaaDoor.b8 0, Go.Proofs.YtfemniboggnbiaaDoor.b8 0, Go.Proofs.YtfemniboggnbiaaDoor.b8 0, Go.Proofs.YtfemniboggnbiaaDoor.b8 0], [Go.Proofs.YtfemniboggnbiaaDoor.b8 4, Go.Proofs.YtfemniboggnbiaaDoor.b8 1, Go.Proofs.YtfemniboggnbiaaDoor.b8 0, .bool false, Go.Proofs.YtfemniboggnbiaaDoor.b8 vc, .bool false, Go.Proofs.YtfemniboggnbiaaDoor.b8 0, Go.Proofs.YtfemniboggnbiaaDoor.b8 0, Go.Proofs.YtfemniboggnbiaaDoor.b8 0, Go.Proofs.YtfemniboggnbiaaDoor.b8 0], [Go.Proofs.YtfemniboggnbiaaDoor.b8 6, Go.Proofs.YtfemniboggnbiaaDoor.b8 2, Go.Proofs.YtfemniboggnbiaaDoor.b8 0, .bool false, Go.Proofs.YtfemniboggnbiaaDoor.b8 vb, .bool false, Go.Proofs.YtfemniboggnbiaaDoor.b8 va, Go.Proofs.YtfemniboggnbiaaDoor.b8 0, Go.Proofs.YtfemniboggnbiaaDoor.b8 0, Go.Proofs.YtfemniboggnbiaaDoor.b8 0]]) H Tryd.underlying53 Tryd.sizeOf52 Tryd.zeroValue52 rfl F rfl rfl rfl rfl rfl ?_
              clear F a H; intro b185 a w F H
              refine sBs1 H Tryd.underlying24 Tryd.sizeOf53 Tryd.zeroValue53 rfl F rfl rfl rfl rfl ?_
              clear F a H; intro b186 a w F H
              refine sBd (cs := [.string ⟨#[102]⟩, .slice (some ⟨b171, 0, none⟩) 1 1, .slice (some ⟨b173, 0, none⟩) 1 1, .slice (some ⟨b186, 0, none⟩) 1 1, Go.Proofs.YtfemniboggnbiaaDoor.b8 3, Go.Proofs.YtfemniboggnbiaaDoor.b8 0, Go.Proofs.YtfemniboggnbiaaDoor.b8 0, Go.Proofs.YtfemniboggnbiaaDoor.b8 0, Go.Proofs.YtfemniboggnbiaaDoor.b8 0, .slice none 0 0]) (places := [(0, 1), (1, 1), (2, 1), (3, 1), (4, 1), (5, 5)]) Tryd.zeroValue29 Tryd.underlying29 (by kernel_rfl) F rfl rfl rfl rfl ?_
              clear F a; intro a F
              refine sAl H Tryd.zeroValue29 F rfl rfl ?_
              clear F a H; intro b24 a w F H
              refine sSr H 0 ?si F rfl rfl rfl ?s1 rfl rfl ?_
              case si => exact info_size Tryd.sizeOf29
              case s1 => first | rfl | (repeat (first | exact one_nil | (apply one_cons; · first | rfl | assumption | exact one_bif rfl rfl)))
              clear H; intro w H
              refine sNil ?_
              refine hK19 _ _ ?_; clear hK19
              refine cSeq (fun K20 hK20 => ?_)
              refine cReg ?_
              refine sLr Tryd.underlying29 rfl ?si F rfl rfl rfl (H.whole 0 rfl) ?_
              case si => exact info_size Tryd.sizeOf29
              clear F a; intro a F
              refine sCall Tryd.call17 F rfl rfl rfl (play_any _ (fP va vb vc) _ (f_prog (H.whole 4 rfl) (H.whole 3 rfl) (H.whole 1 rfl) (H.whole 2 rfl)) (hN.own H) none 0 [] (fun j c hj => by simp at hj) (by decide)) ?_
              rintro e w ⟨A, c, rfl, H2⟩
              replace H := H.join H2; clear H2; rw [f_playO] at H; rw [f_playO, f_playF, f_startE]
              refine ⟨_, rfl, ?_⟩
              clear F a; intro a F
              refine sMv F rfl rfl rfl ?_
              clear F a; intro a F
              refine sExt F rfl rfl rfl rfl ?_
              clear F a; intro a F
              refine sExt F rfl rfl rfl rfl ?_
              clear F a; intro a F
              refine sExt F rfl rfl rfl rfl ?_
              clear F a; intro a F
              refine sAlB H zB65 F rfl rfl ?_
              clear F a H; intro b25 a w F H
              refine sSrB H 0 Tryd.sizeOf65 F rfl rfl rfl rfl (by omega) ?_
              clear H; intro w H
              rw [lay_all] at H
              refine sAs F rfl rfl rfl ?_
              clear F a; intro a F
              refine sAs F rfl rfl rfl ?_
              clear F a; intro a F
              refine sNil ?_
              refine hK20 _ _ ?_; clear hK20
              refine cSeq (fun K21 hK21 => ?_)
              refine cReg ?_
              refine sMv F rfl rfl rfl ?_
              clear F a; intro a F
              refine sAs F rfl rfl rfl ?_
              clear F a; intro a F
              refine sNil ?_
              refine hK21 _ _ ?_; clear hK21
              refine cSeq (fun K22 hK22 => ?_)
              refine cSeq (fun K23 hK23 => ?_)
              refine cReg ?_
              refine sMv F rfl rfl rfl ?_
              clear F a; intro a F
              refine sMv F rfl rfl rfl ?_
              clear F a; intro a F
              refine sBin F rfl rfl rfl rfl bEqlB ?_
              clear F a; intro a F
              refine sNil ?_
              refine hK23 _ _ ?_; clear hK23
              refine cIf F rfl (fun h197 => ?_) (fun h197 => ?_)
              ·
                replace h197 := beqT h197
                refine cReg ?_
                refine sMv F rfl rfl rfl ?_
                clear F a; intro a F
                refine sAs F rfl rfl rfl ?_
                clear F a; intro a F
                refine sNil ?_
                refine hK22 _ _ ?_; clear hK22
                refine cSeq (fun K24 hK24 => ?_)
                refine cReg ?_
                refine sMv F rfl rfl rfl ?_
                clear F a; intro a F
                refine sBin F rfl rfl rfl rfl bEql ?_
                clear F a; intro a F
                refine sMv F rfl rfl rfl ?_
                clear F a; intro a F
                refine F.split 201 rfl ?_ ?_ <;> (clear F; intro h201 F)
                ·
                  replace h201 := beqT h201
                  refine sMv F rfl rfl rfl ?_
                  clear F a; intro a F
                  refine sLen Tryd.underlying44 F rfl rfl rfl ?_
                  clear F a; intro a F
                  refine sBin F rfl rfl rfl rfl bEql ?_
                  clear F a; intro a F
                  refine sPk F rfl rfl rfl rfl ?_
                  clear F a; intro a F
                  refine sMv F rfl rfl rfl ?_
                  clear F a; intro a F
                  refine F.split 206 rfl ?_ ?_ <;> (clear F; intro h206 F)
                  ·
                    replace h206 := beqT h206
                    refine sFa (f := 0) (k := 0) Tryd.underlying65 rfl Tryd.sizeOf63 rfl rfl F rfl rfl rfl ?_
                    clear F a; intro a F
                    refine sIa (j := 0) Tryd.underlying63 Tryd.sizeOf30 F rfl rfl rfl rfl ?_ ?_
                    focus (first | omega | decide | (simp; omega))
                    clear F a; intro a F
                    refine sIa (j := 0) Tryd.underlying30 Tryd.sizeOf5 F rfl rfl rfl rfl ?_ ?_
                    focus (first | omega | decide | (simp; omega))
                    clear F a; intro a F
                    refine sLd Tryd.isAgg5 F rfl rfl rfl (H.cellB 0 rfl (by omega)) ?_
                    clear F a; intro a F
                    refine sMv F rfl rfl rfl ?_
                    clear F a; intro a F
                    refine sBin F rfl rfl rfl rfl bEqlB ?_
                    clear F a; intro a F
                    refine sPk F rfl rfl rfl rfl ?_
                    clear F a; intro a F
                    refine sMv F rfl rfl rfl ?_
                    clear F a; intro a F
                    refine F.split 214 rfl ?_ ?_ <;> (clear F; intro h214 F)
                    ·
                      replace h214 := beqT h214
                      refine sFa (f := 0) (k := 0) Tryd.underlying65 rfl Tryd.sizeOf63 rfl rfl F rfl rfl rfl ?_
                      clear F a; intro a F
                      refine sIa (j := 0) Tryd.underlying63 Tryd.sizeOf30 F rfl rfl rfl rfl ?_ ?_
                      focus (first | omega | decide | (simp; omega))
                      clear F a; intro a F
                      refine sIa (j := 1) Tryd.underlying30 Tryd.sizeOf5 F rfl rfl rfl rfl ?_ ?_
                      focus (first | omega | decide | (simp; omega))
                      clear F a; intro a F
                      refine sLd Tryd.isAgg5 F rfl rfl rfl (H.cellB 0 rfl (by omega)) ?_
                      clear F a; intro a F
                      refine sMv F rfl rfl rfl ?_
                      clear F a; intro a F
                      refine sBin F rfl rfl rfl rfl (bSubB) ?_
                      clear F a; intro a F
                      refine sMv F rfl rfl rfl ?_
                      clear F a; intro a F
                      refine sBin F rfl rfl rfl rfl bEqlB ?_
                      clear F a; intro a F
                      refine sPk F rfl rfl rfl rfl ?_
                      clear F a; intro a F
                      refine sMv F rfl rfl rfl ?_
                      clear F a; intro a F
                      refine F.split 224 rfl ?_ ?_ <;> (clear F; intro h224 F)
                      ·
                        replace h224 := beqT h224
                        refine sFa (f := 0) (k := 0) Tryd.underlying65 rfl Tryd.sizeOf63 rfl rfl F rfl rfl rfl ?_
                        clear F a; intro a F
                        refine sIa (j := 0) Tryd.underlying63 Tryd.sizeOf30 F rfl rfl rfl rfl ?_ ?_
                        focus (first | omega | decide | (simp; omega))
                        clear F a; intro a F
                        refine sIa (j := 2) Tryd.underlying30 Tryd.sizeOf5 F rfl rfl rfl rfl ?_ ?_
                        focus (first | omega | decide | (simp; omega))
                        clear F a; intro a F
                        refine sLd Tryd.isAgg5 F rfl rfl rfl (H.cellB 0 rfl (by omega)) ?_
                        clear F a; intro a F
                        refine sMv F rfl rfl rfl ?_
                        clear F a; intro a F
                        refine sBin F rfl rfl rfl rfl bEqlB ?_
                        clear F a; intro a F
                        refine sPk F rfl rfl rfl rfl ?_
                        clear F a; intro a F
                        refine sMv F rfl rfl rfl ?_
                        clear F a; intro a F
                        refine F.split 232 rfl ?_ ?_ <;> (clear F; intro h232 F)
                        ·
                          replace h232 := beqT h232
                          refine sFa (f := 1) (k := 32) Tryd.underlying65 rfl Tryd.sizeOf34 rfl rfl F rfl rfl rfl ?_
                          clear F a; intro a F
                          refine sIa (j := 0) Tryd.underlying34 Tryd.sizeOf5 F rfl rfl rfl rfl ?_ ?_
                          focus (first | omega | decide | (simp; omega))
                          clear F a; intro a F
                          refine sLd Tryd.isAgg5 F rfl rfl rfl (H.cellB 0 rfl (by omega)) ?_
                          clear F a; intro a F
                          refine sMv F rfl rfl rfl ?_
                          clear F a; intro a F
                          refine sBin F rfl rfl rfl rfl bEqlB ?_
                          clear F a; intro a F
                          refine sPk F rfl rfl rfl rfl ?_
                          clear F a; intro a F
                          refine sMv F rfl rfl rfl ?_
                          clear F a; intro a F
                          refine F.split 239 rfl ?_ ?_ <;> (clear F; intro h239 F)
                          ·
                            replace h239 := beqT h239
                            refine sCall Tryd.call12 F rfl rfl rfl (awake_any _ (hN.own H)) ?_
                            rintro e w ⟨rfl, hb⟩
                            replace H := H.grow hb; clear hb
                            refine ⟨_, rfl, ?_⟩
                            clear F a; intro a F
                            refine sPk F rfl rfl rfl rfl ?_
                            clear F a; intro a F
                            refine sAs F rfl rfl rfl ?_
                            clear F a; intro a F
                            refine sNil ?_
                            refine hK24 _ _ ?_; clear hK24
                            refine wp_ret ?_
                            refine bRet Tryd.results4 F rfl ?_
                            exact ⟨retB rfl, H.below⟩
                          ·
                            replace h239 := beqF h239
                            exact absurd (show finalP (f3 va vb vc) 32 = _ from by rw [g_mem]; first | exact if_pos h197 | exact if_neg h197) h239
                        ·
                          replace h232 := beqF h232
                          exact absurd (g_r2 va vb vc) h232
                      ·
                        replace h224 := beqF h224
                        exact absurd (show finalP (f3 va vb vc) 1 - vb = va from (UInt8.add_sub_cancel va vb)) h224
                    ·
                      replace h214 := beqF h214
                      exact absurd (g_r0 va vb vc) h214
                  ·
                    replace h206 := beqF h206
                    exact absurd rfl h206
                ·
                  replace h201 := beqF h201
                  exact absurd rfl h201
              ·
                replace h197 := beqF h197
                refine wp_skip ?_
                refine hK22 _ _ ?_; clear hK22
                refine cSeq (fun K25 hK25 => ?_)
                refine cReg ?_
                refine sMv F rfl rfl rfl ?_
                clear F a; intro a F
                refine sBin F rfl rfl rfl rfl bEql ?_
                clear F a; intro a F
                refine sMv F rfl rfl rfl ?_
                clear F a; intro a F
                refine F.split 201 rfl ?_ ?_ <;> (clear F; intro h201 F)
                ·
                  replace h201 := beqT h201
                  refine sMv F rfl rfl rfl ?_
                  clear F a; intro a F
                  refine sLen Tryd.underlying44 F rfl rfl rfl ?_
                  clear F a; intro a F
                  refine sBin F rfl rfl rfl rfl bEql ?_
                  clear F a; intro a F
                  refine sPk F rfl rfl rfl rfl ?_
                  clear F a; intro a F
                  refine sMv F rfl rfl rfl ?_
                  clear F a; intro a F
                  refine F.split 206 rfl ?_ ?_ <;> (clear F; intro h206 F)
                  ·
                    replace h206 := beqT h206
                    refine sFa (f := 0) (k := 0) Tryd.underlying65 rfl Tryd.sizeOf63 rfl rfl F rfl rfl rfl ?_
                    clear F a; intro a F
                    refine sIa (j := 0) Tryd.underlying63 Tryd.sizeOf30 F rfl rfl rfl rfl ?_ ?_
                    focus (first | omega | decide | (simp; omega))
                    clear F a; intro a F
                    refine sIa (j := 0) Tryd.underlying30 Tryd.sizeOf5 F rfl rfl rfl rfl ?_ ?_
                    focus (first | omega | decide | (simp; omega))
                    clear F a; intro a F
                    refine sLd Tryd.isAgg5 F rfl rfl rfl (H.cellB 0 rfl (by omega)) ?_
                    clear F a; intro a F
                    refine sMv F rfl rfl rfl ?_
                    clear F a; intro a F
                    refine sBin F rfl rfl rfl rfl bEqlB ?_
                    clear F a; intro a F
                    refine sPk F rfl rfl rfl rfl ?_
                    clear F a; intro a F
                    refine sMv F rfl rfl rfl ?_
                    clear F a; intro a F
                    refine F.split 214 rfl ?_ ?_ <;> (clear F; intro h214 F)
                    ·
                      replace h214 := beqT h214
                      refine sFa (f := 0) (k := 0) Tryd.underlying65 rfl Tryd.sizeOf63 rfl rfl F rfl rfl rfl ?_
                      clear F a; intro a F
                      refine sIa (j := 0) Tryd.underlying63 Tryd.sizeOf30 F rfl rfl rfl rfl ?_ ?_
                      focus (first | omega | decide | (simp; omega))
                      clear F a; intro a F
                      refine sIa (j := 1) Tryd.underlying30 Tryd.sizeOf5 F rfl rfl rfl rfl ?_ ?_
                      focus (first | omega | decide | (simp; omega))
                      clear F a; intro a F
                      refine sLd Tryd.isAgg5 F rfl rfl rfl (H.cellB 0 rfl (by omega)) ?_
                      clear F a; intro a F
                      refine sMv F rfl rfl rfl ?_
                      clear F a; intro a F
                      refine sBin F rfl rfl rfl rfl (bSubB) ?_
                      clear F a; intro a F
                      refine sMv F rfl rfl rfl ?_
                      clear F a; intro a F
                      refine sBin F rfl rfl rfl rfl bEqlB ?_
                      clear F a; intro a F
                      refine sPk F rfl rfl rfl rfl ?_
                      clear F a; intro a F
                      refine sMv F rfl rfl rfl ?_
                      clear F a; intro a F
                      refine F.split 224 rfl ?_ ?_ <;> (clear F; intro h224 F)
                      ·
                        replace h224 := beqT h224
                        refine sFa (f := 0) (k := 0) Tryd.underlying65 rfl Tryd.sizeOf63 rfl rfl F rfl rfl rfl ?_
                        clear F a; intro a F
                        refine sIa (j := 0) Tryd.underlying63 Tryd.sizeOf30 F rfl rfl rfl rfl ?_ ?_
                        focus (first | omega | decide | (simp; omega))
                        clear F a; intro a F
                        refine sIa (j := 2) Tryd.underlying30 Tryd.sizeOf5 F rfl rfl rfl rfl ?_ ?_
                        focus (first | omega | decide | (simp; omega))
                        clear F a; intro a F
                        refine sLd Tryd.isAgg5 F rfl rfl rfl (H.cellB 0 rfl (by omega)) ?_
                        clear F a; intro a F
                        refine sMv F rfl rfl rfl ?_
                        clear F a; intro a F
                        refine sBin F rfl rfl rfl rfl bEqlB ?_
                        clear F a; intro a F
                        refine sPk F rfl rfl rfl rfl ?_
                        clear F a; intro a F
                        refine sMv F rfl rfl rfl ?_
                        clear F a; intro a F
                        refine F.split 232 rfl ?_ ?_ <;> (clear F; intro h232 F)
                        ·
                          replace h232 := beqT h232
                          refine sFa (f := 1) (k := 32) Tryd.underlying65 rfl Tryd.sizeOf34 rfl rfl F rfl rfl rfl ?_
                          clear F a; intro a F
                          refine sIa (j := 0) Tryd.underlying34 Tryd.sizeOf5 F rfl rfl rfl rfl ?_ ?_
                          focus (first | omega | decide | (simp; omega))
                          clear F a; intro a F
                          refine sLd Tryd.isAgg5 F rfl rfl rfl (H.cellB 0 rfl (by omega)) ?_
                          clear F a; intro a F
                          refine sMv F rfl rfl rfl ?_
                          clear F a; intro a F
                          refine sBin F rfl rfl rfl rfl bEqlB ?_
                          clear F a; intro a F
                          refine sPk F rfl rfl rfl rfl ?_
                          clear F a; intro a F
                          refine sMv F rfl rfl rfl ?_
                          clear F a; intro a F
                          refine F.split 239 rfl ?_ ?_ <;> (clear F; intro h239 F)
                          ·
                            replace h239 := beqT h239
                            refine sCall Tryd.call12 F rfl rfl rfl (awake_any _ (hN.own H)) ?_
                            rintro e w ⟨rfl, hb⟩
                            replace H := H.grow hb; clear hb
                            refine ⟨_, rfl, ?_⟩
                            clear F a; intro a F
                            refine sPk F rfl rfl rfl rfl ?_
                            clear F a; intro a F
                            refine sAs F rfl rfl rfl ?_
                            clear F a; intro a F
                            refine sNil ?_
                            refine hK25 _ _ ?_; clear hK25
                            refine wp_ret ?_
                            refine bRet Tryd.results4 F rfl ?_
                            exact ⟨retB rfl, H.below⟩
                          ·
                            replace h239 := beqF h239
                            exact absurd (show finalP (f3 va vb vc) 32 = _ from by rw [g_mem]; first | exact if_pos h197 | exact if_neg h197) h239
                        ·
                          replace h232 := beqF h232
                          exact absurd (g_r2 va vb vc) h232
                      ·
                        replace h224 := beqF h224
                        exact absurd (show finalP (f3 va vb vc) 1 - vb = va from (UInt8.add_sub_cancel va vb)) h224
                    ·
                      replace h214 := beqF h214
                      exact absurd (g_r0 va vb vc) h214
                  ·
                    replace h206 := beqF h206
                    exact absurd rfl h206
                ·
                  replace h201 := beqF h201
                  exact absurd rfl h201
end Go.Proofs.YtfemniboggnbiaaDoor
