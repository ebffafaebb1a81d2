/-
  Plain Lean: validity, as the reference states it, operation by operation; conditions without a limit on their depth. Conditions: none.
-/
import Derived.Test.YtmfdpnjgljlkbaaDoorCkK
import Derived.Test.YtmfdpnjgljlkbaaDoorDpC
set_option linter.unusedSimpArgs false
set_option linter.unusedVariables false
namespace Go.Proofs.YtmfdpnjgljlkbaaDoor

section
variable {x : Ins} {locs after : Int}
theorem insOk_split : insOk x locs after = (condK x locs after 0 && condK x locs after 1 && condK x locs after 2 && condK x locs after 3 && condK x locs after 4 && condK x locs after 5 && condK x locs after 6 && condK x locs after 7) := by
  simp only [insOk, show List.range 8 = [0, 1, 2, 3, 4, 5, 6, 7] from rfl, List.all_cons, List.all_nil, Bool.and_true, Bool.and_assoc]
theorem le1 (m : UInt8) : decide (m < 2) = (m == 0 || m == 1) := by
  rw [Bool.eq_iff_iff]
  simp only [Bool.and_eq_true, Bool.or_eq_true, decide_eq_true_eq, beq_iff_eq, UInt8.lt_iff_toNat_lt, UInt8.le_iff_toNat_le, ← UInt8.toNat_inj, UInt8.reduceToNat]
  omega
theorem fn13 (m : UInt8) : (decide (1 ≤ m) && decide (m ≤ 3)) = (m == 1 || m == 2 || m == 3) := by
  rw [Bool.eq_iff_iff]
  simp only [Bool.and_eq_true, Bool.or_eq_true, decide_eq_true_eq, beq_iff_eq, UInt8.lt_iff_toNat_lt, UInt8.le_iff_toNat_le, ← UInt8.toNat_inj, UInt8.reduceToNat]
  omega
theorem fn46 (m : UInt8) : (decide (4 ≤ m) && decide (m ≤ 6)) = (m == 4 || m == 5 || m == 6) := by
  rw [Bool.eq_iff_iff]
  simp only [Bool.and_eq_true, Bool.or_eq_true, decide_eq_true_eq, beq_iff_eq, UInt8.lt_iff_toNat_lt, UInt8.le_iff_toNat_le, ← UInt8.toNat_inj, UInt8.reduceToNat]
  omega
theorem mode35 (m : UInt8) : (decide (3 ≤ m) && decide (m ≤ 5)) = (m == 3 || m == 4 || m == 5) := by
  rw [Bool.eq_iff_iff]
  simp only [Bool.and_eq_true, Bool.or_eq_true, decide_eq_true_eq, beq_iff_eq, UInt8.lt_iff_toNat_lt, UInt8.le_iff_toNat_le, ← UInt8.toNat_inj, UInt8.reduceToNat]
  omega
def want1 (x : Ins) : Ins := ⟨x.op, x.dst, x.loc, false, 0, false, 0, 0, x.mode, 0⟩
def want2 (x : Ins) : Ins := ⟨x.op, 0, x.loc, x.aR, x.aN, false, 0, 0, x.mode, 0⟩
def want3 (x : Ins) : Ins := ⟨x.op, x.dst, 0, x.aR, x.aN, x.bR, x.bN, x.fn, 0, 0⟩
def want4 (x : Ins) : Ins := ⟨x.op, x.dst, x.loc, x.aR, x.aN, false, 0, 0, 0, 0⟩
def want6 (x : Ins) : Ins := ⟨x.op, x.dst, x.loc, x.aR, x.aN, x.bR, x.bN, 0, 0, 0⟩
def want7 (x : Ins) : Ins := ⟨x.op, 0, 0, false, 0, false, 0, 0, x.mode, 0⟩
def want8 (x : Ins) : Ins := ⟨x.op, 0, 0, x.aR, x.aN, x.bR, x.bN, x.fn, 0, x.skip⟩
theorem ins_1 (h : x.op = 1) : insOk x locs after = ((x == want1 x) && decide ((x.loc.toNat : Int) < locs) && decide (x.dst < 8) && decide (x.mode < 2)) := by
  obtain ⟨b1, b2, b3, b4, b5, b6, b7⟩ : hasB (1 : UInt8) 1 = true ∧ hasB (1 : UInt8) 2 = true ∧ hasB (1 : UInt8) 4 = false ∧ hasB (1 : UInt8) 8 = false ∧ hasB (1 : UInt8) 16 = false ∧ hasB (1 : UInt8) 32 = true ∧ hasB (1 : UInt8) 64 = false := by decide
  have hn : x.needed = want1 x := by simp [Ins.needed, want1, h, b1, b2, b3, b4, b5, b6, b7]
  rw [insOk_split, le1]
  cases he : x == want1 x with
  | false => simp [condK, hn, he]
  | true =>
    have e := eq_of_beq he
    have ha : x.aR = false := by rw [e]; rfl
    have hb : x.bR = false := by rw [e]; rfl
    simp [condK, hn, he, h, b1, b2, b3, b4, b5, b6, b7, argOk, modeOk, fnOk, ha, hb, Bool.and_assoc, Bool.and_comm, Bool.and_left_comm]
theorem ins_2 (h : x.op = 2) : insOk x locs after = ((x == want2 x) && decide ((x.loc.toNat : Int) < locs) && argOk x.aR x.aN && (x.mode == 0 || x.mode == 2)) := by
  obtain ⟨b1, b2, b3, b4, b5, b6, b7⟩ : hasB (2 : UInt8) 1 = false ∧ hasB (2 : UInt8) 2 = true ∧ hasB (2 : UInt8) 4 = true ∧ hasB (2 : UInt8) 8 = false ∧ hasB (2 : UInt8) 16 = false ∧ hasB (2 : UInt8) 32 = true ∧ hasB (2 : UInt8) 64 = false := by decide
  have hn : x.needed = want2 x := by simp [Ins.needed, want2, h, b1, b2, b3, b4, b5, b6, b7]
  rw [insOk_split]
  cases he : x == want2 x with
  | false => simp [condK, hn, he]
  | true =>
    have e := eq_of_beq he
    have hd : x.dst = 0 := by rw [e]; rfl
    have hb : x.bR = false := by rw [e]; rfl
    have hg : argOk x.bR x.bN = true := by rw [hb]; rfl
    simp [condK, hn, he, h, b1, b2, b3, b4, b5, b6, b7, hg, modeOk, fnOk, hd, Bool.and_assoc, Bool.and_comm, Bool.and_left_comm]
theorem ins_3 (h : x.op = 3) : insOk x locs after = ((x == want3 x) && decide (x.dst < 8) && argOk x.aR x.aN && argOk x.bR x.bN && (decide (1 ≤ x.fn) && decide (x.fn ≤ 3))) := by
  obtain ⟨b1, b2, b3, b4, b5, b6, b7⟩ : hasB (3 : UInt8) 1 = true ∧ hasB (3 : UInt8) 2 = false ∧ hasB (3 : UInt8) 4 = true ∧ hasB (3 : UInt8) 8 = true ∧ hasB (3 : UInt8) 16 = true ∧ hasB (3 : UInt8) 32 = false ∧ hasB (3 : UInt8) 64 = false := by decide
  have hn : x.needed = want3 x := by simp [Ins.needed, want3, h, b1, b2, b3, b4, b5, b6, b7]
  rw [insOk_split, fn13]
  cases he : x == want3 x with
  | false => simp [condK, hn, he]
  | true => simp [condK, hn, he, h, b1, b2, b3, b4, b5, b6, b7, modeOk, fnOk, Bool.and_assoc, Bool.and_comm, Bool.and_left_comm]
theorem ins_4 (h : x.op = 4) : insOk x locs after = ((x == want4 x) && decide ((x.loc.toNat : Int) < locs) && decide (x.dst < 8) && argOk x.aR x.aN) := by
  obtain ⟨b1, b2, b3, b4, b5, b6, b7⟩ : hasB (4 : UInt8) 1 = true ∧ hasB (4 : UInt8) 2 = true ∧ hasB (4 : UInt8) 4 = true ∧ hasB (4 : UInt8) 8 = false ∧ hasB (4 : UInt8) 16 = false ∧ hasB (4 : UInt8) 32 = false ∧ hasB (4 : UInt8) 64 = false := by decide
  have hn : x.needed = want4 x := by simp [Ins.needed, want4, h, b1, b2, b3, b4, b5, b6, b7]
  rw [insOk_split]
  cases he : x == want4 x with
  | false => simp [condK, hn, he]
  | true =>
    have e := eq_of_beq he
    have hb : x.bR = false := by rw [e]; rfl
    have hg : argOk x.bR x.bN = true := by rw [hb]; rfl
    simp [condK, hn, he, h, b1, b2, b3, b4, b5, b6, b7, hg, modeOk, fnOk, Bool.and_assoc, Bool.and_comm, Bool.and_left_comm]
theorem ins_5 (h : x.op = 5) : insOk x locs after = ((x == want4 x) && decide ((x.loc.toNat : Int) < locs) && decide (x.dst < 8) && argOk x.aR x.aN) := by
  obtain ⟨b1, b2, b3, b4, b5, b6, b7⟩ : hasB (5 : UInt8) 1 = true ∧ hasB (5 : UInt8) 2 = true ∧ hasB (5 : UInt8) 4 = true ∧ hasB (5 : UInt8) 8 = false ∧ hasB (5 : UInt8) 16 = false ∧ hasB (5 : UInt8) 32 = false ∧ hasB (5 : UInt8) 64 = false := by decide
  have hn : x.needed = want4 x := by simp [Ins.needed, want4, h, b1, b2, b3, b4, b5, b6, b7]
  rw [insOk_split]
  cases he : x == want4 x with
  | false => simp [condK, hn, he]
  | true =>
    have e := eq_of_beq he
    have hb : x.bR = false := by rw [e]; rfl
    have hg : argOk x.bR x.bN = true := by rw [hb]; rfl
    simp [condK, hn, he, h, b1, b2, b3, b4, b5, b6, b7, hg, modeOk, fnOk, Bool.and_assoc, Bool.and_comm, Bool.and_left_comm]
theorem ins_6 (h : x.op = 6) : insOk x locs after = ((x == want6 x) && decide ((x.loc.toNat : Int) < locs) && decide (x.dst < 8) && argOk x.aR x.aN && argOk x.bR x.bN) := by
  obtain ⟨b1, b2, b3, b4, b5, b6, b7⟩ : hasB (6 : UInt8) 1 = true ∧ hasB (6 : UInt8) 2 = true ∧ hasB (6 : UInt8) 4 = true ∧ hasB (6 : UInt8) 8 = true ∧ hasB (6 : UInt8) 16 = false ∧ hasB (6 : UInt8) 32 = false ∧ hasB (6 : UInt8) 64 = false := by decide
  have hn : x.needed = want6 x := by simp [Ins.needed, want6, h, b1, b2, b3, b4, b5, b6, b7]
  rw [insOk_split]
  cases he : x == want6 x with
  | false => simp [condK, hn, he]
  | true => simp [condK, hn, he, h, b1, b2, b3, b4, b5, b6, b7, modeOk, fnOk, Bool.and_assoc, Bool.and_comm, Bool.and_left_comm]
theorem ins_7 (h : x.op = 7) : insOk x locs after = ((x == want7 x) && (decide (3 ≤ x.mode) && decide (x.mode ≤ 5))) := by
  obtain ⟨b1, b2, b3, b4, b5, b6, b7⟩ : hasB (7 : UInt8) 1 = false ∧ hasB (7 : UInt8) 2 = false ∧ hasB (7 : UInt8) 4 = false ∧ hasB (7 : UInt8) 8 = false ∧ hasB (7 : UInt8) 16 = false ∧ hasB (7 : UInt8) 32 = true ∧ hasB (7 : UInt8) 64 = false := by decide
  have hn : x.needed = want7 x := by simp [Ins.needed, want7, h, b1, b2, b3, b4, b5, b6, b7]
  rw [insOk_split, mode35]
  cases he : x == want7 x with
  | false => simp [condK, hn, he]
  | true =>
    have e := eq_of_beq he
    have hd : x.dst = 0 := by rw [e]; rfl
    have ha : x.aR = false := by rw [e]; rfl
    have hb : x.bR = false := by rw [e]; rfl
    simp [condK, hn, he, h, b1, b2, b3, b4, b5, b6, b7, argOk, ha, hb, modeOk, fnOk, hd]
theorem ins_8 (h : x.op = 8) : insOk x locs after = ((x == want8 x) && argOk x.aR x.aN && argOk x.bR x.bN && (decide (4 ≤ x.fn) && decide (x.fn ≤ 6)) && decide (1 ≤ x.skip) && decide ((x.skip.toNat : Int) ≤ after)) := by
  obtain ⟨b1, b2, b3, b4, b5, b6, b7⟩ : hasB (8 : UInt8) 1 = false ∧ hasB (8 : UInt8) 2 = false ∧ hasB (8 : UInt8) 4 = true ∧ hasB (8 : UInt8) 8 = true ∧ hasB (8 : UInt8) 16 = true ∧ hasB (8 : UInt8) 32 = false ∧ hasB (8 : UInt8) 64 = true := by decide
  have hn : x.needed = want8 x := by simp [Ins.needed, want8, h, b1, b2, b3, b4, b5, b6, b7]
  rw [insOk_split, fn46]
  cases he : x == want8 x with
  | false => simp [condK, hn, he]
  | true =>
    have e := eq_of_beq he
    have hd : x.dst = 0 := by rw [e]; rfl
    simp [condK, hn, he, h, b1, b2, b3, b4, b5, b6, b7, modeOk, fnOk, hd, Bool.and_assoc, Bool.and_comm, Bool.and_left_comm]
theorem ins_0 (h : ¬ (x.op.toNat = 1 ∨ x.op.toNat = 2 ∨ x.op.toNat = 3 ∨ x.op.toNat = 4 ∨ x.op.toNat = 5 ∨ x.op.toNat = 6 ∨ x.op.toNat = 7 ∨ x.op.toNat = 8)) : insOk x locs after = false := by
  have h0 : condK x locs after 0 = false := by
    have h1 : (1 : UInt8).toNat = 1 := rfl
    have h8 : (8 : UInt8).toNat = 8 := rfl
    simp only [condK, UInt8.le_iff_toNat_le, h1, h8, Bool.and_eq_false_iff, decide_eq_false_iff_not]
    omega
  rw [insOk_split, h0]; simp
end
mutual
/-- A condition is valid but for its depth. -/
def freeC (threads locs : Int) : Cnd → Bool
  | .mk k t n v l => freeL threads locs l &&
    (if k = 0 then (t == 0 && n == 0 && v == 0) && l.length == 0
    else if k = 1 then decide ((t.toNat : Int) < threads) && decide (n < 8) && l.length == 0
    else if k = 2 then decide ((n.toNat : Int) < locs) && t == 0 && l.length == 0
    else if k = 3 ∨ k = 4 then (t == 0 && n == 0 && v == 0) && decide (2 ≤ l.length)
    else if k = 5 then (t == 0 && n == 0 && v == 0) && l.length == 1
    else false)
def freeL (threads locs : Int) : List Cnd → Bool
  | [] => true
  | c :: r => freeC threads locs c && freeL threads locs r
end
theorem freeL_all (threads locs : Int) : ∀ l, freeL threads locs l = l.all (freeC threads locs)
  | [] => by simp [freeL]
  | c :: r => by simp [freeL, freeL_all threads locs r]
theorem deepL_le {n : Nat} : ∀ {l : List Cnd}, deepL l ≤ n ↔ ∀ c ∈ l, deepC c ≤ n
  | [] => by simp [deepL]
  | c :: r => by
    simp only [deepL, Nat.max_le, List.mem_cons, forall_eq_or_imp]
    rw [deepL_le (l := r)]
theorem condOk_free (threads locs : Int) : ∀ (d : Nat) (c : Cnd), condOk threads locs d c = (decide (deepC c ≤ d) && freeC threads locs c)
  | 0, .mk k t n v l => by simp [condOk, deepC]
  | d + 1, .mk k t n v l => by
    have hk : l.all (condOk threads locs d) = (decide (deepL l ≤ d) && freeL threads locs l) := by
      rw [freeL_all]
      rw [Bool.eq_iff_iff]
      simp only [List.all_eq_true, Bool.and_eq_true, decide_eq_true_eq, deepL_le]
      constructor
      · intro h
        have : ∀ c ∈ l, deepC c ≤ d ∧ freeC threads locs c = true := fun c hc => by
          have := h c hc
          rw [condOk_free threads locs d c] at this
          simpa using this
        exact ⟨fun c hc => (this c hc).1, fun c hc => (this c hc).2⟩
      · intro h c hc
        rw [condOk_free threads locs d c]
        simp [h.1 c hc, h.2 c hc]
    have h0 : l.length = 0 → deepL l = 0 ∧ freeL threads locs l = true := fun h => by
      have := List.eq_nil_of_length_eq_zero h
      subst this
      exact ⟨rfl, by simp [freeL]⟩
    have hd : decide (deepC (.mk k t n v l) ≤ d + 1) = decide (deepL l ≤ d) := by simp [deepC]
    rw [hd, condOk, freeC, hk]
    by_cases h1 : l.length = 0
    · obtain ⟨e1, e2⟩ := h0 h1
      rw [e1, e2, h1]
      simp
    · have hf : (l.length == 0) = false := by simpa using h1
      rw [hf]
      cases decide (deepL l ≤ d) <;> cases freeL threads locs l <;> simp
end Go.Proofs.YtmfdpnjgljlkbaaDoor
