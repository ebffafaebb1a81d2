/-
  Plain Lean: dead code. Conditions: none.
-/
import Derived.Test.YtmfdpnjgljlkbaaDoorRfP
set_option linter.unusedSimpArgs false
set_option linter.unusedVariables false
namespace Go.Proofs.YtmfdpnjgljlkbaaDoor

/-- Whether a skip with constant arguments jumps. -/
def jumpC (x : Ins) : Bool := if x.fn = 4 then x.aN == x.bN else if x.fn = 5 then x.aN != x.bN else decide (x.aN < x.bN)
def wayN (x : Ins) : Bool := if (x.aR || x.bR) = true then true else !jumpC x
def wayJ (x : Ins) : Bool := if (x.aR || x.bR) = true then true else jumpC x
/-- How many of the instructions that a skip at i skips are alive. -/
def skippedP (alive : List Bool) (i skip : Nat) : Nat := ((alive.drop (i + 1)).take skip).count true
def idleP (x : Ins) (alive : List Bool) (i : Nat) : Bool := !wayJ x || skippedP alive i x.skip.toNat == 0
/-- One instruction's part in what is reached. -/
def reach1 (x : Ins) (al : Bool) (r : List Bool) (i : Nat) : List Bool :=
  if r.getD i false = false then r
  else
    let n := if (al && x.op == 8) = true then wayN x else true
    let j := if (al && x.op == 8) = true then wayJ x else false
    let q := r.set (i + 1) (r.getD (i + 1) false || n)
    if j = true then q.set (i + 1 + x.skip.toNat) true else q
def reachP (l : List Ins) (alive : List Bool) : Nat → List Bool
  | 0 => true :: List.replicate l.length false
  | k + 1 => match l[k]? with
    | some x => reach1 x (alive.getD k false) (reachP l alive k) k
    | none => reachP l alive k
/-- The instructions that are alive behind the first k of a sweep, and whether any died. -/
def sweepK (l : List Ins) (r : List Bool) (alive : List Bool) : Nat → List Bool × Bool
  | 0 => (alive, false)
  | k + 1 => let q := sweepK l r alive k
    match l[k]? with
    | some x => if (q.1.getD k false && (!r.getD k false || (x.op == 8 && idleP x q.1 k))) = true then (q.1.set k false, true) else q
    | none => q
def sweepP (l : List Ins) (alive : List Bool) : List Bool × Bool := sweepK l (reachP l alive l.length) alive l.length
theorem reach1_length (x : Ins) (al : Bool) (r : List Bool) (i : Nat) : (reach1 x al r i).length = r.length := by
  unfold reach1
  split
  · rfl
  · simp only
    split <;> split <;> simp
theorem reachP_length (l : List Ins) (alive : List Bool) : ∀ k, (reachP l alive k).length = l.length + 1
  | 0 => by simp [reachP]
  | k + 1 => by
    unfold reachP
    split
    · rw [reach1_length, reachP_length l alive k]
    · exact reachP_length l alive k
theorem sweepK_length (l : List Ins) (r alive : List Bool) : ∀ k, (sweepK l r alive k).1.length = alive.length
  | 0 => rfl
  | k + 1 => by
    unfold sweepK
    have := sweepK_length l r alive k
    simp only
    split
    · split
      · rw [List.length_set]; exact this
      · exact this
    · exact this
theorem reachP_at {l : List Ins} {alive : List Bool} {k : Nat} {x : Ins} (h : l[k]? = some x) : reachP l alive (k + 1) = reach1 x (alive.getD k false) (reachP l alive k) k := by
  rw [reachP, h]
theorem sweepK_at {l : List Ins} {r alive : List Bool} {k : Nat} {x : Ins} (h : l[k]? = some x) : sweepK l r alive (k + 1) = if ((sweepK l r alive k).1.getD k false && (!r.getD k false || (x.op == 8 && idleP x (sweepK l r alive k).1 k))) = true then ((sweepK l r alive k).1.set k false, true) else sweepK l r alive k := by
  rw [sweepK, h]
theorem count_take {l : List Bool} {j : Nat} {v : Bool} (h : l[j]? = some v) : (l.take (j + 1)).count true = (l.take j).count true + (if v = true then 1 else 0) := by
  rw [List.take_add_one, h]
  cases v <;> simp
/-- Sweeps until nothing dies. -/
def foldA (l : List Ins) : Nat → List Bool → List Bool
  | 0, al => al
  | n + 1, al => if (sweepP l al).2 = true then foldA l n (sweepP l al).1 else (sweepP l al).1
def foldAl (l : List Ins) : List Bool := foldA l (l.length + 1) (List.replicate l.length true)
/-- An instruction of what is left. -/
def keepI (x : Ins) (al : List Bool) (k : Nat) : Ins := if x.op = 8 then { x with skip := UInt8.ofNat (skippedP al k x.skip.toNat) } else x
def outP (l : List Ins) (al : List Bool) : Nat → List Ins
  | 0 => []
  | k + 1 => match l[k]? with
    | some x => if al.getD k false = true then outP l al k ++ [keepI x al k] else outP l al k
    | none => outP l al k
def foldP (l : List Ins) : List Ins := outP l (foldAl l) l.length
theorem outP_at {l : List Ins} {al : List Bool} {k : Nat} {x : Ins} (h : l[k]? = some x) : outP l al (k + 1) = if al.getD k false = true then outP l al k ++ [keepI x al k] else outP l al k := by
  rw [outP, h]
theorem outP_length (l : List Ins) (al : List Bool) : ∀ k, (outP l al k).length ≤ k
  | 0 => by simp [outP]
  | k + 1 => by
    have := outP_length l al k
    unfold outP
    split
    · split
      · simp; omega
      · omega
    · omega
theorem count_set {al : List Bool} {k : Nat} (h : al.getD k false = true) : (al.set k false).count true + 1 = al.count true := by
  induction al generalizing k with
  | nil => simp at h
  | cons x r ih =>
    cases k with
    | zero =>
      simp at h; subst h
      simp
    | succ k =>
      have := ih (k := k) (by simpa using h)
      rw [List.set_cons_succ, List.count_cons, List.count_cons]
      omega
theorem sweepK_count (l : List Ins) (r alive : List Bool) : ∀ k, (sweepK l r alive k).1.count true ≤ alive.count true ∧ ((sweepK l r alive k).2 = true → (sweepK l r alive k).1.count true < alive.count true)
  | 0 => by simp [sweepK]
  | k + 1 => by
    have h := sweepK_count l r alive k
    unfold sweepK
    simp only
    split
    · split
      · rename_i hc
        have hk : (sweepK l r alive k).1.getD k false = true := by
          rw [Bool.and_eq_true] at hc; exact hc.1
        have := count_set hk
        refine ⟨?_, fun _ => ?_⟩
        · show ((sweepK l r alive k).1.set k false).count true ≤ _; omega
        · show ((sweepK l r alive k).1.set k false).count true < _; omega
      · exact h
    · exact h
theorem sweepP_length (l : List Ins) (al : List Bool) : (sweepP l al).1.length = al.length := sweepK_length _ _ _ _
end Go.Proofs.YtmfdpnjgljlkbaaDoor
