/-
  Small general lemmas: hiding, blocks known whole, worlds that have only drawn or grown. Conditions: none.
 
  A frame's slots and the blocks of a function's own, as lists; steps of a region's list over them. Conditions: none.
 
  What a function owns in memory, as a list; its steps. Conditions: none.
 
  Steps of a region's list of operations over known slots and own blocks. Conditions: none.
 
  More steps; small laws for the walks. Conditions: none.
 
  Regions that draw their order, walked once in the text's order: an operation that may come up is taken first where it yields its value in every world that the others may leave. Conditions: none.
 
  Composite values: structs, arrays and slices that are built. Conditions: none.
 
  Slices: cut, made, appended to. Conditions: none.
-/
import Derived.Test.YtmfdpnjgljlkbaaDoorRows
import Derived.WalkKit
import Derived.WalkSpells
import Derived.WalkLawsBesides
import Derived.WalkSmall
import Derived.Deep.QuietTactic
import Derived.BigQuiet
import Derived.StillTailTactics
import Derived.Deep.RegionWith
import Derived.Lib.Hide
import Derived.Deep.MidRow
import Derived.Deep.AppendLies
import Derived.OrdersHeld
import Derived.Laws.Tables
import Derived.Laws.Rows
import Derived.Laws.ResultCell
import Derived.Laws.MakeOwn
set_option linter.unusedSimpArgs false
set_option linter.unusedVariables false
namespace Go.Proofs.YtmfdpnjgljlkbaaDoor
open Go.RowKit

theorem quiet_left {P : Program} {f : FuncId} {args : Array Value} {w : World} {n : Nat} {v : Value}
    (h : Calls P f args (w.drewN n) fun e w' => e = .returned v ∧ w.drewN n = w') : Calls P f args (w.drewN n) fun e w'' => e = .returned v ∧ ∃ m, w'' = w.drewN m :=
  h.mono fun _ _ ⟨he, hm⟩ => ⟨he, n, hm.symm⟩

theorem quiet_add {P : Program} {f : FuncId} {args : Array Value} {w : World} {a n : Nat} {v : Value}
    (h : Calls P f args (w.drewN (a + n)) fun e w' => e = .returned v ∧ ∃ m, w' = (w.drewN (a + n)).drewN m) :
    Calls P f args (w.drewN (a + n)) fun e w'' => e = .returned v ∧ ∃ m, w'' = w.drewN (a + m) :=
  h.mono fun _ _ ⟨he, m, hm⟩ => ⟨he, n + m, by rw [hm, World.drewN_drewN, Nat.add_assoc]⟩
theorem quiet_add_left {P : Program} {f : FuncId} {args : Array Value} {w : World} {a n : Nat} {v : Value}
    (h : Calls P f args (w.drewN (a + n)) fun e w' => e = .returned v ∧ w.drewN (a + n) = w') :
    Calls P f args (w.drewN (a + n)) fun e w'' => e = .returned v ∧ ∃ m, w'' = w.drewN (a + m) :=
  h.mono fun _ _ ⟨he, hm⟩ => ⟨he, n, hm.symm⟩

/-- Block b of the heap is these cells, all of which may be written. -/
def Blk (w : World) (b : Nat) (cs : List Value) (t : TypeId) : Prop := w.heap[b]? = some (.cells cs.toArray t (0, 0))

theorem Blk.cell {w : World} {b : Nat} {cs : List Value} {t : TypeId} (h : Blk w b cs t) (j : Nat) {v : Value} (hj : cs[j]? = some v) : w.cell? ⟨b, j, none⟩ = some v := by
  unfold Blk at h; simp [World.cell?, h, hj]
theorem Blk.frozen {w : World} {b : Nat} {cs : List Value} {t : TypeId} (h : Blk w b cs t) (j : Nat) : w.frozen? ⟨b, j, none⟩ = false := by
  unfold Blk at h; simp [World.frozen?, h]
theorem Blk.lt {w : World} {b : Nat} {cs : List Value} {t : TypeId} (h : Blk w b cs t) : b < w.heap.size := (Array.getElem?_eq_some_iff.1 h).1
theorem Blk.drewN {w : World} {b : Nat} {cs : List Value} {t : TypeId} (h : Blk w b cs t) (n : Nat) : Blk (w.drewN n) b cs t := h
theorem Blk.drew {w : World} {b : Nat} {cs : List Value} {t : TypeId} (h : Blk w b cs t) : Blk w.drew b cs t := h
theorem Blk.alloc {w : World} {b : Nat} {cs : List Value} {t : TypeId} (h : Blk w b cs t) (o : Obj) : Blk (w.alloc o) b cs t :=
  (Below.heap_alloc w o b h.lt).trans h
theorem Blk.new (w : World) (cs : Array Value) (t : TypeId) : Blk (w.alloc (.cells cs t)) w.heap.size cs.toList t := by
  unfold Blk; rw [heap_alloc_new]
theorem Blk.newAt {w : World} {cs : Array Value} {t : TypeId} {b : Nat} (h : b = w.heap.size) : Blk (w.alloc (.cells cs t)) b cs.toList t := by subst h; exact Blk.new _ _ _
theorem Blk.grown {w w' : World} {b : Nat} {cs : List Value} {t : TypeId} {row : Option Nat} (h : Blk w b cs t) (hg : w.grownBy w' row) (hne : some b ≠ row) : Blk w' b cs t :=
  (hg.block b h.lt hne).trans h
theorem Blk.set {w : World} {b : Nat} {cs : List Value} {t : TypeId} (h : Blk w b cs t) (j : Nat) (v : Value) : Blk (w.setCell ⟨b, j, none⟩ v) b (cs.set j v) t := by
  unfold Blk at h ⊢
  have hlt := Blk.lt h
  have h' : w.heap[b] = .cells cs.toArray t (0, 0) := by simpa [Array.getElem?_eq_getElem hlt] using h
  show (w.heap.modify b _)[b]? = _
  rw [Array.getElem?_eq_getElem (by simpa using hlt), Array.getElem_modify_self, h']
  simp
theorem Blk.set1 {w : World} {b : Nat} {x : Value} {t : TypeId} (h : Blk w b [x] t) (v : Value) : Blk (w.setCell ⟨b, 0, none⟩ v) b [v] t := Blk.set h 0 v
theorem Blk.setOther {w : World} {b : Nat} {cs : List Value} {t : TypeId} (h : Blk w b cs t) (a : Addr) (hne : b ≠ a.block) (v : Value) : Blk (w.setCell a v) b cs t :=
  (Below.heap_setCell w a v b hne).trans h
/-- Nothing but block b has changed (and new blocks). -/
theorem only_refl (w : World) (row : Option Nat) : w.grownBy w row := ⟨rfl, rfl, rfl, Nat.le_refl _, fun _ _ _ => rfl⟩
theorem only_drewN {a w : World} {row : Option Nat} (h : a.grownBy w row) (n : Nat) : a.grownBy (w.drewN n) row := ⟨h.os, h.tape, h.output, h.size, h.block⟩
theorem only_drew {a w : World} {row : Option Nat} (h : a.grownBy w row) : a.grownBy w.drew row := ⟨h.os, h.tape, h.output, h.size, h.block⟩
theorem only_alloc {a w : World} {row : Option Nat} (h : a.grownBy w row) (o : Obj) : a.grownBy (w.alloc o) row :=
  ⟨h.os, h.tape, h.output, Nat.le_trans h.size (by simp), fun i hi hne => (Below.heap_alloc w o i (Nat.lt_of_lt_of_le hi h.size)).trans (h.block i hi hne)⟩
theorem only_setCell {a w : World} {g : Nat} (h : a.grownBy w (some g)) {p : Addr} (hp : p.block = g ∨ a.heap.size ≤ p.block) (u : Value) : a.grownBy (w.setCell p u) (some g) :=
  ⟨h.os, h.tape, h.output, by simpa [World.setCell] using h.size, fun i hi hne => (Below.heap_setCell w p u i (by
    rintro rfl
    rcases hp with hp | hp
    · exact hne (by rw [hp])
    · omega)).trans (h.block i hi hne)⟩
theorem only_of_below {a w : World} (h : Below a.heap.size a w) (row : Option Nat) : a.grownBy w row := ⟨h.os, h.tape, h.output, h.size, fun i hi _ => h.block i hi⟩
theorem below_of_only {a w : World} {B : Nat} {row : Option Nat} (h : a.grownBy w row) (hB : B ≤ a.heap.size) (hr : ∀ k, row = some k → B ≤ k) : Below B a w :=
  ⟨h.os, h.tape, h.output, h.size, fun i hi => h.block i (by omega) (fun e => by have := hr i e.symm; omega)⟩
theorem only_trans {a b c : World} {row : Option Nat} (h : a.grownBy b row) (k : b.grownBy c row) : a.grownBy c row :=
  ⟨k.os.trans h.os, k.tape.trans h.tape, k.output.trans h.output, Nat.le_trans h.size k.size, fun i hi hne => (k.block i (Nat.lt_of_lt_of_le hi h.size) hne).trans (h.block i hi hne)⟩
theorem ret_int {k : IntKind} {a b : Int} (h : a = b) : Ending.returned (.int k a) = .returned (.int k b) := by rw [h]
theorem ret_bool {a b : Bool} (h : a = b) : Ending.returned (.bool a) = .returned (.bool b) := by rw [h]
end Go.Proofs.YtmfdpnjgljlkbaaDoor

namespace Go.Proofs.YtmfdpnjgljlkbaaDoor
open Go.RowKit

/-- What is known of slot n. -/
def lk : List (Nat × Value) → Nat → Option Value
  | [], _ => none
  | (k, v) :: r, n => bif Nat.beq k n then some v else lk r n
/-- The frame has N slots, nothing deferred, and the slots of env hold its values. -/
structure Has (N : Nat) (a : Act) (env : List (Nat × Value)) : Prop where
  size : a.tmps.size = N
  nod : a.defers = []
  get : ∀ k v, lk env k = some v → a.tmps.getD k undef = v
/-- An operand's value. -/
def ev (env : List (Nat × Value)) : Operand → Option Value
  | .tmp t => lk env t
  | .const v => some v
  | .global g => some (.pointer (some ⟨g, 0, none⟩))
  | .func f => some (.func (.func f) #[] #[])
def evL (env : List (Nat × Value)) : List Operand → Option (List Value)
  | [] => some []
  | x :: r => match ev env x, evL env r with
    | some v, some vs => some (v :: vs)
    | _, _ => none
/-- env' is a part of env. -/
def Le : List (Nat × Value) → List (Nat × Value) → Prop
  | [], _ => True
  | (k, v) :: r, e => lk e k = some v ∧ Le r e
/-- The part of env at the slots ks. -/
def sub (env : List (Nat × Value)) : List Nat → List (Nat × Value)
  | [] => []
  | k :: r => match lk env k with
    | some v => (k, v) :: sub env r
    | none => sub env r
theorem lk_of_le {e : List (Nat × Value)} : ∀ {l : List (Nat × Value)}, Le l e → ∀ k v, lk l k = some v → lk e k = some v
  | [], _, _, _, h => by simp [lk] at h
  | (k', v') :: r, hl, k, v, h => by
    unfold lk at h
    cases hb : Nat.beq k' k
    · rw [hb] at h; exact lk_of_le hl.2 k v h
    · rw [hb] at h
      have : k' = k := Nat.eq_of_beq_eq_true hb
      subst this
      simp only [cond_true, Option.some.injEq] at h
      subst h; exact hl.1
theorem le_sub (env : List (Nat × Value)) : ∀ ks, Le (sub env ks) env
  | [] => trivial
  | k :: r => by
    unfold sub
    split
    · rename_i v h; exact ⟨h, le_sub env r⟩
    · exact le_sub env r
variable {N : Nat} {a : Act} {env : List (Nat × Value)}
theorem Has.to (F : Has N a env) {e : List (Nat × Value)} (h : Le e env) : Has N a e := ⟨F.size, F.nod, fun k v hk => F.get k v (lk_of_le h k v hk)⟩
theorem Has.sub (F : Has N a env) (ks : List Nat) : Has N a (sub env ks) := F.to (le_sub env ks)
theorem Has.add (F : Has N a env) {k : Nat} {v : Value} (h : lk env k = some v) : Has N a ((k, v) :: env) := ⟨F.size, F.nod, fun j u hj => by
  unfold lk at hj
  cases hb : Nat.beq k j
  · rw [hb] at hj; exact F.get j u hj
  · rw [hb] at hj
    have : k = j := Nat.eq_of_beq_eq_true hb
    subst this
    simp only [cond_true, Option.some.injEq] at hj
    subst hj; exact F.get k v h⟩
theorem Has.put (F : Has N a env) {d : Nat} {v : Value} (hd : Nat.blt d N = true) : Has N (a.put (some d) v) ((d, v) :: env) where
  size := by simp [Act.put, F.size]
  nod := F.nod
  get := fun k u hk => by
    have hlt : d < a.tmps.size := by rw [F.size]; exact Nat.le_of_ble_eq_true hd
    unfold lk at hk
    cases hb : Nat.beq d k
    · rw [hb] at hk
      have hne : d ≠ k := fun e => by subst e; rw [Nat.beq_refl] at hb; cases hb
      have := F.get k u hk
      simpa [Act.put, Array.getElem?_setIfInBounds_ne hne] using this
    · rw [hb] at hk
      have : d = k := Nat.eq_of_beq_eq_true hb
      subst this
      simp only [cond_true, Option.some.injEq] at hk
      subst hk
      simp [Act.put, hlt]
theorem Has.eval (F : Has N a env) {x : Operand} {v : Value} (h : ev env x = some v) : a.eval x = v := by
  cases x with
  | tmp t => exact F.get t v h
  | const u => simpa [ev, Act.eval] using h
  | global g => simpa [ev, Act.eval] using h
  | func f => simpa [ev, Act.eval] using h
theorem Has.evals (F : Has N a env) : ∀ {xs : List Operand} {vs : List Value}, evL env xs = some vs → xs.map a.eval = vs
  | [], vs, h => by simp [evL] at h; subst h; rfl
  | x :: r, vs, h => by
    unfold evL at h
    split at h
    · rename_i v us hv hr
      cases h
      rw [List.map_cons, F.eval hv, F.evals hr]
    · cases h
/-- A frame at a function's start: the arguments and the other slots. -/
def number : List Value → Nat → List (Nat × Value)
  | [], _ => []
  | v :: r, k => (k, v) :: number r (k + 1)
theorem lk_number : ∀ (vs : List Value) (k n : Nat) (v : Value), lk (number vs k) n = some v → k ≤ n ∧ vs[n - k]? = some v
  | [], _, _, _, h => by simp [number, lk] at h
  | u :: r, k, n, v, h => by
    unfold number lk at h
    cases hb : Nat.beq k n
    · rw [hb] at h
      have hne : k ≠ n := fun e => by subst e; rw [Nat.beq_refl] at hb; cases hb
      obtain ⟨h1, h2⟩ := lk_number r (k + 1) n v h
      refine ⟨by omega, ?_⟩
      have : n - k = (n - (k + 1)) + 1 := by omega
      rw [this, List.getElem?_cons_succ]; exact h2
    · rw [hb] at h
      have : k = n := Nat.eq_of_beq_eq_true hb
      subst this
      simp only [cond_true, Option.some.injEq] at h
      subst h
      simp
theorem Has.start {args : List Value} {n : Nat} (h : Nat.ble args.length n = true) : Has n { tmps := args.toArray ++ Array.replicate (n - args.toArray.size) undef, defers := [] } (number args 0) where
  size := by have := Nat.le_of_ble_eq_true h; simp; omega
  nod := rfl
  get := fun k v hk => by
    obtain ⟨_, h2⟩ := lk_number args 0 k v hk
    have hlt : k < args.length := by have := (List.getElem?_eq_some_iff.1 h2).1; omega
    simp only [Nat.sub_zero] at h2
    have h3 : (args.toArray ++ Array.replicate (n - args.toArray.size) undef)[k]? = some v := by
      rw [Array.getElem?_append_left (by simpa using hlt)]; simpa using h2
    simp only [Array.getD_eq_getD_getElem?, h3, Option.getD_some]
/-- A function's body, from its frame. -/
theorem enterF {P : Program} {f : FuncId} {fn : Func} {c : Code} {args : List Value} {w : World} {R : Ending → World → Prop} {N : Nat}
    (hf : P.funcs[f]? = some fn) (hb : fn.body = some c) (hn : fn.ntmps = N) (hl : Nat.ble args.length N = true)
    (h : ∀ a, Has N a (number args 0) → c.wp P (bodyPost P fn R) a w) : Calls P f args.toArray w R := by
  subst hn
  exact calls_of_wp hf hb (h _ (Has.start hl))

/-! ### Guards -/
def eqb : Bool → Bool → Bool
  | true, true => true
  | false, false => true
  | _, _ => false
/-- What the guarding operation's slot holds. -/
def gval (l : List Oper) (env : List (Nat × Value)) (j : Nat) : Option Value :=
  match l[j]? with
  | some o => match o.dst with
    | some t => lk env t
    | none => none
  | none => none
def wants (l : List Oper) (env : List (Nat × Value)) : Option (Nat × Bool) → Bool
  | none => true
  | some (j, b) => match gval l env j with
    | some (.bool c) => eqb c b
    | _ => false
def shuns (l : List Oper) (env : List (Nat × Value)) : Option (Nat × Bool) → Bool
  | none => false
  | some (j, b) => match gval l env j with
    | some (.bool c) => !eqb c b
    | some (.tuple _) => true
    | _ => false
theorem eqb_iff {a b : Bool} : eqb a b = true ↔ a = b := by cases a <;> cases b <;> simp [eqb]
theorem eqb_false {a b : Bool} : eqb a b = false ↔ a ≠ b := by cases a <;> cases b <;> simp [eqb]
theorem getD_some {t : Nat} {u : Value} (h : a.tmps.getD t undef = u) (hu : u ≠ undef) : a.tmps[t]? = some u := by
  rcases Nat.lt_or_ge t a.tmps.size with hl | hl
  · simp only [Array.getD_eq_getD_getElem?, Array.getElem?_eq_getElem hl, Option.getD_some] at h
    rw [Array.getElem?_eq_getElem hl, h]
  · simp only [Array.getD_eq_getD_getElem?, Array.getElem?_eq_none hl, Option.getD_none] at h
    exact absurd h.symm hu
theorem gval_some {l : List Oper} {j : Nat} {u : Value} (F : Has N a env) (h : gval l env j = some u) : ∃ t, (l[j]?).bind (·.dst) = some t ∧ a.tmps.getD t undef = u := by
  unfold gval at h
  cases hj : l[j]? with
  | none => simp [hj] at h
  | some o =>
    simp only [hj] at h
    cases ht : o.dst with
    | none => simp [ht] at h
    | some t =>
      simp only [ht] at h
      exact ⟨t, by simp [ht], F.get t u h⟩
theorem wanted_of {l : List Oper} {o : Oper} (F : Has N a env) (h : wants l env o.guard = true) : Region.wanted o (yielded l.toArray a.tmps) = true := by
  unfold Region.wanted
  cases hg : o.guard with
  | none => rfl
  | some p =>
    obtain ⟨j, b⟩ := p
    rw [hg] at h
    unfold wants at h
    cases hv : gval l env j with
    | none => simp [hv] at h
    | some u =>
      simp only [hv] at h
      obtain ⟨t, h1, h2⟩ := gval_some F hv
      cases u with
      | bool c =>
        have hb := eqb_iff.1 h
        subst hb
        have h3 := getD_some h2 (by simp [undef])
        simp [yielded, h1, h3]
      | _ => simp at h
theorem shunned_of {l : List Oper} {o : Oper} (F : Has N a env) (h : shuns l env o.guard = true) : Region.wanted o (yielded l.toArray a.tmps) = false := by
  unfold Region.wanted
  cases hg : o.guard with
  | none => rw [hg] at h; cases h
  | some p =>
    obtain ⟨j, b⟩ := p
    rw [hg] at h
    unfold shuns at h
    cases hv : gval l env j with
    | none => simp [hv] at h
    | some u =>
      simp only [hv] at h
      obtain ⟨t, h1, h2⟩ := gval_some F hv
      cases u with
      | bool c =>
        have hb : c ≠ b := eqb_false.1 (by simpa using h)
        have h3 := getD_some h2 (by simp [undef])
        simp [yielded, h1, h3, hb]
      | tuple x =>
        simp only [yielded, List.getElem?_toArray, h1, Option.bind_some]
        cases h3 : a.tmps[t]? with
        | none => rfl
        | some u =>
          have : u = .tuple x := by simpa [Array.getD_eq_getD_getElem?, h3] using h2
          subst this; rfl
      | _ => simp at h
end Go.Proofs.YtmfdpnjgljlkbaaDoor

namespace Go.Proofs.YtmfdpnjgljlkbaaDoor
open Go.RowKit

/-- A part of memory: its blocks, and what is known of them. -/
structure Res where
  foot : Nat → Prop
  pred : World → Prop
  loc : ∀ w w' : World, (∀ b, foot b → w'.heap[b]? = w.heap[b]?) → pred w → pred w'
/-- A block known whole. -/
def Res.blk (b : Nat) (cs : List Value) (t : TypeId) : Res := ⟨(· = b), fun w => Blk w b cs t, fun _ _ h hp => (h b rfl).trans hp⟩
/-- Memory is as in w0 but for new blocks and block row; the parts rs are apart from all else. -/
structure Own (w0 : World) (row : Option Nat) (w : World) (rs : List Res) : Prop where
  grown : w0.grownBy w row
  pred : ∀ (i : Nat) (r : Res), rs[i]? = some r → r.pred w
  foot : ∀ (i : Nat) (r : Res), rs[i]? = some r → ∀ b, r.foot b → (w0.heap.size ≤ b ∨ some b = row) ∧ b < w.heap.size
  apart : ∀ (i j : Nat) (r s : Res), rs[i]? = some r → rs[j]? = some s → i ≠ j → ∀ b, r.foot b → ¬ s.foot b
variable {w0 w w' : World} {row : Option Nat} {rs : List Res}
theorem Own.start (w : World) (row : Option Nat) : Own w row w [] := ⟨only_refl w row, fun i r h => by simp at h, fun i r h => by simp at h, fun i j r s h => by simp at h⟩
theorem Own.blk (H : Own w0 row w rs) (i : Nat) {b : Nat} {cs : List Value} {t : TypeId} (hi : rs[i]? = some (.blk b cs t)) : Blk w b cs t := H.pred i _ hi
theorem Own.cell (H : Own w0 row w rs) (i : Nat) {b : Nat} {cs : List Value} {t : TypeId} {j : Nat} {v : Value} (hi : rs[i]? = some (.blk b cs t)) (hj : cs[j]? = some v) : w.cell? ⟨b, j, none⟩ = some v := (H.blk i hi).cell j hj
theorem Own.old (H : Own w0 row w rs) {p : Addr} {v : Value} (h : w0.cell? p = some v) (hne : some p.block ≠ row) : w.cell? p = some v := H.grown.cell h hne
theorem Own.arg (H : Own w0 none w rs) {p : Addr} {v : Value} (h : w0.cell? p = some v) : w.cell? p = some v := H.grown.cell h (by simp)
theorem Own.below (H : Own w0 none w rs) : Below w0.heap.size w0 w := below_of_only H.grown (Nat.le_refl _) (fun _ h => by cases h)
/-- Blocks that stood are as they were, so the parts are. -/
theorem Own.same (H : Own w0 row w rs) (hg : w0.grownBy w' row) (hs : w.heap.size ≤ w'.heap.size) (h : ∀ b, b < w.heap.size → w'.heap[b]? = w.heap[b]?) : Own w0 row w' rs where
  grown := hg
  pred := fun i r hi => r.loc w w' (fun b hb => h b (H.foot i r hi b hb).2) (H.pred i r hi)
  foot := fun i r hi b hb => ⟨(H.foot i r hi b hb).1, Nat.lt_of_lt_of_le (H.foot i r hi b hb).2 hs⟩
  apart := H.apart
theorem Own.grow (H : Own w0 row w rs) (h : Below w.heap.size w w') : Own w0 row w' rs :=
  H.same (only_trans H.grown (only_of_below h row)) h.size (fun b hb => h.block b hb)
theorem Own.drew (H : Own w0 row w rs) : Own w0 row w.drew rs := H.same (only_drew H.grown) (Nat.le_refl _) (fun _ _ => rfl)
theorem Own.drewN (H : Own w0 row w rs) (n : Nat) : Own w0 row (w.drewN n) rs := H.same (only_drewN H.grown n) (Nat.le_refl _) (fun _ _ => rfl)
/-- A part more, in new blocks. -/
theorem Own.add (H : Own w0 row w rs) (r : Res) (h : Below w.heap.size w w') (hp : r.pred w') (hf : ∀ b, r.foot b → w.heap.size ≤ b ∧ b < w'.heap.size) : Own w0 row w' (r :: rs) where
  grown := (H.grow h).grown
  pred := fun i r' hi => by
    cases i with
    | zero => simp at hi; subst hi; exact hp
    | succ i => exact (H.grow h).pred i r' (by simpa using hi)
  foot := fun i r' hi b hb => by
    cases i with
    | zero => simp at hi; subst hi; exact ⟨.inl (Nat.le_trans H.grown.size (hf b hb).1), (hf b hb).2⟩
    | succ i => exact (H.grow h).foot i r' (by simpa using hi) b hb
  apart := fun i j r1 r2 hi hj hij b h1 h2 => by
    cases i with
    | zero =>
      cases j with
      | zero => exact hij rfl
      | succ j =>
        simp at hi; subst hi
        have := (H.foot j r2 (by simpa using hj) b h2).2
        have := (hf b h1).1
        omega
    | succ i =>
      cases j with
      | zero =>
        simp at hj; subst hj
        have := (H.foot i r1 (by simpa using hi) b h1).2
        have := (hf b h2).1
        omega
      | succ j => exact H.apart i j r1 r2 (by simpa using hi) (by simpa using hj) (by omega) b h1 h2
theorem Own.alloc (H : Own w0 row w rs) (cs : Array Value) (t : TypeId) : Own w0 row (w.alloc (.cells cs t)) (.blk w.heap.size cs.toList t :: rs) :=
  H.add _ ((Below.refl _ _).alloc (Nat.le_refl _) _) (Blk.new _ _ _) (fun b hb => by cases hb; exact ⟨Nat.le_refl _, by simp⟩)
theorem Own.tail {r : Res} (H : Own w0 row w (r :: rs)) : Own w0 row w rs :=
  ⟨H.grown, fun i r' hi => H.pred (i + 1) r' (by simpa using hi), fun i r' hi => H.foot (i + 1) r' (by simpa using hi), fun i j r1 r2 hi hj hij => H.apart (i + 1) (j + 1) r1 r2 (by simpa using hi) (by simpa using hj) (by omega)⟩
/-- A part has turned, within its blocks and new ones. -/
theorem Own.turn (H : Own w0 row w rs) (i : Nat) {r : Res} (hi : rs[i]? = some r) (r' : Res) (hg : w0.grownBy w' row) (hs : w.heap.size ≤ w'.heap.size)
    (h : ∀ b, b < w.heap.size → ¬ r.foot b → w'.heap[b]? = w.heap[b]?) (hp : r'.pred w') (hf : ∀ b, r'.foot b → (r.foot b ∨ w.heap.size ≤ b) ∧ b < w'.heap.size) : Own w0 row w' (rs.set i r') where
  grown := hg
  pred := fun j s hj => by
    rw [List.getElem?_set] at hj
    split at hj
    · rename_i e
      subst e
      split at hj
      · cases hj; exact hp
      · cases hj
    · rename_i e
      exact s.loc w w' (fun b hb => h b (H.foot j s hj b hb).2 (fun hr => H.apart i j r s hi hj e b hr hb)) (H.pred j s hj)
  foot := fun j s hj b hb => by
    rw [List.getElem?_set] at hj
    split at hj
    · split at hj
      · cases hj
        obtain ⟨h1 | h1, h2⟩ := hf b hb
        · exact ⟨(H.foot i r hi b h1).1, h2⟩
        · exact ⟨.inl (Nat.le_trans H.grown.size h1), h2⟩
      · cases hj
    · exact ⟨(H.foot j s hj b hb).1, Nat.lt_of_lt_of_le (H.foot j s hj b hb).2 hs⟩
  apart := fun j k s u hj hk hjk b h1 h2 => by
    rw [List.getElem?_set] at hj hk
    split at hj
    · rename_i e
      subst e
      split at hj
      · cases hj
        rw [if_neg hjk] at hk
        obtain ⟨h3 | h3, _⟩ := hf b h1
        · exact H.apart i k r u hi hk hjk b h3 h2
        · have := (H.foot k u hk b h2).2; omega
      · cases hj
    · rename_i e
      split at hk
      · rename_i e2
        subst e2
        split at hk
        · cases hk
          obtain ⟨h3 | h3, _⟩ := hf b h2
          · exact H.apart i j r s hi hj e b h3 h1
          · have := (H.foot j s hj b h1).2; omega
        · cases hk
      · exact H.apart j k s u hj hk hjk b h1 h2
theorem grown_setCell {b : Nat} (hg : w0.grownBy w row) (hb : w0.heap.size ≤ b ∨ some b = row) (j : Nat) (v : Value) : w0.grownBy (w.setCell ⟨b, j, none⟩ v) row :=
  ⟨hg.os, hg.tape, hg.output, by simpa [World.setCell] using hg.size, fun i hi hne => (Below.heap_setCell w _ v i (by
    rintro rfl
    rcases hb with hb | hb
    · exact absurd hi (by omega)
    · exact hne hb)).trans (hg.block i hi hne)⟩
theorem Own.set (H : Own w0 row w rs) (i : Nat) {b : Nat} {cs : List Value} {t : TypeId} (hi : rs[i]? = some (.blk b cs t)) (j : Nat) (v : Value) :
    Own w0 row (w.setCell ⟨b, j, none⟩ v) (rs.set i (.blk b (cs.set j v) t)) :=
  H.turn i hi _ (grown_setCell H.grown (H.foot i _ hi b rfl).1 j v) (by simp [World.setCell])
    (fun k _ hk => Below.heap_setCell w _ v k (fun e => hk e)) ((H.blk i hi).set j v)
    (fun k hk => ⟨.inl hk, by cases hk; simpa [World.setCell] using (H.foot i _ hi b rfl).2⟩)
/-- Cells laid over a list from place o on. -/
def splice : List Value → Nat → List Value → List Value
  | cs, _, [] => cs
  | cs, o, v :: r => splice (cs.set o v) (o + 1) r
theorem Own.setCells {b : Nat} {t : TypeId} (i : Nat) : ∀ (vs : List Value) (o : Nat) (w : World) (rs : List Res) (cs : List Value), Own w0 row w rs → rs[i]? = some (.blk b cs t) →
    Own w0 row (w.setCells b o vs) (rs.set i (.blk b (splice cs o vs) t))
  | [], o, w, rs, cs, H, hi => by
    have : rs.set i (.blk b (splice cs o []) t) = rs := by
      refine List.ext_getElem? fun k => ?_
      rw [List.getElem?_set]
      split
      · rename_i e
        subst e
        split
        · exact hi.symm
        · rename_i h; rw [List.getElem?_eq_none (by omega)]
      · rfl
    rw [this]
    exact H
  | v :: r, o, w, rs, cs, H, hi => by
    have h1 := H.set i hi o v
    have hlt : i < rs.length := (List.getElem?_eq_some_iff.1 hi).1
    have h2 := Own.setCells i r (o + 1) _ _ (cs.set o v) h1 (by rw [List.getElem?_set, if_pos rfl, if_pos hlt])
    rw [List.set_set] at h2
    exact h2
theorem Own.there (H : Own w0 row w rs) (i : Nat) {b : Nat} {cs : List Value} {t : TypeId} (hi : rs[i]? = some (.blk b cs t)) (o n : Nat) (h : Nat.ble (o + n) cs.length = true) : w.there b o n := fun j hj => by
  have hl := Nat.le_of_ble_eq_true h
  have hc := (H.blk i hi).cell (o + j) (v := cs[o + j]'(by omega)) (List.getElem?_eq_getElem (by omega))
  exact ⟨by rw [hc]; rfl, (H.blk i hi).frozen (o + j)⟩
theorem Blk.range {b : Nat} {cs : List Value} {t : TypeId} (h : Blk w b cs t) (o n : Nat) : w.rangeAt b o ((cs.drop o).take n) := fun j v hv => by
  rw [List.getElem?_take] at hv
  split at hv
  · rw [List.getElem?_drop] at hv; exact h.cell _ hv
  · cases hv
theorem Own.range (H : Own w0 row w rs) (i : Nat) {b : Nat} {cs : List Value} {t : TypeId} (hi : rs[i]? = some (.blk b cs t)) (o n : Nat) : w.rangeAt b o ((cs.drop o).take n) := (H.blk i hi).range o n
theorem Own.whole (H : Own w0 row w rs) (i : Nat) {b : Nat} {cs : List Value} {t : TypeId} (hi : rs[i]? = some (.blk b cs t)) : w.rangeAt b 0 cs := fun j v hv => by rw [Nat.zero_add]; exact (H.blk i hi).cell j hv
theorem Own.argR (H : Own w0 none w rs) {b o : Nat} {cs : List Value} (h : w0.rangeAt b o cs) : w.rangeAt b o cs := fun j v hv => H.arg (h j v hv)
/-- What a call made, beside what its caller had. -/
theorem Own.join {w1 : World} {ns : List Res} (H : Own w0 row w rs) (H2 : Own w none w1 ns) : Own w0 row w1 (ns ++ rs) where
  grown := (H.grow H2.below).grown
  pred := fun i r hi => by
    rcases Nat.lt_or_ge i ns.length with h | h
    · rw [List.getElem?_append_left h] at hi; exact H2.pred i r hi
    · rw [List.getElem?_append_right h] at hi; exact (H.grow H2.below).pred _ r hi
  foot := fun i r hi b hb => by
    rcases Nat.lt_or_ge i ns.length with h | h
    · rw [List.getElem?_append_left h] at hi
      obtain ⟨h1 | h1, h2⟩ := H2.foot i r hi b hb
      · exact ⟨.inl (Nat.le_trans H.grown.size h1), h2⟩
      · cases h1
    · rw [List.getElem?_append_right h] at hi; exact (H.grow H2.below).foot _ r hi b hb
  apart := fun i j r s hi hj hij b h1 h2 => by
    rcases Nat.lt_or_ge i ns.length with h | h <;> rcases Nat.lt_or_ge j ns.length with k | k
    · rw [List.getElem?_append_left h] at hi; rw [List.getElem?_append_left k] at hj; exact H2.apart i j r s hi hj hij b h1 h2
    · rw [List.getElem?_append_left h] at hi; rw [List.getElem?_append_right k] at hj
      obtain ⟨h3 | h3, _⟩ := H2.foot i r hi b h1
      · have := (H.foot _ s hj b h2).2; omega
      · cases h3
    · rw [List.getElem?_append_right h] at hi; rw [List.getElem?_append_left k] at hj
      obtain ⟨h3 | h3, _⟩ := H2.foot j s hj b h2
      · have := (H.foot _ r hi b h1).2; omega
      · cases h3
    · rw [List.getElem?_append_right h] at hi; rw [List.getElem?_append_right k] at hj; exact H.apart _ _ r s hi hj (by omega) b h1 h2
/-- The rows of a slice's elements, each of sz cells. -/
def RowsAt (w : World) (A : Option Addr) (sz : Nat) (rows : List (List Value)) : Prop := ∀ (j : Nat) (cs : List Value), rows[j]? = some cs → ∃ b off, A = some ⟨b, off, none⟩ ∧ w.rangeAt b (off + j * sz) cs
end Go.Proofs.YtmfdpnjgljlkbaaDoor

namespace Go.Proofs.YtmfdpnjgljlkbaaDoor
open Go.RowKit

variable {P : Program} {l : List Oper} {Q : Exit → Act → World → Prop} {N : Nat} {a : Act} {env : List (Nat × Value)} {rest : List Oper} {d : Tmp} {ty : TypeId} {pos : String} {af : Array Edge} {g : Option (Nat × Bool)}
  {w0 w : World} {row : Option Nat} {rs : List Res}

theorem stepV {o : Oper} {v : Value} {w' : World} (F : Has N a env) (hg : wants l env o.guard = true) (hd : o.dst = some d) (hN : Nat.blt d N = true)
    (hr : (execOp a.eval o).run P w = .ok (.value v) w') (K : ∀ a', Has N a' ((d, v) :: env) → wpList P l.toArray Q rest a' w') : wpList P l.toArray Q (o :: rest) a w := by
  unfold wpList
  rw [if_pos (wanted_of F hg)]
  refine .inl ?_
  unfold Oper.wp
  rw [hr, Oper.upon_value, hd]
  exact K _ (F.put hN)
theorem stepU {o : Oper} {w' : World} (F : Has N a env) (hg : wants l env o.guard = true) (hd : o.dst = none)
    (hr : (execOp a.eval o).run P w = .ok .skip w') (K : wpList P l.toArray Q rest a w') : wpList P l.toArray Q (o :: rest) a w := by
  unfold wpList
  rw [if_pos (wanted_of F hg)]
  refine .inl ?_
  unfold Oper.wp
  rw [hr, Oper.upon_skip, hd]
  exact K
/-- A guarded operation that is passed over. -/
theorem sSk {op : Op} (F : Has N a env) (hg : shuns l env g = true) (hN : Nat.blt d N = true)
    (K : ∀ a, Has N a ((d, undef) :: env) → wpList P l.toArray Q rest a w) : wpList P l.toArray Q (⟨some d, op, ty, pos, af, g⟩ :: rest) a w := by
  have hw := shunned_of (o := ⟨some d, op, ty, pos, af, g⟩) (l := l) F hg
  unfold wpList
  rw [if_neg (by rw [hw]; simp)]
  exact K _ (F.put hN)
theorem sSk0 {op : Op} (F : Has N a env) (hg : shuns l env g = true) (K : wpList P l.toArray Q rest a w) : wpList P l.toArray Q (⟨none, op, ty, pos, af, g⟩ :: rest) a w := by
  have hw := shunned_of (o := ⟨none, op, ty, pos, af, g⟩) (l := l) F hg
  unfold wpList
  rw [if_neg (by rw [hw]; simp)]
  exact K
theorem sNil (K : Q .normal a w) : wpList P l.toArray Q [] a w := K

theorem rMv {x : Operand} {v : Value} (F : Has N a env) (hx : ev env x = some v) : (execOp a.eval ⟨some d, .move x, ty, pos, af, g⟩).run P w = .ok (.value (v)) w :=
  (by simp only [execOp, F.eval hx]; rfl)
theorem sMv {x : Operand} {v : Value} (F : Has N a env) (hg : wants l env g = true) (hN : Nat.blt d N = true) (hx : ev env x = some v)
    (K : ∀ a, Has N a ((d, v) :: env) → wpList P l.toArray Q rest a w) : wpList P l.toArray Q (⟨some d, .move x, ty, pos, af, g⟩ :: rest) a w :=
  stepV F hg rfl hN (rMv F hx) K
theorem rAs {x : Operand} {v : Value} (F : Has N a env) (hx : ev env x = some v) : (execOp a.eval ⟨some d, .assign x, ty, pos, af, g⟩).run P w = .ok (.value (v)) w :=
  (by simp only [execOp, F.eval hx]; rfl)
theorem sAs {x : Operand} {v : Value} (F : Has N a env) (hg : wants l env g = true) (hN : Nat.blt d N = true) (hx : ev env x = some v)
    (K : ∀ a, Has N a ((d, v) :: env) → wpList P l.toArray Q rest a w) : wpList P l.toArray Q (⟨some d, .assign x, ty, pos, af, g⟩ :: rest) a w :=
  stepV F hg rfl hN (rAs F hx) K
/-- A binary operation's result, in every world. -/
def BinR (P : Program) (op : BinOp) (t : TypeId) (x y : Operand) (u v r : Value) : Prop := ∀ w, (do eqGuard op t x y u v; binOp op t u v : Sem Value).run P w = .ok r w
theorem rBin {op : BinOp} {t ty' : TypeId} {x y : Operand} {u v r : Value} (F : Has N a env) (hx : ev env x = some u) (hy : ev env y = some v)
    (hb : BinR P op t x y u v r) : (execOp a.eval ⟨some d, .binOp op t x y ty', ty, pos, af, g⟩).run P w = .ok (.value (r)) w :=
  (by
    have := hb w
    simp only [execOp, F.eval hx, F.eval hy]
    simp only [Sem.run_bind] at this ⊢
    rw [this]; rfl)
theorem sBin {op : BinOp} {t ty' : TypeId} {x y : Operand} {u v r : Value} (F : Has N a env) (hg : wants l env g = true) (hN : Nat.blt d N = true) (hx : ev env x = some u) (hy : ev env y = some v)
    (hb : BinR P op t x y u v r)
    (K : ∀ a, Has N a ((d, r) :: env) → wpList P l.toArray Q rest a w) : wpList P l.toArray Q (⟨some d, .binOp op t x y ty', ty, pos, af, g⟩ :: rest) a w :=
  stepV F hg rfl hN (rBin F hx hy hb) K
section
variable {t : TypeId} {x y : Operand} {k : IntKind} {m n : Int}
theorem bLss : BinR P .lss t x y (.int k m) (.int k n) (.bool (decide (m < n))) := fun w => by simp [eqGuard, go_sem]
theorem bLeq : BinR P .leq t x y (.int k m) (.int k n) (.bool (decide (m ≤ n))) := fun w => by simp [eqGuard, go_sem]
theorem bGtr : BinR P .gtr t x y (.int k m) (.int k n) (.bool (decide (n < m))) := fun w => by simp [eqGuard, go_sem]
theorem bGeq : BinR P .geq t x y (.int k m) (.int k n) (.bool (decide (n ≤ m))) := fun w => by simp [eqGuard, go_sem]
theorem bEql : BinR P .eql t x y (.int k m) (.int k n) (.bool (m == n)) := fun w => by simp [eqGuard, go_sem]
theorem bNeq : BinR P .neq t x y (.int k m) (.int k n) (.bool (m != n)) := fun w => by simp [eqGuard, go_sem]
theorem bAdd : BinR P .add t x y (.int k m) (.int k n) (.int k (k.wrap (m + n))) := fun w => by simp [eqGuard, binOp, Op.intArith, go_sem]
theorem bSub : BinR P .sub t x y (.int k m) (.int k n) (.int k (k.wrap (m - n))) := fun w => by simp [eqGuard, binOp, Op.intArith, go_sem]
theorem bAddI (h : -9223372036854775808 ≤ m + n ∧ m + n ≤ 9223372036854775807) : BinR P .add t x y (.int .i64 m) (.int .i64 n) (.int .i64 (m + n)) := fun w => by
  rw [bAdd w, IntKind.wrap_i64]; congr 2; omega
theorem bSubI (h : -9223372036854775808 ≤ m - n ∧ m - n ≤ 9223372036854775807) : BinR P .sub t x y (.int .i64 m) (.int .i64 n) (.int .i64 (m - n)) := fun w => by
  rw [bSub w, IntKind.wrap_i64]; congr 2; omega
theorem bAddN {i j : Nat} (h : i + j ≤ 9223372036854775807) : BinR P .add t x y (.int .i64 (i : Int)) (.int .i64 (j : Int)) (.int .i64 ((i + j : Nat) : Int)) := fun w => by
  rw [bAddI (by omega) w, Int.natCast_add]
theorem bSubN {i j : Nat} (h : j ≤ i) (h2 : i ≤ 9223372036854775807) : BinR P .sub t x y (.int .i64 (i : Int)) (.int .i64 (j : Int)) (.int .i64 ((i - j : Nat) : Int)) := fun w => by
  rw [bSubI (by omega) w, Int.natCast_sub h]
theorem bStrEq {u v : ByteArray} : BinR P .eql t x y (.string u) (.string v) (.bool (u.toList == v.toList)) := fun w => by simp [eqGuard, go_sem]
theorem bStrNe {u v : ByteArray} : BinR P .neq t x y (.string u) (.string v) (.bool (!(u.toList == v.toList))) := fun w => by simp [eqGuard, go_sem]
theorem bBoolEq {u v : Bool} (h : P.underlying t = some .bool) : BinR P .eql t x y (.bool u) (.bool v) (.bool (u == v)) := fun w => by
  simp [eqGuard, run_eql_bool w t u v h, go_sem]
theorem bBoolNe {u v : Bool} (h : P.underlying t = some .bool) : BinR P .neq t x y (.bool u) (.bool v) (.bool (!(u == v))) := fun w => by
  simp [eqGuard, run_neq_bool w t u v h, go_sem]
end
theorem rNot {t : TypeId} {x : Operand} {b : Bool} (F : Has N a env) (hx : ev env x = some (.bool b)) : (execOp a.eval ⟨some d, .unOp .not t x, ty, pos, af, g⟩).run P w = .ok (.value (.bool (!b))) w :=
  (by simp only [execOp, F.eval hx]; rfl)
theorem sNot {t : TypeId} {x : Operand} {b : Bool} (F : Has N a env) (hg : wants l env g = true) (hN : Nat.blt d N = true) (hx : ev env x = some (.bool b))
    (K : ∀ a, Has N a ((d, .bool (!b)) :: env) → wpList P l.toArray Q rest a w) : wpList P l.toArray Q (⟨some d, .unOp .not t x, ty, pos, af, g⟩ :: rest) a w :=
  stepV F hg rfl hN (rNot F hx) K
/-- c ? x : y where the test is a known bit. -/
theorem rPk {c x y : Operand} {b : Bool} {v : Value} (F : Has N a env) (hc : ev env c = some (.bool b))
    (hv : (bif b then ev env x else ev env y) = some v) : (execOp a.eval ⟨some d, .pick c x y, ty, pos, af, g⟩).run P w = .ok (.value (v)) w :=
  (by
    cases b
    · simp only [execOp, F.eval hc, F.eval (show ev env y = some v from hv)]; rfl
    · simp only [execOp, F.eval hc, F.eval (show ev env x = some v from hv)]; rfl)
theorem sPk {c x y : Operand} {b : Bool} {v : Value} (F : Has N a env) (hg : wants l env g = true) (hN : Nat.blt d N = true) (hc : ev env c = some (.bool b))
    (hv : (bif b then ev env x else ev env y) = some v)
    (K : ∀ a, Has N a ((d, v) :: env) → wpList P l.toArray Q rest a w) : wpList P l.toArray Q (⟨some d, .pick c x y, ty, pos, af, g⟩ :: rest) a w :=
  stepV F hg rfl hN (rPk F hc hv) K
/-- c ? x : y between two bits. -/
theorem rPkB {c x y : Operand} {b u v : Bool} (F : Has N a env) (hc : ev env c = some (.bool b))
    (hx : ev env x = some (.bool u)) (hy : ev env y = some (.bool v)) : (execOp a.eval ⟨some d, .pick c x y, ty, pos, af, g⟩).run P w = .ok (.value (.bool (bif b then u else v))) w :=
  (by
    simp only [execOp, F.eval hc, F.eval hx, F.eval hy]
    cases b <;> simp [asBool, go_sem])
theorem sPkB {c x y : Operand} {b u v : Bool} (F : Has N a env) (hg : wants l env g = true) (hN : Nat.blt d N = true) (hc : ev env c = some (.bool b))
    (hx : ev env x = some (.bool u)) (hy : ev env y = some (.bool v))
    (K : ∀ a, Has N a ((d, .bool (bif b then u else v)) :: env) → wpList P l.toArray Q rest a w) : wpList P l.toArray Q (⟨some d, .pick c x y, ty, pos, af, g⟩ :: rest) a w :=
  stepV F hg rfl hN (rPkB F hc hx hy) K
/-- Between integers. -/
theorem rCv {s t : TypeId} {x : Operand} {k1 k2 : IntKind} {n m : Int} (hs : P.underlying s = some (.int k1)) (ht : P.underlying t = some (.int k2)) (F : Has N a env)
    (hx : ev env x = some (.int k1 n)) (hm : k2.wrap n = m) : (execOp a.eval ⟨some d, .convert s t x, ty, pos, af, g⟩).run P w = .ok (.value (.int k2 m)) w :=
  (by
    subst hm
    simp only [execOp, F.eval hx]
    simp [convert, run_underlying hs, run_underlying ht, Conv.intToInt, go_sem])
theorem sCv {s t : TypeId} {x : Operand} {k1 k2 : IntKind} {n m : Int} (hs : P.underlying s = some (.int k1)) (ht : P.underlying t = some (.int k2)) (F : Has N a env) (hg : wants l env g = true) (hN : Nat.blt d N = true)
    (hx : ev env x = some (.int k1 n)) (hm : k2.wrap n = m)
    (K : ∀ a, Has N a ((d, .int k2 m) :: env) → wpList P l.toArray Q rest a w) : wpList P l.toArray Q (⟨some d, .convert s t x, ty, pos, af, g⟩ :: rest) a w :=
  stepV F hg rfl hN (rCv hs ht F hx hm) K
theorem rNc {x : Operand} {p : Addr} (F : Has N a env) (hx : ev env x = some (.pointer (some p))) : (execOp a.eval ⟨some d, .nilCheck x, ty, pos, af, g⟩).run P w = .ok (.value (.pointer (some p))) w :=
  (by simp only [execOp, F.eval hx]; rfl)
theorem sNc {x : Operand} {p : Addr} (F : Has N a env) (hg : wants l env g = true) (hN : Nat.blt d N = true) (hx : ev env x = some (.pointer (some p)))
    (K : ∀ a, Has N a ((d, .pointer (some p)) :: env) → wpList P l.toArray Q rest a w) : wpList P l.toArray Q (⟨some d, .nilCheck x, ty, pos, af, g⟩ :: rest) a w :=
  stepV F hg rfl hN (rNc F hx) K
/-- A field's address. -/
theorem rFa {s : TypeId} {x : Operand} {f b o k : Nat} {fs : Array Field} {fd : Field} {sz : Nat} (hs : P.underlying s = some (.struct fs)) (hf : fs[f]? = some fd) (hz : ∀ w, (sizeOf fd.type).run P w = .ok sz w) (hnz : Nat.beq sz 0 = false) (hk : o + fd.offset = k)
    (F : Has N a env) (hx : ev env x = some (.pointer (some ⟨b, o, none⟩))) : (execOp a.eval ⟨some d, .fieldAddr s x f, ty, pos, af, g⟩).run P w = .ok (.value (.pointer (some ⟨b, k, none⟩))) w :=
  (by
    subst hk
    simp only [execOp, F.eval hx]
    have : sz ≠ 0 := fun e => by subst e; cases hnz
    simp [Instr.fieldAt, run_underlying hs, hf, Instr.sureAddr, fieldPlace, hz, this, Addr.add_mid, go_sem])
theorem sFa {s : TypeId} {x : Operand} {f b o k : Nat} {fs : Array Field} {fd : Field} {sz : Nat} (hs : P.underlying s = some (.struct fs)) (hf : fs[f]? = some fd) (hz : ∀ w, (sizeOf fd.type).run P w = .ok sz w) (hnz : Nat.beq sz 0 = false) (hk : o + fd.offset = k)
    (F : Has N a env) (hg : wants l env g = true) (hN : Nat.blt d N = true) (hx : ev env x = some (.pointer (some ⟨b, o, none⟩)))
    (K : ∀ a, Has N a ((d, .pointer (some ⟨b, k, none⟩)) :: env) → wpList P l.toArray Q rest a w) : wpList P l.toArray Q (⟨some d, .fieldAddr s x f, ty, pos, af, g⟩ :: rest) a w :=
  stepV F hg rfl hN (rFa hs hf hz hnz hk F hx) K
/-- A slice's element's address. -/
theorem rIx {t e : TypeId} {x i : Operand} {b o n c j sz : Nat} {k : IntKind} (ht : P.underlying t = some (.slice e)) (hz : ∀ w, (sizeOf e).run P w = .ok sz w)
    (F : Has N a env) (hx : ev env x = some (.slice (some ⟨b, o, none⟩) n c)) (hi : ev env i = some (.int k (j : Int))) (hj : j < n) : (execOp a.eval ⟨some d, .indexAddr t x i, ty, pos, af, g⟩).run P w = .ok (.value (.pointer (some ⟨b, o + j * sz, none⟩))) w :=
  (by
    simp only [execOp, F.eval hx, F.eval hi]
    simp [Instr.indexAt, asIntOf, run_underlying ht, hz, hj, Addr.add_mid, go_sem])
theorem sIx {t e : TypeId} {x i : Operand} {b o n c j sz : Nat} {k : IntKind} (ht : P.underlying t = some (.slice e)) (hz : ∀ w, (sizeOf e).run P w = .ok sz w)
    (F : Has N a env) (hg : wants l env g = true) (hN : Nat.blt d N = true) (hx : ev env x = some (.slice (some ⟨b, o, none⟩) n c)) (hi : ev env i = some (.int k (j : Int))) (hj : j < n)
    (K : ∀ a, Has N a ((d, .pointer (some ⟨b, o + j * sz, none⟩)) :: env) → wpList P l.toArray Q rest a w) : wpList P l.toArray Q (⟨some d, .indexAddr t x i, ty, pos, af, g⟩ :: rest) a w :=
  stepV F hg rfl hN (rIx ht hz F hx hi hj) K
/-- An array's element's address. -/
theorem rIa {t e : TypeId} {x i : Operand} {b o n j sz : Nat} {k : IntKind} (ht : P.underlying t = some (.array n e)) (hz : ∀ w, (sizeOf e).run P w = .ok sz w)
    (F : Has N a env) (hx : ev env x = some (.pointer (some ⟨b, o, none⟩))) (hi : ev env i = some (.int k (j : Int))) (hj : j < n) : (execOp a.eval ⟨some d, .indexAddr t x i, ty, pos, af, g⟩).run P w = .ok (.value (.pointer (some ⟨b, o + j * sz, none⟩))) w :=
  (by
    simp only [execOp, F.eval hx, F.eval hi]
    simp [Instr.indexAt, asIntOf, Instr.sureAddr, run_underlying ht, hz, hj, Addr.add_mid, go_sem])
theorem sIa {t e : TypeId} {x i : Operand} {b o n j sz : Nat} {k : IntKind} (ht : P.underlying t = some (.array n e)) (hz : ∀ w, (sizeOf e).run P w = .ok sz w)
    (F : Has N a env) (hg : wants l env g = true) (hN : Nat.blt d N = true) (hx : ev env x = some (.pointer (some ⟨b, o, none⟩))) (hi : ev env i = some (.int k (j : Int))) (hj : j < n)
    (K : ∀ a, Has N a ((d, .pointer (some ⟨b, o + j * sz, none⟩)) :: env) → wpList P l.toArray Q rest a w) : wpList P l.toArray Q (⟨some d, .indexAddr t x i, ty, pos, af, g⟩ :: rest) a w :=
  stepV F hg rfl hN (rIa ht hz F hx hi hj) K
/-- A load of one cell. -/
theorem rLd {t : TypeId} {x : Operand} {p : Addr} {v : Value} (ht : ∀ w, (isAgg t).run P w = .ok false w) (F : Has N a env) (hx : ev env x = some (.pointer (some p)))
    (hc : w.cell? p = some v) : (execOp a.eval ⟨some d, .load t x, ty, pos, af, g⟩).run P w = .ok (.value (v)) w :=
  (by
    simp only [execOp, F.eval hx]
    simp [Instr.loadAt, Instr.sureAddr, loadVar, ht, hc, go_sem])
theorem sLd {t : TypeId} {x : Operand} {p : Addr} {v : Value} (ht : ∀ w, (isAgg t).run P w = .ok false w) (F : Has N a env) (hg : wants l env g = true) (hN : Nat.blt d N = true) (hx : ev env x = some (.pointer (some p)))
    (hc : w.cell? p = some v)
    (K : ∀ a, Has N a ((d, v) :: env) → wpList P l.toArray Q rest a w) : wpList P l.toArray Q (⟨some d, .load t x, ty, pos, af, g⟩ :: rest) a w :=
  stepV F hg rfl hN (rLd ht F hx hc) K
/-- A load of a struct or an array. -/
theorem rLr {t : TypeId} {x : Operand} {b o : Nat} {cs : List Value} {dd : TypeDesc} (hu : P.underlying t = some dd) (hdd : dd.isRow = true) (hi : (P.info? t).map (·.size) = some cs.length)
    (F : Has N a env) (hx : ev env x = some (.pointer (some ⟨b, o, none⟩)))
    (hc : w.rangeAt b o cs) : (execOp a.eval ⟨some d, .load t x, ty, pos, af, g⟩).run P w = .ok (.value (.agg cs.toArray)) w :=
  (by
    simp only [execOp, F.eval hx, Sem.run_bind, run_loadAt_mid w b o t cs dd hc hu hdd hi]
    rfl)
theorem sLr {t : TypeId} {x : Operand} {b o : Nat} {cs : List Value} {dd : TypeDesc} (hu : P.underlying t = some dd) (hdd : dd.isRow = true) (hi : (P.info? t).map (·.size) = some cs.length)
    (F : Has N a env) (hg : wants l env g = true) (hN : Nat.blt d N = true) (hx : ev env x = some (.pointer (some ⟨b, o, none⟩)))
    (hc : w.rangeAt b o cs)
    (K : ∀ a, Has N a ((d, .agg cs.toArray) :: env) → wpList P l.toArray Q rest a w) : wpList P l.toArray Q (⟨some d, .load t x, ty, pos, af, g⟩ :: rest) a w :=
  stepV F hg rfl hN (rLr hu hdd hi F hx hc) K
/-- A store of one cell into an own block. -/
theorem sSt {t : TypeId} {x y : Operand} {b j : Nat} {cs : List Value} {u v : Value} {bt : TypeId} (H : Own w0 row w rs) (i : Nat) (hz : ∀ w, (sizeOf t).run P w = .ok 1 w) (F : Has N a env) (hg : wants l env g = true)
    (hx : ev env x = some (.pointer (some ⟨b, j, none⟩))) (hy : ev env y = some v) (h1 : v.oneCell' = true) (hi : rs[i]? = some (.blk b cs bt)) (hu : cs[j]? = some u)
    (K : ∀ w, Own w0 row w (rs.set i (.blk b (cs.set j v) bt)) → wpList P l.toArray Q rest a w) : wpList P l.toArray Q (⟨none, .store t x y, ty, pos, af, g⟩ :: rest) a w :=
  stepU F hg rfl (w' := w.setCell ⟨b, j, none⟩ v) (by
    simp only [execOp, F.eval hx, F.eval hy]
    have hc := H.cell i hi hu
    have hf := (H.blk i hi).frozen j
    have h2 : v.cells = #[v] := by cases v <;> simp_all [Value.oneCell', Value.cells]
    have h3 := run_storeCells_cells (P := P) b j [v] 0 w (fun q hq => by simp at hq; subst hq; simp [hc]) (fun q hq => by simp at hq; subst hq; simpa using hf) (fun q hq => by simp at hq; subst hq; exact h1)
    simp only [Nat.add_zero] at h3
    have h4 : (storeCells ⟨b, j, none⟩ [v]).run P w = .ok () (w.setCell ⟨b, j, none⟩ v) := h3
    simp only [Instr.storeAt, Instr.sureAddr, storeVar, h2, Sem.run_bind, Sem.run_pure, Result.andThen_ok, hz, List.size_toArray, List.length_cons, List.length_nil, ne_eq, not_true_eq_false, ↓reduceIte, Nat.zero_add, h4]) (K _ (H.set i hi j v))
/-- A store of a struct or an array into an own block. -/
theorem sSr {t : TypeId} {x y : Operand} {b o : Nat} {cs vs : List Value} {bt : TypeId} (H : Own w0 row w rs) (i : Nat) (hs : (P.info? t).map (·.size) = some vs.length) (F : Has N a env) (hg : wants l env g = true)
    (hx : ev env x = some (.pointer (some ⟨b, o, none⟩))) (hy : ev env y = some (.agg vs.toArray)) (h1 : vs.all (·.oneCell') = true) (hi : rs[i]? = some (.blk b cs bt)) (hl : Nat.ble (o + vs.length) cs.length = true)
    (K : ∀ w, Own w0 row w (rs.set i (.blk b (splice cs o vs) bt)) → wpList P l.toArray Q rest a w) : wpList P l.toArray Q (⟨none, .store t x y, ty, pos, af, g⟩ :: rest) a w :=
  stepU F hg rfl (w' := w.setCells b o vs) (by
    simp only [execOp, F.eval hx, F.eval hy]
    have h2 := run_storeAt_mid (P := P) w b o t vs.toArray (by simpa using H.there i hi o vs.length hl) (by simpa using hs) (by simpa using h1)
    simp only [Sem.run_bind, h2, Result.andThen_ok, Sem.run_pure]) (K _ (Own.setCells i vs o w rs cs H hi))
/-- A new variable. -/
theorem sAl {t : TypeId} {z : Value} (H : Own w0 row w rs) (hz : ∀ w, (zeroValue t).run P w = .ok z w) (F : Has N a env) (hg : wants l env g = true) (hN : Nat.blt d N = true)
    (K : ∀ b a w, Has N a ((d, .pointer (some ⟨b, 0, none⟩)) :: env) → Own w0 row w (.blk b z.cells.toList t :: rs) → wpList P l.toArray Q rest a w) : wpList P l.toArray Q (⟨some d, .alloc t, ty, pos, af, g⟩ :: rest) a w :=
  stepV F hg rfl hN (v := .pointer (some ⟨w.heap.size, 0, none⟩)) (w' := w.alloc (.cells z.cells t)) (by simp [execOp, Instr.alloc, hz, newVar, newRow, go_sem]) (fun a' F' => K _ _ _ F' (H.alloc _ _))
theorem sBx {t : TypeId} {x : Operand} {v : Value} (H : Own w0 row w rs) (F : Has N a env) (hg : wants l env g = true) (hN : Nat.blt d N = true) (hx : ev env x = some v)
    (K : ∀ b a w, Has N a ((d, .pointer (some ⟨b, 0, none⟩)) :: env) → Own w0 row w (.blk b v.cells.toList t :: rs) → wpList P l.toArray Q rest a w) : wpList P l.toArray Q (⟨some d, .box t x, ty, pos, af, g⟩ :: rest) a w :=
  stepV F hg rfl hN (v := .pointer (some ⟨w.heap.size, 0, none⟩)) (w' := w.alloc (.cells v.cells t)) (by
    simp only [execOp, F.eval hx, Instr.box, newVar, newRow, Sem.run_bind]
    generalize v.cells = cs
    simp [go_sem]) (fun a' F' => K _ _ _ F' (H.alloc _ _))
theorem rLen {t : TypeId} {x : Operand} {A : Option Addr} {n c : Nat} {e : TypeId} (ht : P.underlying t = some (.slice e)) (F : Has N a env) (hx : ev env x = some (.slice A n c)) : (execOp a.eval ⟨some d, .call ⟨.builtin .len, #[x], #[t]⟩, ty, pos, af, g⟩).run P w = .ok (.value (.int .i64 (n : Int))) w :=
  (by
    simp only [execOp, resolve, List.map_toArray, List.map_cons, List.map_nil, F.eval hx]
    simp [invoke, builtin, Builtin.len_, run_underlying ht, goInt, go_sem])
theorem sLen {t : TypeId} {x : Operand} {A : Option Addr} {n c : Nat} {e : TypeId} (ht : P.underlying t = some (.slice e)) (F : Has N a env) (hg : wants l env g = true) (hN : Nat.blt d N = true) (hx : ev env x = some (.slice A n c))
    (K : ∀ a, Has N a ((d, .int .i64 (n : Int)) :: env) → wpList P l.toArray Q rest a w) : wpList P l.toArray Q (⟨some d, .call ⟨.builtin .len, #[x], #[t]⟩, ty, pos, af, g⟩ :: rest) a w :=
  stepV F hg rfl hN (rLen ht F hx) K
theorem rLenS {t : TypeId} {x : Operand} {s : ByteArray} (ht : P.underlying t = some .string) (F : Has N a env) (hx : ev env x = some (.string s)) : (execOp a.eval ⟨some d, .call ⟨.builtin .len, #[x], #[t]⟩, ty, pos, af, g⟩).run P w = .ok (.value (.int .i64 (s.size : Int))) w :=
  (by
    simp only [execOp, resolve, List.map_toArray, List.map_cons, List.map_nil, F.eval hx]
    simp [invoke, builtin, Builtin.len_, run_underlying ht, goInt, go_sem])
theorem sLenS {t : TypeId} {x : Operand} {s : ByteArray} (ht : P.underlying t = some .string) (F : Has N a env) (hg : wants l env g = true) (hN : Nat.blt d N = true) (hx : ev env x = some (.string s))
    (K : ∀ a, Has N a ((d, .int .i64 (s.size : Int)) :: env) → wpList P l.toArray Q rest a w) : wpList P l.toArray Q (⟨some d, .call ⟨.builtin .len, #[x], #[t]⟩, ty, pos, af, g⟩ :: rest) a w :=
  stepV F hg rfl hN (rLenS ht F hx) K
theorem rExt {x : Operand} {i : Nat} {vs : Array Value} {v : Value} (F : Has N a env) (hx : ev env x = some (.tuple vs)) (hv : vs[i]? = some v) : (execOp a.eval ⟨some d, .extract x i, ty, pos, af, g⟩).run P w = .ok (.value (v)) w :=
  (by simp only [execOp, F.eval hx]; simp [Instr.extract, hv, go_sem])
theorem sExt {x : Operand} {i : Nat} {vs : Array Value} {v : Value} (F : Has N a env) (hg : wants l env g = true) (hN : Nat.blt d N = true) (hx : ev env x = some (.tuple vs)) (hv : vs[i]? = some v)
    (K : ∀ a, Has N a ((d, v) :: env) → wpList P l.toArray Q rest a w) : wpList P l.toArray Q (⟨some d, .extract x i, ty, pos, af, g⟩ :: rest) a w :=
  stepV F hg rfl hN (rExt F hx hv) K
theorem rFn {fn : Fn} {fi ca : List Operand} {us vs : List Value} (F : Has N a env) (hf : evL env fi = some us) (hc : evL env ca = some vs) : (execOp a.eval ⟨some d, .makeFunc fn fi.toArray ca.toArray, ty, pos, af, g⟩).run P w = .ok (.value (.func fn us.toArray vs.toArray)) w :=
  (by simp only [execOp, List.map_toArray, F.evals hf, F.evals hc, Instr.makeFunc]; rfl)
theorem sFn {fn : Fn} {fi ca : List Operand} {us vs : List Value} (F : Has N a env) (hg : wants l env g = true) (hN : Nat.blt d N = true) (hf : evL env fi = some us) (hc : evL env ca = some vs)
    (K : ∀ a, Has N a ((d, .func fn us.toArray vs.toArray) :: env) → wpList P l.toArray Q rest a w) : wpList P l.toArray Q (⟨some d, .makeFunc fn fi.toArray ca.toArray, ty, pos, af, g⟩ :: rest) a w :=
  stepV F hg rfl hN (rFn F hf hc) K
/-- A call of a function. -/
theorem sCall {f : FuncId} {xs : List Operand} {ts : Array TypeId} {vs : List Value} {R : Ending → World → Prop} (hcall : ∀ (args : Array Value) (w : World), (callFunc f args).run P w = .ok (.enter f args) w)
    (F : Has N a env) (hg : wants l env g = true) (hN : Nat.blt d N = true) (hv : evL env xs = some vs) (hc : Calls P f vs.toArray w R)
    (K : ∀ e w, R e w → ∃ v, e = .returned v ∧ ∀ a, Has N a ((d, v) :: env) → wpList P l.toArray Q rest a w) : wpList P l.toArray Q (⟨some d, .call ⟨.value (.func f), xs.toArray, ts⟩, ty, pos, af, g⟩ :: rest) a w := by
  unfold wpList
  rw [if_pos (wanted_of (o := ⟨some d, .call ⟨.value (.func f), xs.toArray, ts⟩, ty, pos, af, g⟩) F hg)]
  refine .inl ?_
  unfold Oper.wp
  have hr : (execOp a.eval ⟨some d, .call ⟨.value (.func f), xs.toArray, ts⟩, ty, pos, af, g⟩).run P w = .ok (.enter f vs.toArray) w := by
    simp only [execOp, resolve, List.map_toArray, F.evals hv, Act.eval]
    simp [Deferred.ofValue, invoke, hcall, go_sem]
  rw [hr, Oper.upon_enter]
  refine hc.mono fun e w' he => ?_
  obtain ⟨v, rfl, hk⟩ := K e w' he
  exact hk _ (F.put hN)
/-- A call of a function value. -/
theorem sCallF {x : Operand} {f : FuncId} {xs : List Operand} {ts : Array TypeId} {vs : List Value} {fi ca : List Value} {R : Ending → World → Prop} (F : Has N a env) (hg : wants l env g = true) (hN : Nat.blt d N = true)
    (hx : ev env x = some (.func (.func f) fi.toArray ca.toArray)) (hcall : ∀ (args : Array Value) (w : World), (callFunc f args).run P w = .ok (.enter f args) w)
    (hv : evL env xs = some vs) (hc : Calls P f (fi ++ vs ++ ca).toArray w R)
    (K : ∀ e w, R e w → ∃ v, e = .returned v ∧ ∀ a, Has N a ((d, v) :: env) → wpList P l.toArray Q rest a w) : wpList P l.toArray Q (⟨some d, .call ⟨.value x, xs.toArray, ts⟩, ty, pos, af, g⟩ :: rest) a w := by
  unfold wpList
  rw [if_pos (wanted_of (o := ⟨some d, .call ⟨.value x, xs.toArray, ts⟩, ty, pos, af, g⟩) F hg)]
  refine .inl ?_
  unfold Oper.wp
  have hr : (execOp a.eval ⟨some d, .call ⟨.value x, xs.toArray, ts⟩, ty, pos, af, g⟩).run P w = .ok (.enter f (fi ++ vs ++ ca).toArray) w := by
    simp only [execOp, resolve, List.map_toArray, F.evals hv, F.eval hx]
    simp [Deferred.ofValue, invoke, hcall, go_sem]
  rw [hr, Oper.upon_enter]
  refine hc.mono fun e w' he => ?_
  obtain ⟨v, rfl, hk⟩ := K e w' he
  exact hk _ (F.put hN)

/-- A function value, called. -/
def CallsF (P : Program) (v : Value) (args : List Value) (w : World) (R : Ending → World → Prop) : Prop :=
  ∃ f fi ca, v = .func (.func f) (List.toArray fi) (List.toArray ca) ∧ (∀ (args : Array Value) (w : World), (callFunc f args).run P w = .ok (.enter f args) w) ∧ Calls P f (fi ++ args ++ ca).toArray w R
theorem sCallV {x : Operand} {xs : List Operand} {ts : Array TypeId} {vs : List Value} {v : Value} {R : Ending → World → Prop} (F : Has N a env) (hg : wants l env g = true) (hN : Nat.blt d N = true)
    (hx : ev env x = some v) (hv : evL env xs = some vs) (hc : CallsF P v vs w R)
    (K : ∀ e w, R e w → ∃ v, e = .returned v ∧ ∀ a, Has N a ((d, v) :: env) → wpList P l.toArray Q rest a w) : wpList P l.toArray Q (⟨some d, .call ⟨.value x, xs.toArray, ts⟩, ty, pos, af, g⟩ :: rest) a w := by
  obtain ⟨f, fi, ca, rfl, h1, h2⟩ := hc
  exact sCallF F hg hN hx h1 hv h2 K

/-! ### Code -/
theorem cSeq {x y : Code} (h : ∀ K : Act → World → Prop, (∀ a w, y.wp P Q a w → K a w) → x.wp P (Exit.then K Q) a w) : (Code.seq x y).wp P Q a w := wp_seq_k h
theorem cReg {id : Nat} (h : wpList P l.toArray Q l a w) : (Code.region id l.toArray false).wp P Q a w := wp_region_lit h
theorem cIfT {c : Operand} {x y : Code} (F : Has N a env) (hc : ev env c = some (.bool true)) (h : x.wp P Q a w) : (Code.cond c x y).wp P Q a w := wp_cond_true (F.eval hc) h
theorem cIfF {c : Operand} {x y : Code} (F : Has N a env) (hc : ev env c = some (.bool false)) (h : y.wp P Q a w) : (Code.cond c x y).wp P Q a w := wp_cond_false (F.eval hc) h
theorem cIf {c : Operand} {x y : Code} {b : Bool} (F : Has N a env) (hc : ev env c = some (.bool b)) (h1 : b = true → x.wp P Q a w) (h2 : b = false → y.wp P Q a w) : (Code.cond c x y).wp P Q a w := wp_cond_split (F.eval hc) h1 h2
/-- A slot's bit is decided. -/
theorem Has.split {G : Prop} (F : Has N a env) (k : Nat) {b : Bool} (hk : lk env k = some (.bool b)) (h1 : b = true → Has N a ((k, .bool true) :: env) → G) (h2 : b = false → Has N a ((k, .bool false) :: env) → G) : G := by
  cases b
  · exact h2 rfl (F.add hk)
  · exact h1 rfl (F.add hk)
/-- The return of one result. -/
theorem bRet {fn : Func} {R : Ending → World → Prop} {t : Tmp} {v : Value} (hres : fn.results = #[.tmp t]) (F : Has N a env) (hv : lk env t = some v) (h : R (.returned v) w) : bodyPost P fn R .ret a w :=
  bodyPost_ret (v := v) (by rw [results_tmp hres, F.get t v hv]) F.nod h
theorem bRet2 {fn : Func} {R : Ending → World → Prop} {t s : Tmp} {u v : Value} (hres : fn.results = #[.tmp t, .tmp s]) (F : Has N a env) (hu : lk env t = some u) (hv : lk env s = some v) (h : R (.returned (.tuple #[u, v])) w) : bodyPost P fn R .ret a w :=
  bodyPost_ret (v := .tuple #[u, v]) (by rw [results_tmp2 hres, F.get t u hu, F.get s v hv]) F.nod h
theorem bEnd {fn : Func} {R : Ending → World → Prop} (hres : fn.results = #[]) (F : Has N a env) (h : R (.returned (.tuple #[])) w) : bodyPost P fn R .normal a w :=
  bodyPost_end (v := .tuple #[]) (results_none hres _ _ _) F.nod h
end Go.Proofs.YtmfdpnjgljlkbaaDoor

namespace Go.Proofs.YtmfdpnjgljlkbaaDoor
open Go.RowKit

variable {P : Program} {l : List Oper} {Q : Exit → Act → World → Prop} {N : Nat} {a : Act} {env : List (Nat × Value)} {rest : List Oper} {d : Tmp} {ty : TypeId} {pos : String} {af : Array Edge} {g : Option (Nat × Bool)}
  {w0 w : World} {row : Option Nat} {rs : List Res}
theorem Le.nil {e : List (Nat × Value)} : Le [] e := trivial
theorem Le.cons {k : Nat} {v : Value} {r e : List (Nat × Value)} (h : lk e k = some v) (hr : Le r e) : Le ((k, v) :: r) e := ⟨h, hr⟩
theorem info_size {t : TypeId} {n : Nat} (h : ∀ w, (sizeOf t).run P w = .ok n w) : (P.info? t).map (·.size) = some n := by
  have := h default
  unfold sizeOf typeInfo at this
  cases hi : P.info? t with
  | none => simp [hi, go_sem] at this
  | some i => simp [hi, go_sem] at this; simp [this]
/-- A byte's value. -/
abbrev b8 (x : UInt8) : Value := .int .u8 (x.toNat : Int)
theorem wrapB (x : UInt8) : IntKind.i64.wrap (x.toNat : Int) = (x.toNat : Int) := by have := x.toNat_lt; rw [IntKind.wrap_i64]; omega
theorem wrapN {n : Nat} (h : n ≤ 9223372036854775807) : IntKind.i64.wrap (n : Int) = (n : Int) := by rw [IntKind.wrap_i64]; omega
theorem wrap8 (n : Nat) : IntKind.u8.wrap (n : Int) = ((UInt8.ofNat n).toNat : Int) := by
  have : IntKind.u8.wrap (n : Int) = (n : Int) % 256 := by simp [IntKind.wrap, IntKind.signed, IntKind.bits]
  rw [this]; simp
section
variable {t : TypeId} {x' y' : Operand} {x y : UInt8}
theorem u8wrap (n : Int) : IntKind.u8.wrap n = n % 256 := by simp [IntKind.wrap, IntKind.signed, IntKind.bits]
theorem bAddB : BinR P .add t x' y' (b8 x) (b8 y) (b8 (x + y)) := fun w => by
  rw [bAdd w, u8wrap, b8, UInt8.toNat_add]; simp
theorem bSubB : BinR P .sub t x' y' (b8 x) (b8 y) (b8 (x - y)) := fun w => by
  rw [bSub w, u8wrap, b8, UInt8.toNat_sub]; have := x.toNat_lt; have := y.toNat_lt; congr 2; omega
theorem toNat_inj8 (x y : UInt8) : ((x.toNat : Int) == (y.toNat : Int)) = (x == y) := by
  rw [Bool.eq_iff_iff]; simp only [beq_iff_eq, Int.ofNat_inj]; exact UInt8.toNat_inj
theorem bEqlB : BinR P .eql t x' y' (b8 x) (b8 y) (.bool (x == y)) := fun w => by rw [bEql w, toNat_inj8]
theorem bNeqB : BinR P .neq t x' y' (b8 x) (b8 y) (.bool (x != y)) := fun w => by rw [bNeq w, bne, toNat_inj8]; rfl
theorem bLssB : BinR P .lss t x' y' (b8 x) (b8 y) (.bool (decide (x < y))) := fun w => by rw [bLss w]; congr 2; simp [UInt8.lt_iff_toNat_lt]
theorem bLeqB : BinR P .leq t x' y' (b8 x) (b8 y) (.bool (decide (x ≤ y))) := fun w => by rw [bLeq w]; congr 2; simp [UInt8.le_iff_toNat_le]
theorem bGtrB : BinR P .gtr t x' y' (b8 x) (b8 y) (.bool (decide (y < x))) := fun w => by rw [bGtr w]; congr 2; simp [UInt8.lt_iff_toNat_lt]
theorem bGeqB : BinR P .geq t x' y' (b8 x) (b8 y) (.bool (decide (y ≤ x))) := fun w => by rw [bGeq w]; congr 2; simp [UInt8.le_iff_toNat_le]
theorem ofInt_u8 (x : UInt8) : BitVec.ofInt 8 (x.toNat : Int) = x.toBitVec := by
  rw [BitVec.ofInt_natCast]; apply BitVec.eq_of_toNat_eq; simp
theorem bAndB : BinR P .and t x' y' (b8 x) (b8 y) (b8 (x &&& y)) := fun w => by
  have h : (x &&& y).toNat < 256 := (x &&& y).toNat_lt
  simp only [eqGuard, binOp, Op.intBits, go_sem]
  show Result.ok (Value.int .u8 (IntKind.u8.wrap ((BitVec.ofInt 8 (x.toNat : Int) &&& BitVec.ofInt 8 (y.toNat : Int)).toNat : Int))) w = _
  rw [ofInt_u8, ofInt_u8, u8wrap]
  have e : (x.toBitVec &&& y.toBitVec).toNat = (x &&& y).toNat := rfl
  rw [e, b8]; congr 2; omega
theorem bXorB : BinR P .xor t x' y' (b8 x) (b8 y) (b8 (x ^^^ y)) := fun w => by
  have h : (x ^^^ y).toNat < 256 := (x ^^^ y).toNat_lt
  simp only [eqGuard, binOp, Op.intBits, go_sem]
  show Result.ok (Value.int .u8 (IntKind.u8.wrap ((BitVec.ofInt 8 (x.toNat : Int) ^^^ BitVec.ofInt 8 (y.toNat : Int)).toNat : Int))) w = _
  rw [ofInt_u8, ofInt_u8, u8wrap]
  have e : (x.toBitVec ^^^ y.toBitVec).toNat = (x ^^^ y).toNat := rfl
  rw [e, b8]; congr 2; omega
end
theorem subRS {b o k' : Nat} {cs : List Value} (h : w.rangeAt b o cs) (k n : Nat) (ho : o + k = k' := by rfl) : w.rangeAt b k' ((cs.drop k).take n) := fun j v hv => by
  subst ho
  rw [List.getElem?_take] at hv
  split at hv
  · rw [List.getElem?_drop] at hv
    have := h _ _ hv
    rwa [← Nat.add_assoc] at this
  · cases hv
theorem subR {b o : Nat} {cs : List Value} (h : w.rangeAt b 0 cs) (k n : Nat) (ho : o = k := by rfl) : w.rangeAt b o ((cs.drop k).take n) := fun j v hv => by
  subst ho
  rw [List.getElem?_take] at hv
  split at hv
  · rw [List.getElem?_drop] at hv
    have := h _ _ hv
    rwa [Nat.zero_add] at this
  · cases hv
theorem bEndR {fn : Func} {R : Ending → World → Prop} (hres : fn.results = #[]) (F : Has N a env) (h : R (.returned (.tuple #[])) w) : bodyPost P fn R .ret a w :=
  bodyPost_ret (v := .tuple #[]) (results_none hres _ _ _) F.nod h
end Go.Proofs.YtmfdpnjgljlkbaaDoor

namespace Go.Proofs.YtmfdpnjgljlkbaaDoor
open Go.RowKit

variable {P : Program} {l : List Oper} {Q : Exit → Act → World → Prop} {S : World → Prop}
/-- Operation i is among those that operation j waits for. -/
def reach (l : List Oper) : Nat → Nat → Nat → Bool
  | 0, _, _ => false
  | n + 1, i, j => match l[j]? with
    | some o => o.after.any fun e => Region.binds .any e && (e.on == i || reach l n i e.on)
    | none => false
/-- Every other operation comes ahead of j, or behind it, in every order. -/
def barr (l : List Oper) (j : Nat) : Bool := (List.range l.length).all fun i => i == j || reach l l.length i j || reach l l.length j i
def Closed (l : List Oper) (listed : Array Bool) : Prop := ∀ k o, l[k]? = some o → listed.getD k false = true → ∀ e ∈ o.after, Region.binds .any e = true → listed.getD e.on false = true
theorem reach_listed {listed : Array Bool} (hc : Closed l listed) {i : Nat} : ∀ (n j : Nat) (o : Oper), l[j]? = some o → (∀ e ∈ o.after, Region.binds .any e = true → listed.getD e.on false = true) → reach l n i j = true → listed.getD i false = true
  | 0, _, _, _, _, h => by simp [reach] at h
  | n + 1, j, o, ho, hd, h => by
    simp only [reach, ho] at h
    obtain ⟨e, he, hb⟩ := Array.any_eq_true'.1 h
    simp only [Bool.and_eq_true, Bool.or_eq_true, beq_iff_eq] at hb
    obtain ⟨hb1, hb2⟩ := hb
    have h1 := hd e he hb1
    rcases hb2 with rfl | hb2
    · exact h1
    · cases hq : l[e.on]? with
      | none =>
        cases n with
        | zero => simp [reach] at hb2
        | succ n => simp [reach, hq] at hb2
      | some o' => exact reach_listed hc n e.on o' hq (hc e.on o' hq h1) hb2
theorem Closed.list {listed : Array Bool} (hc : Closed l listed) {i : Nat} (hr : i ∈ Region.ready .any l.toArray listed) : Closed l (listed.setIfInBounds i true) := by
  intro k o hk hl e he hb
  by_cases hki : k = i
  · subst hki
    obtain ⟨_, o', ho', hall⟩ := mem_ready.1 hr
    have : o = o' := by simpa [hk] using ho'
    subst this
    exact getD_set_true (hall e he hb)
  · rw [getD_set_ne false (Ne.symm hki)] at hl
    exact getD_set_true (hc k o hk hl e he hb)
/-- Whatever order is picked from here on; S holds behind each operation up to one that parts the region. -/
def wpS (P : Program) (l : List Oper) (Q : Exit → Act → World → Prop) (S : World → Prop) : Nat → Array Bool → Act → World → Prop
  | 0, listed, a, w => Region.ready .any l.toArray listed = [] ∧ Q .normal a w
  | fuel + 1, listed, a, w =>
    (Region.ready .any l.toArray listed = [] → Q .normal a w) ∧
    ∀ i ∈ Region.ready .any l.toArray listed, wpOp P l.toArray Q i (fun a' w' => wpAny P .any l.toArray Q fuel (listed.setIfInBounds i true) a' w' ∧ (barr l i = false → S w' ∧ wpS P l Q S fuel (listed.setIfInBounds i true) a' w')) a w
theorem any_of_wpS : ∀ (fuel : Nat) (listed : Array Bool) (a : Act) (w : World), wpS P l Q S fuel listed a w → wpAny P .any l.toArray Q fuel listed a w
  | 0, _, _, _, h => h
  | _ + 1, _, _, _, h => ⟨h.1, fun i hi => wpOp_mono (fun _ _ h' => h'.1) (h.2 i hi)⟩
theorem wpS_mono {S' : World → Prop} (hS : ∀ w, S' w → S w) : ∀ (fuel : Nat) (listed : Array Bool) (a : Act) (w : World), wpS P l Q S' fuel listed a w → wpS P l Q S fuel listed a w
  | 0, _, _, _, h => h
  | fuel + 1, _, _, _, h => ⟨h.1, fun i hi => wpOp_mono (fun _ _ h' => ⟨h'.1, fun hb => ⟨hS _ (h'.2 hb).1, wpS_mono hS fuel _ _ _ (h'.2 hb).2⟩⟩) (h.2 i hi)⟩
theorem not_barr {listed : Array Bool} (hc : Closed l listed) {i j : Nat} (hi : i ∈ Region.ready .any l.toArray listed) (hj : j ∈ Region.ready .any l.toArray listed) (hne : j ≠ i) : barr l j = false := by
  cases hb : barr l j with
  | false => rfl
  | true =>
    exfalso
    obtain ⟨hi0, oi, hoi, hia⟩ := mem_ready.1 hi
    obtain ⟨hj0, oj, hoj, hja⟩ := mem_ready.1 hj
    have hil : i < l.length := by have := (Array.getElem?_eq_some_iff.1 hoi).1; simpa using this
    have h1 := (List.all_eq_true.1 hb) i (List.mem_range.2 hil)
    simp only [Bool.or_eq_true, beq_iff_eq] at h1
    have flip : ∀ k, listed.getD k true = false → listed.getD k false = true → False := fun k h0 h1 => by
      rcases Nat.lt_or_ge k listed.size with h | h
      · simp [h] at h0 h1; rw [h0] at h1; cases h1
      · simp [Array.getElem?_eq_none h] at h1
    rcases h1 with (h1 | h1) | h1
    · exact hne h1.symm
    · exact flip i hi0 (reach_listed hc _ j oj (by simpa using hoj) hja h1)
    · exact flip j hj0 (reach_listed hc _ i oi (by simpa using hoi) hia h1)
theorem wpS_first {i : Nat} {oi : Oper} {v : Value} (hi : l.toArray[i]? = some oi) (hsel : ∀ (j : Nat) (o : Oper) cs b, l.toArray[j]? = some o → o.op ≠ .select cs b)
    (hQ : ∀ c a w, Q (.panic c) (a.put oi.dst v) w → Q (.panic c) a w) :
    ∀ (fuel : Nat) (listed : Array Bool) (a : Act) (w : World), Closed l listed →
      (∀ j oj, l.toArray[j]? = some oj → j ≠ i → listed.getD j true = false → (∀ e ∈ oj.after, Region.binds .any e = true → e.on ≠ i) → oi.apart l.toArray oj = true) →
      i ∈ Region.ready .any l.toArray listed → YieldsIf P l.toArray S oi v a → S w →
      wpS P l Q S fuel (listed.setIfInBounds i true) (a.put oi.dst v) w → wpS P l Q S (fuel + 1) listed a w := by
  intro fuel
  induction fuel with
  | zero =>
    intro listed a w hc hfree hr hy hS H
    refine ⟨fun h => (by rw [h] at hr; cases hr), fun j hj => ?_⟩
    by_cases hji : j = i
    · subst hji; exact hy.wpOp hi hS ⟨any_of_wpS _ _ _ _ H, fun _ => ⟨hS, H⟩⟩
    · have := ready_mono hj hji
      rw [H.1] at this
      cases this
  | succ fuel ih =>
    intro listed a w hc hfree hr hy hS H
    refine ⟨fun h => (by rw [h] at hr; cases hr), fun j hj => ?_⟩
    by_cases hji : j = i
    · subst hji; exact hy.wpOp hi hS ⟨any_of_wpS _ _ _ _ H, fun _ => ⟨hS, H⟩⟩
    · have hnb := not_barr hc hr hj hji
      have h1 := H.2 j (ready_mono hj hji)
      obtain ⟨hjun, oj, hoj, hall⟩ := mem_ready.1 hj
      have hnot : ∀ e ∈ oj.after, Region.binds .any e = true → e.on ≠ i := fun e he hb heq => by
        have h1 := hall e he hb
        have h0 := (mem_ready.1 hr).1
        rw [heq] at h1
        rcases Nat.lt_or_ge i listed.size with h' | h'
        · simp [h'] at h0 h1; rw [h0] at h1; cases h1
        · simp [Array.getElem?_eq_none h'] at h1
      have h2 := wpOp_putIf hoj (hfree j oj hoj hji hjun hnot) (fun cs b => hsel i oi cs b hi) (fun cs b => hsel j oj cs b hoj) hQ hy h1
      have hfree' : ∀ k ok, l.toArray[k]? = some ok → k ≠ i → (listed.setIfInBounds j true).getD k true = false →
          (∀ e ∈ ok.after, Region.binds .any e = true → e.on ≠ i) → oi.apart l.toArray ok = true := fun k ok hk hki hun hno => by
        refine hfree k ok hk hki ?_ hno
        by_cases hjk : j = k
        · subst hjk; exact hjun
        · rw [getD_set_ne true hjk] at hun; exact hun
      refine wpOp_mono (fun a' w' h3 => ?_) h2
      obtain ⟨h3y, h3a, h3s⟩ := h3
      obtain ⟨h3S, h3w⟩ := h3s hnb
      have h4 : wpS P l Q S (fuel + 1) (listed.setIfInBounds j true) a' w' := ih (listed.setIfInBounds j true) a' w' (hc.list hj) hfree' (ready_mono hr (Ne.symm hji)) h3y h3S (by
        rw [Array.setIfInBounds_comm _ _ hji]
        exact h3w)
      exact ⟨any_of_wpS _ _ _ _ h4, fun _ => ⟨h3S, h4⟩⟩

/-! ### In the text's order -/
def mark (n k : Nat) : Array Bool := (List.replicate k true ++ List.replicate (n - k) false).toArray
theorem mark_zero (n : Nat) : Array.replicate n false = mark n 0 := by simp [mark]
theorem mark_set {n k : Nat} (h : k < n) : (mark n k).setIfInBounds k true = mark n (k + 1) := by
  apply Array.ext'
  simp only [mark, Array.toList_setIfInBounds]
  refine List.ext_getElem? fun i => ?_
  rw [List.getElem?_set]
  simp only [List.length_append, List.length_replicate]
  split
  · rename_i e
    subst e
    rw [if_pos (by omega), List.getElem?_append_left (by simp), List.getElem?_replicate, if_pos (by omega)]
  · rename_i e
    rcases Nat.lt_or_ge i k with h1 | h1
    · rw [List.getElem?_append_left (by simpa using h1), List.getElem?_append_left (by simp; omega), List.getElem?_replicate, List.getElem?_replicate, if_pos h1, if_pos (by omega)]
    · rw [List.getElem?_append_right (by simpa using h1), List.getElem?_append_right (by simp; omega)]
      simp only [List.length_replicate, List.getElem?_replicate]
      have : (i - k < n - k) ↔ (i - (k + 1) < n - (k + 1)) := by omega
      simp [this]
theorem mark_get {n k i : Nat} : (mark n k).getD i false = decide (i < k) := by
  simp only [mark, Array.getD_eq_getD_getElem?, List.getElem?_toArray]
  rcases Nat.lt_or_ge i k with h1 | h1
  · rw [List.getElem?_append_left (by simpa using h1), List.getElem?_replicate, if_pos h1]; simp [h1]
  · rw [List.getElem?_append_right (by simpa using h1)]
    simp only [List.length_replicate, List.getElem?_replicate]
    split <;> simp [Nat.not_lt.2 h1]
/-- Each operation waits for earlier ones alone, and there is no select. -/
def backB (l : List Oper) : Bool := ((List.range l.length).all fun k => match l[k]? with | some o => o.after.all fun e => decide (e.on < k) | none => true) && Region.noSelect l.toArray
theorem closed_mark (hb : backB l = true) {k : Nat} : Closed l (mark l.length k) := by
  intro j o hj hl e he _
  rw [mark_get] at hl ⊢
  simp only [decide_eq_true_eq] at hl ⊢
  have h1 := (Bool.and_eq_true_iff.1 hb).1
  have h2 := (List.all_eq_true.1 h1) j (List.mem_range.2 (List.getElem?_eq_some_iff.1 hj).1)
  simp only [hj] at h2
  have h3 := (Array.all_eq_true_iff_forall_mem.1 h2) e he
  simp only [decide_eq_true_eq] at h3
  omega
/-- Operation k may be taken first, once all ahead of it have come up. -/
def takeB (l : List Oper) (k : Nat) : Bool := (Region.ready .any l.toArray (mark l.length k)).contains k && Region.free .any l.toArray (mark l.length k) k
def loneB (l : List Oper) (k : Nat) : Bool := match Region.ready .any l.toArray (mark l.length k) with | [j] => Nat.beq j k | _ => false
variable {N : Nat} {a : Act} {env : List (Nat × Value)} {w : World}
/-- The goal at operation k of a region that draws; its rest is shown for reading alone. -/
def wpD (P : Program) (l : List Oper) (Q : Exit → Act → World → Prop) (S : World → Prop) (k : Nat) (rest : List Oper) (a : Act) (w : World) : Prop :=
  l.drop k = rest → k ≤ l.length → wpS P l Q S (l.length - k) (mark l.length k) a w
theorem cRegD {id : Nat} (hm : P.follows .mixedOrders = true) (S : World → Prop) (h : wpD P l Q S 0 l a w.drew) : (Code.region id l.toArray true).wp P Q a w := by
  refine wp_region_any hm ?_
  have := any_of_wpS _ _ _ _ (h rfl (Nat.zero_le _))
  rw [List.size_toArray, mark_zero]
  exact this
theorem drop_head {k : Nat} {o : Oper} {rest : List Oper} (h : l.drop k = o :: rest) : l[k]? = some o ∧ l.drop (k + 1) = rest ∧ k < l.length := by
  have h1 : l[k]? = some o := by
    have : (l.drop k)[0]? = some o := by rw [h]; rfl
    simpa using this
  refine ⟨h1, ?_, (List.getElem?_eq_some_iff.1 h1).1⟩
  have : l.drop (k + 1) = (l.drop k).tail := by rw [List.tail_drop]
  rw [this, h]; rfl
theorem dTake {k : Nat} {o : Oper} {rest : List Oper} {d : Tmp} {v : Value} (hb : backB l = true) (ht : takeB l k = true) (F : Has N a env) (hg : wants l env o.guard = true) (hd : o.dst = some d) (hN : Nat.blt d N = true)
    (hr : ∀ w, S w → (execOp a.eval o).run P w = .ok (.value v) w) (hS : S w) (hQ : ∀ c a w, Q (.panic c) (a.put (some d) v) w → Q (.panic c) a w)
    (K : ∀ a, Has N a ((d, v) :: env) → wpD P l Q S (k + 1) rest a w) : wpD P l Q S k (o :: rest) a w := by
  intro hdrop hk
  obtain ⟨h1, h2, hlt⟩ := drop_head hdrop
  have hK := K _ (F.put hN) h2 hlt
  rw [← mark_set hlt] at hK
  have e : l.length - k = (l.length - (k + 1)) + 1 := by omega
  rw [e]
  have hta := Bool.and_eq_true_iff.1 ht
  have ho : l.toArray[k]? = some o := by simpa using h1
  refine wpS_first ho (Region.noSelect_spec (Bool.and_eq_true_iff.1 hb).2) (by rw [hd]; exact hQ) _ _ _ _ (closed_mark hb) (Region.free_spec ho hta.2) (by simpa using hta.1) (.inl ⟨wanted_of F hg, hr⟩) hS (by rw [hd]; exact hK)
theorem dSkip {k : Nat} {o : Oper} {rest : List Oper} {d : Tmp} (hb : backB l = true) (ht : takeB l k = true) (F : Has N a env) (hg : shuns l env o.guard = true) (hd : o.dst = some d) (hN : Nat.blt d N = true)
    (hS : S w) (hQ : ∀ c a w, Q (.panic c) (a.put (some d) undef) w → Q (.panic c) a w) (K : ∀ a, Has N a ((d, undef) :: env) → wpD P l Q S (k + 1) rest a w) : wpD P l Q S k (o :: rest) a w := by
  intro hdrop hk
  obtain ⟨h1, h2, hlt⟩ := drop_head hdrop
  have hK := K _ (F.put hN) h2 hlt
  rw [← mark_set hlt] at hK
  have e : l.length - k = (l.length - (k + 1)) + 1 := by omega
  rw [e]
  have hta := Bool.and_eq_true_iff.1 ht
  have ho : l.toArray[k]? = some o := by simpa using h1
  refine wpS_first ho (Region.noSelect_spec (Bool.and_eq_true_iff.1 hb).2) (by rw [hd]; exact hQ) _ _ _ _ (closed_mark hb) (Region.free_spec ho hta.2) (by simpa using hta.1) (.inr ⟨shunned_of F hg, rfl⟩) hS (by rw [hd]; exact hK)
/-- Behind operation j of a region that draws. -/
def Kd (P : Program) (l : List Oper) (Q : Exit → Act → World → Prop) (S : World → Prop) (j : Nat) (rest : List Oper) (a : Act) (w : World) : Prop :=
  wpAny P .any l.toArray Q (l.length - (j + 1)) (mark l.length (j + 1)) a w ∧ (barr l j = false → S w ∧ wpD P l Q S (j + 1) rest a w)
/-- The one operation that may come up: as in a list. -/
theorem dOne {k : Nat} {o : Oper} {rest : List Oper} (ht : loneB l k = true) (F : Has N a env) (hg : wants l env o.guard = true)
    (h : o.wp P a w (Kd P l Q S k rest) Q) : wpD P l Q S k (o :: rest) a w := by
  intro hdrop hk
  obtain ⟨h1, h2, hlt⟩ := drop_head hdrop
  have e : l.length - k = (l.length - (k + 1)) + 1 := by omega
  rw [e]
  have hr : Region.ready .any l.toArray (mark l.length k) = [k] := by
    unfold loneB at ht
    split at ht
    · rename_i j hj; rw [hj, Nat.eq_of_beq_eq_true ht]
    · cases ht
  refine ⟨fun h0 => (by rw [hr] at h0; cases h0), fun i hi => ?_⟩
  rw [hr] at hi
  have hik : i = k := by simpa using hi
  subst hik
  have ho : l.toArray[i]? = some o := by simpa using h1
  unfold wpOp
  simp only [ho, wanted_of F hg, if_true]
  refine .inl (Oper.wp_mono (fun a' w' h' => ?_) h)
  rw [mark_set hlt]
  exact ⟨h'.1, fun hbar => ⟨(h'.2 hbar).1, (h'.2 hbar).2 h2 hlt⟩⟩
theorem dNil {k : Nat} (K : Q .normal a w) (hk : Nat.beq k l.length = true) : wpD P l Q S k [] a w := by
  intro _ _
  have hkl := Nat.eq_of_beq_eq_true hk
  subst hkl
  rw [Nat.sub_self]
  refine ⟨?_, K⟩
  unfold Region.ready
  refine List.filter_eq_nil_iff.2 fun i hi => ?_
  rw [List.size_toArray, List.mem_range] at hi
  have : (mark l.length l.length).getD i true = true := by
    simp [mark, Array.getD_eq_getD_getElem?, hi]
  simp [this]
/-- Behind an operation that parts the region, and behind any other. -/
theorem dPart {j : Nat} {rest : List Oper} {S' : World → Prop} (hdrop : l.drop (j + 1) = rest) (hk : Nat.ble (j + 1) l.length = true) (hb : barr l j = true) (h : wpD P l Q S' (j + 1) rest a w) :
    Kd P l Q S j rest a w :=
  ⟨any_of_wpS _ _ _ _ (h hdrop (Nat.le_of_ble_eq_true hk)), fun h0 => by rw [hb] at h0; cases h0⟩
theorem dOn {j : Nat} {rest : List Oper} {S' : World → Prop} (hdrop : l.drop (j + 1) = rest) (hk : Nat.ble (j + 1) l.length = true) (hS : S w) (hSS : ∀ w, S' w → S w) (h : wpD P l Q S' (j + 1) rest a w) :
    Kd P l Q S j rest a w :=
  ⟨any_of_wpS _ _ _ _ (h hdrop (Nat.le_of_ble_eq_true hk)), fun _ => ⟨hS, fun h1 h2 => wpS_mono hSS _ _ _ _ (h h1 h2)⟩⟩
/-! ### Single operations, whatever comes behind -/
variable {Kt : Act → World → Prop} {w0 : World} {row : Option Nat} {rs : List Res} {d : Tmp} {ty : TypeId} {pos : String} {af : Array Edge} {g : Option (Nat × Bool)}
theorem oV {o : Oper} {v : Value} {w' : World} (F : Has N a env) (hd : o.dst = some d) (hN : Nat.blt d N = true) (hr : (execOp a.eval o).run P w = .ok (.value v) w') (K : ∀ a', Has N a' ((d, v) :: env) → Kt a' w') : o.wp P a w Kt Q := by
  unfold Oper.wp
  rw [hr, Oper.upon_value, hd]
  exact K _ (F.put hN)
theorem oCall {f : FuncId} {xs : List Operand} {ts : Array TypeId} {vs : List Value} {R : Ending → World → Prop} (hcall : ∀ (args : Array Value) (w : World), (callFunc f args).run P w = .ok (.enter f args) w)
    (F : Has N a env) (hN : Nat.blt d N = true) (hv : evL env xs = some vs) (hc : Calls P f vs.toArray w R)
    (K : ∀ e w, R e w → ∃ v, e = .returned v ∧ ∀ a, Has N a ((d, v) :: env) → Kt a w) : (Oper.mk (some d) (.call ⟨.value (.func f), xs.toArray, ts⟩) ty pos af g).wp P a w Kt Q := by
  unfold Oper.wp
  have hr : (execOp a.eval ⟨some d, .call ⟨.value (.func f), xs.toArray, ts⟩, ty, pos, af, g⟩).run P w = .ok (.enter f vs.toArray) w := by
    simp only [execOp, resolve, List.map_toArray, F.evals hv, Act.eval]
    simp [Deferred.ofValue, invoke, hcall, go_sem]
  rw [hr, Oper.upon_enter]
  refine hc.mono fun e w' he => ?_
  obtain ⟨v, rfl, hk⟩ := K e w' he
  exact hk _ (F.put hN)
theorem oCallF {x : Operand} {f : FuncId} {xs : List Operand} {ts : Array TypeId} {vs : List Value} {fi ca : List Value} {R : Ending → World → Prop} (F : Has N a env) (hN : Nat.blt d N = true)
    (hx : ev env x = some (.func (.func f) fi.toArray ca.toArray)) (hcall : ∀ (args : Array Value) (w : World), (callFunc f args).run P w = .ok (.enter f args) w)
    (hv : evL env xs = some vs) (hc : Calls P f (fi ++ vs ++ ca).toArray w R)
    (K : ∀ e w, R e w → ∃ v, e = .returned v ∧ ∀ a, Has N a ((d, v) :: env) → Kt a w) : (Oper.mk (some d) (.call ⟨.value x, xs.toArray, ts⟩) ty pos af g).wp P a w Kt Q := by
  unfold Oper.wp
  have hr : (execOp a.eval ⟨some d, .call ⟨.value x, xs.toArray, ts⟩, ty, pos, af, g⟩).run P w = .ok (.enter f (fi ++ vs ++ ca).toArray) w := by
    simp only [execOp, resolve, List.map_toArray, F.evals hv, F.eval hx]
    simp [Deferred.ofValue, invoke, hcall, go_sem]
  rw [hr, Oper.upon_enter]
  refine hc.mono fun e w' he => ?_
  obtain ⟨v, rfl, hk⟩ := K e w' he
  exact hk _ (F.put hN)
theorem oAl {t : TypeId} {z : Value} (H : Own w0 row w rs) (hz : ∀ w, (zeroValue t).run P w = .ok z w) (F : Has N a env) (hN : Nat.blt d N = true)
    (K : ∀ b a w, Has N a ((d, .pointer (some ⟨b, 0, none⟩)) :: env) → Own w0 row w (.blk b z.cells.toList t :: rs) → Kt a w) : (Oper.mk (some d) (.alloc t) ty pos af g).wp P a w Kt Q :=
  oV F rfl hN (v := .pointer (some ⟨w.heap.size, 0, none⟩)) (w' := w.alloc (.cells z.cells t)) (by simp [execOp, Instr.alloc, hz, newVar, newRow, go_sem]) (fun a' F' => K _ _ _ F' (H.alloc _ _))
theorem cRegDO {id : Nat} (hm : P.follows .mixedOrders = true) (_H : Own w0 row w rs) (h : wpD P l Q (fun w => Own w0 row w rs) 0 l a w.drew) : (Code.region id l.toArray true).wp P Q a w := cRegD hm _ h
theorem dPartO {j : Nat} {rest : List Oper} (hdrop : l.drop (j + 1) = rest) (hk : Nat.ble (j + 1) l.length = true) (hb : barr l j = true) (_H : Own w0 row w rs) (h : wpD P l Q (fun w => Own w0 row w rs) (j + 1) rest a w) :
    Kd P l Q S j rest a w := dPart hdrop hk hb h
theorem dOnO {j : Nat} {rest : List Oper} (hdrop : l.drop (j + 1) = rest) (hk : Nat.ble (j + 1) l.length = true) (_H : Own w0 row w rs) (hS : S w) (hSS : ∀ w, Own w0 row w rs → S w) (h : wpD P l Q (fun w => Own w0 row w rs) (j + 1) rest a w) :
    Kd P l Q S j rest a w := dOn hdrop hk hS hSS h
/-! ### Where the ways of a test meet again -/
/-- e is the part of env at the slots ks, written out. -/
inductive SubR (env : List (Nat × Value)) : List Nat → List (Nat × Value) → Prop where
  | nil : SubR env [] []
  | cons {k : Nat} {v : Value} {ks : List Nat} {e : List (Nat × Value)} (h : lk env k = some v) (r : SubR env ks e) : SubR env (k :: ks) ((k, v) :: e)
theorem SubR.le {ks : List Nat} {e : List (Nat × Value)} (h : SubR env ks e) : Le e env := by
  induction h with
  | nil => exact trivial
  | cons h _ ih => exact ⟨h, ih⟩
theorem cSeqJ {x y : Code} (ks : List Nat) (I : List (Nat × Value) → World → Prop) (_F : Has N a env) {e : List (Nat × Value)} (_hs : SubR env ks e)
    (h1 : x.wp P (Exit.then (fun a' w' => ∃ ups, I ups w' ∧ Has N a' (ups ++ e)) Q) a w) (h2 : ∀ ups a w, I ups w → Has N a (ups ++ e) → y.wp P Q a w) : (Code.seq x y).wp P Q a w :=
  wp_seq (wp_mono h1 (fun e a' w' h => by
    cases e with
    | normal => obtain ⟨ups, hI, hF⟩ := h; exact h2 ups a' w' hI hF
    | _ => exact h))
/-- A loop: I says what holds at its head, of a number that falls, of the slots that turn, and of the world. -/
theorem cLoopR {c : Code} (ks : List Nat) (I : Nat → List (Nat × Value) → World → Prop) (F : Has N a env) (m0 : Nat) (ups : List (Nat × Value)) {e : List (Nat × Value)} (hs : SubR env ks e) (h0 : I m0 ups w) (hu : Le ups env)
    (round : ∀ m ups a w, I m ups w → Has N a (ups ++ e) → c.wp P (Exit.then (fun a' w' => ∃ m', m' < m ∧ ∃ ups', I m' ups' w' ∧ Has N a' (ups' ++ e)) Q) a w) : (Code.loop c).wp P Q a w := by
  have hle : ∀ l : List (Nat × Value), Le l env → Le (l ++ e) env := fun l hl => by
    induction l with
    | nil => exact hs.le
    | cons p r ih => exact ⟨hl.1, ih hl.2⟩
  have main : ∀ (b : Frame) (k : List Item) (cs : List Frame) m ups a w, I m ups w → Has N a (ups ++ e) → ∃ e a' w', Q e a' w' ∧ Arrives P (lone (b.at a (.code c :: .inLoop c :: k)) cs w) b k cs e a' w' := by
    intro b k cs m
    induction m using Nat.strongRecOn with
    | _ m ih =>
      intro ups a w hI hF
      obtain ⟨x, a1, w1, hq, harr⟩ := round m ups a w hI hF b (.inLoop c :: k) cs
      cases x with
      | normal =>
        obtain ⟨m', hlt, ups', hI', hF'⟩ := hq
        obtain ⟨e2, a2, w2, hq2, harr2⟩ := ih m' hlt ups' a1 w1 hI' hF'
        exact ⟨e2, a2, w2, hq2, .of_steps (Steps.trans harr (.one step_inLoop)) harr2⟩
      | exit id => exact ⟨_, a1, w1, hq, .pass (x := .inLoop c) rfl (fun _ _ => .inl (by simp)) harr⟩
      | goto id => exact ⟨_, a1, w1, hq, .pass (x := .inLoop c) rfl (fun _ _ => .inl (by simp)) harr⟩
      | ret => exact ⟨_, a1, w1, hq, .pass (x := .inLoop c) rfl (fun _ _ => .inl (by simp)) harr⟩
      | panic ch => exact ⟨_, a1, w1, hq, .pass (x := .inLoop c) rfl (fun _ _ => .inl (by simp)) harr⟩
      | outgrown => exact ⟨_, a1, w1, hq, .pass (x := .inLoop c) rfl (fun _ _ => .inl (by simp)) harr⟩
  intro b k cs
  obtain ⟨x, a', w', hq, harr⟩ := main b k cs m0 ups a w h0 (F.to (hle ups hu))
  exact ⟨x, a', w', hq, .of_steps (.one step_loop) harr⟩
/-! ### What a test says -/
theorem notT {b : Bool} (h : (!b) = true) : b = false := by simpa using h
theorem notF {b : Bool} (h : (!b) = false) : b = true := by simpa using h
theorem beqT {α : Type} [BEq α] [LawfulBEq α] {x y : α} (h : (x == y) = true) : x = y := eq_of_beq h
theorem beqF {α : Type} [BEq α] [LawfulBEq α] {x y : α} (h : (x == y) = false) : x ≠ y := ne_of_beq_false h
theorem bneT {α : Type} [BEq α] [LawfulBEq α] {x y : α} (h : (x != y) = true) : x ≠ y := by simpa using h
theorem bneF {α : Type} [BEq α] [LawfulBEq α] {x y : α} (h : (x != y) = false) : x = y := by simpa using h
theorem nbeqT {α : Type} [BEq α] [LawfulBEq α] {x y : α} (h : (!(x == y)) = true) : x ≠ y := by simpa using h
theorem nbeqF {α : Type} [BEq α] [LawfulBEq α] {x y : α} (h : (!(x == y)) = false) : x = y := by simpa using h
end Go.Proofs.YtmfdpnjgljlkbaaDoor

namespace Go.Proofs.YtmfdpnjgljlkbaaDoor
open Go.RowKit

variable {P : Program} {l : List Oper} {Q : Exit → Act → World → Prop} {N : Nat} {a : Act} {env : List (Nat × Value)} {rest : List Oper} {d : Tmp} {ty : TypeId} {pos : String} {af : Array Edge} {g : Option (Nat × Bool)}
  {w0 w : World} {row : Option Nat} {rs : List Res} {Kt : Act → World → Prop}
def evP (env : List (Nat × Value)) : List (Nat × Operand) → Option (List (Nat × Value))
  | [] => some []
  | (i, x) :: r => match ev env x, evP env r with
    | some v, some vs => some ((i, v) :: vs)
    | _, _ => none
theorem Has.parts (F : Has N a env) : ∀ {xs : List (Nat × Operand)} {vs : List (Nat × Value)}, evP env xs = some vs → xs.map (fun (i, x) => (i, a.eval x)) = vs
  | [], vs, h => by simp [evP] at h; subst h; rfl
  | (i, x) :: r, vs, h => by
    unfold evP at h
    split at h
    · rename_i v us hv hr
      cases h
      rw [List.map_cons, F.parts hr]
      simp only [F.eval hv]
    · cases h
/-- Parts laid over cells, each at its place and of its size. -/
def fillL (place : Nat → Option (Nat × Nat)) : List Value → List (Nat × Value) → Option (List Value)
  | cells, [] => some cells
  | cells, (i, v) :: r => match place i with
    | none => none
    | some (off, size) => bif Nat.beq v.cells.toList.length size && Nat.ble (off + v.cells.toList.length) cells.length then fillL place (splice cells off v.cells.toList) r else none
theorem splice_fold (off : Nat) : ∀ (vs : List Value) (k : Nat) (cs : Array Value), (vs.zipIdx k).foldl (fun cs (x : Value × Nat) => cs.setIfInBounds (off + x.2) x.1) cs = (splice cs.toList (off + k) vs).toArray
  | [], k, cs => by simp [splice]
  | v :: r, k, cs => by
    simp only [List.zipIdx_cons, List.foldl_cons, splice]
    rw [splice_fold off r (k + 1)]
    congr 1
    simp [Nat.add_assoc]
theorem splice_length : ∀ (vs : List Value) (cs : List Value) (o : Nat), (splice cs o vs).length = cs.length
  | [], _, _ => rfl
  | v :: r, cs, o => by simp only [splice]; rw [splice_length r]; simp
theorem fill_of_fillL (place : Nat → Option (Nat × Nat)) : ∀ (ps : List (Nat × Value)) (cs cs' : List Value), fillL place cs ps = some cs' → Instr.fill place cs.toArray ps = some cs'.toArray
  | [], cs, cs', h => by simp [fillL] at h; subst h; rfl
  | (i, v) :: r, cs, cs', h => by
    unfold fillL at h
    unfold Instr.fill
    cases hp : place i with
    | none => simp [hp] at h
    | some q =>
      obtain ⟨off, size⟩ := q
      simp only [hp] at h ⊢
      cases hb : (Nat.beq v.cells.toList.length size && Nat.ble (off + v.cells.toList.length) cs.length) with
      | false => rw [hb] at h; cases h
      | true =>
        rw [hb] at h
        obtain ⟨h1, h2⟩ := Bool.and_eq_true_iff.1 hb
        have h1 := Nat.eq_of_beq_eq_true h1
        have h2 := Nat.le_of_ble_eq_true h2
        rw [Array.length_toList] at h1 h2
        rw [if_neg (by simp; omega)]
        have hz : v.cells.zipIdx.foldl (fun cs (x : Value × Nat) => cs.setIfInBounds (off + x.2) x.1) cs.toArray = (splice cs off v.cells.toList).toArray := by
          have := splice_fold off v.cells.toList 0 cs.toArray
          rw [Nat.add_zero] at this
          rw [← this, ← Array.foldl_toList, Array.toList_zipIdx]
        have h3 := fill_of_fillL place r _ cs' h
        rw [← h3]
        congr 1
theorem rBd {t : TypeId} {parts : List (Nat × Operand)} {ps : List (Nat × Value)} {fs : Array Field} {places : List (Nat × Nat)} {zs : Array Value} {cs : List Value} (hz : ∀ w, (zeroValue t).run P w = .ok (.agg zs) w) (hu : P.underlying t = some (.struct fs))
    (hp : fs.toList.mapM (fun f => (P.info? f.type).map fun i => (f.offset, i.size)) = some places) (F : Has N a env) (he : evP env parts = some ps) (hf : fillL (fun i => places[i]?) zs.toList ps = some cs) :
    (execOp a.eval ⟨some d, .build t parts.toArray, ty, pos, af, g⟩).run P w = .ok (.value (.agg cs.toArray)) w := by
  have h1 := fill_of_fillL _ _ _ _ hf
  have h2 : (Instr.build t (parts.toArray.map fun (i, x) => (i, a.eval x))).run P w = .ok (.agg cs.toArray) w := by
    rw [List.map_toArray, F.parts he]
    have h1' : Instr.fill (fun i => places[i]?) zs ps = some cs.toArray := by simpa using h1
    simp [Instr.build, run_underlying hu, hz, Array.mapM_eq_mapM_toList, run_places w _ _ hp, h1', Value.cells, go_sem]
  simp only [execOp, Sem.run_bind, h2]
  rfl
theorem sBd {t : TypeId} {parts : List (Nat × Operand)} {ps : List (Nat × Value)} {fs : Array Field} {places : List (Nat × Nat)} {zs : Array Value} {cs : List Value} (hz : ∀ w, (zeroValue t).run P w = .ok (.agg zs) w) (hu : P.underlying t = some (.struct fs))
    (hp : fs.toList.mapM (fun f => (P.info? f.type).map fun i => (f.offset, i.size)) = some places) (F : Has N a env) (hg : wants l env g = true) (hN : Nat.blt d N = true) (he : evP env parts = some ps) (hf : fillL (fun i => places[i]?) zs.toList ps = some cs)
    (K : ∀ a, Has N a ((d, .agg cs.toArray) :: env) → wpList P l.toArray Q rest a w) : wpList P l.toArray Q (⟨some d, .build t parts.toArray, ty, pos, af, g⟩ :: rest) a w :=
  stepV F hg rfl hN (rBd hz hu hp F he hf) K
/-- n copies. -/
def rep : Nat → List Value → List Value
  | 0, _ => []
  | n + 1, zs => zs ++ rep n zs
theorem rep_length (zs : List Value) : ∀ n, (rep n zs).length = n * zs.length
  | 0 => by simp [rep]
  | n + 1 => by simp [rep, rep_length zs n, Nat.add_mul, Nat.add_comm]
theorem rep_get (zs : List Value) : ∀ (n i : Nat), i < n * zs.length → (rep n zs)[i]? = zs[i % zs.length]?
  | 0, i, h => by simp at h
  | n + 1, i, h => by
    unfold rep
    rcases Nat.lt_or_ge i zs.length with h1 | h1
    · rw [List.getElem?_append_left h1, Nat.mod_eq_of_lt h1]
    · rw [List.getElem?_append_right h1, rep_get zs n (i - zs.length) (by rw [Nat.add_mul, Nat.one_mul] at h; omega)]
      congr 1
      exact (Nat.mod_eq_sub_mod h1).symm
theorem zero_rep (cs : Array Value) (n size : Nat) (h : cs.toList.length = size) : (Array.map (fun x => cs[x % cs.size]!) (Array.range (n * size))) = (rep n cs.toList).toArray := by
  apply Array.ext'
  refine List.ext_getElem? fun i => ?_
  have hsz : cs.size = size := by simpa using h
  simp only [Array.toList_map, Array.toList_range, List.getElem?_map]
  rcases Nat.lt_or_ge i (n * size) with hi | hi
  · rw [rep_get cs.toList n i (by rw [h]; exact hi), List.getElem?_range hi, h, Option.map_some, hsz]
    have hpos : 0 < size := by rcases Nat.eq_zero_or_pos size with h0 | h0; (subst h0; simp at hi); exact h0
    have hlt : i % size < cs.size := by rw [hsz]; exact Nat.mod_lt _ hpos
    rw [Array.getElem?_toList, Array.getElem?_eq_getElem hlt, getElem!_pos cs (i % size) hlt]
  · rw [List.getElem?_eq_none (by simp; exact hi), List.getElem?_eq_none (by rw [rep_length, h]; exact hi)]; rfl
/-- A slice that is written out. -/
theorem rBs {t e : TypeId} {n size : Nat} {parts : List (Nat × Operand)} {ps : List (Nat × Value)} {z : Value} {cs : List Value} (ht : P.underlying t = some (.slice e)) (hs : ∀ w, (sizeOf e).run P w = .ok size w) (hz : ∀ w, (zeroValue e).run P w = .ok z w) (hzs : z.cells.toList.length = size)
    (F : Has N a env) (he : evP env parts = some ps) (hn : Nat.ble (n * size) 16777216 = true) (hf : fillL (fun i => some (i * size, size)) (rep n z.cells.toList) ps = some cs) :
    (execOp a.eval ⟨some d, .buildSlice t n parts.toArray, ty, pos, af, g⟩).run P w = .ok (.value (.slice (some ⟨w.heap.size, 0, none⟩) n n)) (w.alloc (.cells cs.toArray e)) := by
  have h1 := fill_of_fillL _ _ _ _ hf
  have hn' := Nat.le_of_ble_eq_true hn
  have h2 : (Instr.buildSlice t n (parts.toArray.map fun (i, x) => (i, a.eval x))).run P w = .ok (.slice (some ⟨w.heap.size, 0, none⟩) n n) (w.alloc (.cells cs.toArray e)) := by
    rw [List.map_toArray, F.parts he]
    generalize hzc : z.cells = zc at *
    by_cases h0 : n * size = 0
    · have e0 : rep n zc.toList = [] := List.eq_nil_of_length_eq_zero (by rw [rep_length, hzs]; exact h0)
      rw [e0] at h1
      unfold Instr.buildSlice
      simp only [Sem.run_bind, run_underlying ht, hs, Result.andThen_ok]
      rw [if_neg (by omega)]
      simp only [h0, if_true]
      simp [h1, newRow, go_sem]
    · unfold Instr.buildSlice
      simp only [Sem.run_bind, run_underlying ht, hs, Result.andThen_ok]
      rw [if_neg (by omega)]
      simp only [h0, if_false, Sem.run_bind, hz, Result.andThen_ok, Sem.run_pure, hzc]
      rw [zero_rep zc n size hzs, h1]
      simp [newRow, go_sem]
  simp only [execOp, Sem.run_bind, h2]
  rfl
theorem sBs {t e : TypeId} {n size : Nat} {parts : List (Nat × Operand)} {ps : List (Nat × Value)} {z : Value} {cs : List Value} (H : Own w0 row w rs) (ht : P.underlying t = some (.slice e)) (hs : ∀ w, (sizeOf e).run P w = .ok size w) (hz : ∀ w, (zeroValue e).run P w = .ok z w) (hzs : z.cells.toList.length = size)
    (F : Has N a env) (hg : wants l env g = true) (hN : Nat.blt d N = true) (he : evP env parts = some ps) (hn : Nat.ble (n * size) 16777216 = true) (hf : fillL (fun i => some (i * size, size)) (rep n z.cells.toList) ps = some cs)
    (K : ∀ b a w, Has N a ((d, .slice (some ⟨b, 0, none⟩) n n) :: env) → Own w0 row w (.blk b cs e :: rs) → wpList P l.toArray Q rest a w) : wpList P l.toArray Q (⟨some d, .buildSlice t n parts.toArray, ty, pos, af, g⟩ :: rest) a w :=
  stepV F hg rfl hN (rBs ht hs hz hzs F he hn hf) (fun _ F' => K _ _ _ F' (H.alloc _ _))
theorem oBs {t e : TypeId} {n size : Nat} {parts : List (Nat × Operand)} {ps : List (Nat × Value)} {z : Value} {cs : List Value} (H : Own w0 row w rs) (ht : P.underlying t = some (.slice e)) (hs : ∀ w, (sizeOf e).run P w = .ok size w) (hz : ∀ w, (zeroValue e).run P w = .ok z w) (hzs : z.cells.toList.length = size)
    (F : Has N a env) (hN : Nat.blt d N = true) (he : evP env parts = some ps) (hn : Nat.ble (n * size) 16777216 = true) (hf : fillL (fun i => some (i * size, size)) (rep n z.cells.toList) ps = some cs)
    (K : ∀ b a w, Has N a ((d, .slice (some ⟨b, 0, none⟩) n n) :: env) → Own w0 row w (.blk b cs e :: rs) → Kt a w) : (Oper.mk (some d) (.buildSlice t n parts.toArray) ty pos af g).wp P a w Kt Q :=
  oV F rfl hN (rBs ht hs hz hzs F he hn hf) (fun _ F' => K _ _ _ F' (H.alloc _ _))
theorem one_bif {c : Bool} {u v : Value} (hu : u.oneCell' = true) (hv : v.oneCell' = true) : (bif c then u else v).oneCell' = true := by cases c <;> assumption
theorem one_nil : (([] : List Value).all (·.oneCell')) = true := rfl
theorem one_cons {v : Value} {r : List Value} (h : v.oneCell' = true) (hr : (r.all (·.oneCell')) = true) : ((v :: r).all (·.oneCell')) = true := by simp only [List.all_cons, h, hr, Bool.and_self]
/-- A struct as the one result. -/
theorem results_own {fn : Func} {t : Tmp} {st : TypeId} {b : Nat} {cs : List Value} {bt : TypeId} {dd : TypeDesc} (hres : fn.results = #[.cell t st]) (F : Has N a env) (hv : lk env t = some (.pointer (some ⟨b, 0, none⟩)))
    (hu : P.underlying st = some dd) (hdd : dd.isRow = true) (hi : (P.info? st).map (·.size) = some cs.length) (hb : Blk w b cs bt) : (results fn a.tmps).run P w = .ok (.agg cs.toArray) w := by
  exact results_cell_row hres a.tmps w b bt cs.toArray (0, 0) dd (F.get t _ hv) hb hu (by cases dd <;> first | rfl | exact hdd) (by simpa using hi)
/-- A struct and a plain value as the results. -/
theorem results_own_tmp {fn : Func} {t u : Tmp} {st : TypeId} {b : Nat} {cs : List Value} {bt : TypeId} {dd : TypeDesc} {y : Value} (hres : fn.results = #[.cell t st, .tmp u]) (F : Has N a env) (hv : lk env t = some (.pointer (some ⟨b, 0, none⟩))) (hy : lk env u = some y)
    (hu : P.underlying st = some dd) (hdd : dd.isRow = true) (hi : (P.info? st).map (·.size) = some cs.length) (hb : Blk w b cs bt) : (results fn a.tmps).run P w = .ok (.tuple #[.agg cs.toArray, y]) w := by
  have hr : w.rangeAt b 0 cs := fun j v hj => by rw [Nat.zero_add]; exact hb.cell j hj
  rw [results_cell_tmp hres, F.get t _ hv, F.get u _ hy]
  have h1 := run_loadVar_mid (P := P) w b 0 st cs dd hr hu hdd hi
  have h2 : (asAddr (.pointer (some ⟨b, 0, none⟩))).run P w = .ok ⟨b, 0, none⟩ w := rfl
  rw [h2]
  simp only [Result.andThen_ok, h1]
end Go.Proofs.YtmfdpnjgljlkbaaDoor

namespace Go.Proofs.YtmfdpnjgljlkbaaDoor
open Go.RowKit

variable {P : Program} {l : List Oper} {Q : Exit → Act → World → Prop} {N : Nat} {a : Act} {env : List (Nat × Value)} {rest : List Oper} {d : Tmp} {ty : TypeId} {pos : String} {af : Array Edge} {g : Option (Nat × Bool)}
  {w0 w : World} {row : Option Nat} {rs : List Res} {Kt : Act → World → Prop}
theorem elem_of {t e : TypeId} (ht : P.underlying t = some (.slice e)) : P.underlying t = some (.slice (P.elem t)) := by rw [ht]; simp [Program.elem, ht]
theorem info_of {e : TypeId} {ti : TypeInfo} (h : ∀ w, (typeInfo e).run P w = .ok ti w) : P.info? e = some ti := by
  have := h default
  unfold typeInfo at this
  cases hi : P.info? e with
  | none => simp [hi, go_sem] at this
  | some i => simp [hi, go_sem] at this; simp [this]
/-- x[:h] -/
theorem rSlH {t e : TypeId} {x hi : Operand} {A : Option Addr} {n c j : Nat} {k : IntKind} (ht : P.underlying t = some (.slice e)) (hz : ∀ w, ∃ sz, (sizeOf e).run P w = .ok sz w) (F : Has N a env) (hx : ev env x = some (.slice A n c)) (hh : ev env hi = some (.int k (j : Int))) (hj : j ≤ c) :
    (execOp a.eval ⟨some d, .slice t x none (some hi) none, ty, pos, af, g⟩).run P w = .ok (.value (.slice A j c)) w := by
  obtain ⟨sz, hz⟩ := hz w
  have he : P.elem t = e := by simp [Program.elem, ht]
  have h1 := run_slice_h (P := P) w t A n c (elem_of ht) k (j : Int) (by omega) (by omega)
  rw [he, hz] at h1
  have h2 : (if c = 0 then A else Option.map (fun x => x.add (0 * sz)) A) = A := by
    split
    · rfl
    · cases A with
      | none => rfl
      | some p => simp [Addr.add]
  have h3 : (Instr.slice t (.slice A n c) none (some (.int k (j : Int))) none).run P w = .ok (.slice A j c) w := by
    rw [h1]
    simp only [Result.andThen_ok, sliced, h2, Int.toNat_natCast, Nat.sub_zero]
  simp only [execOp, Option.map_some, Option.map_none, F.eval hx, F.eval hh, Sem.run_bind, run_sliceAt_slice w t _ none _ none (elem_of ht), h3]
  rfl
theorem sSlH {t e : TypeId} {x hi : Operand} {A : Option Addr} {n c j : Nat} {k : IntKind} (ht : P.underlying t = some (.slice e)) (hz : ∀ w, ∃ sz, (sizeOf e).run P w = .ok sz w) (F : Has N a env) (hg : wants l env g = true) (hN : Nat.blt d N = true) (hx : ev env x = some (.slice A n c)) (hh : ev env hi = some (.int k (j : Int))) (hj : j ≤ c)
    (K : ∀ a, Has N a ((d, .slice A j c) :: env) → wpList P l.toArray Q rest a w) : wpList P l.toArray Q (⟨some d, .slice t x none (some hi) none, ty, pos, af, g⟩ :: rest) a w :=
  stepV F hg rfl hN (rSlH ht hz F hx hh hj) K
/-- x[i:h], i below the capacity. -/
theorem rSlLH {t e : TypeId} {x lo hi : Operand} {b o n c i j sz : Nat} {k k' : IntKind} (ht : P.underlying t = some (.slice e)) (hz : ∀ w, (sizeOf e).run P w = .ok sz w) (F : Has N a env) (hx : ev env x = some (.slice (some ⟨b, o, none⟩) n c)) (hl : ev env lo = some (.int k' (i : Int))) (hh : ev env hi = some (.int k (j : Int))) (hij : i ≤ j) (hj : j ≤ c) (hic : i < c) :
    (execOp a.eval ⟨some d, .slice t x (some lo) (some hi) none, ty, pos, af, g⟩).run P w = .ok (.value (.slice (some ⟨b, o + i * sz, none⟩) (j - i) (c - i))) w := by
  have he : P.elem t = e := by simp [Program.elem, ht]
  have h1 := run_slice_lh (P := P) w t (some ⟨b, o, none⟩) n c (elem_of ht) k' k (i : Int) (j : Int) (by omega) (by omega) (by omega)
  rw [he, hz] at h1
  have h3 : (Instr.slice t (.slice (some ⟨b, o, none⟩) n c) (some (.int k' (i : Int))) (some (.int k (j : Int))) none).run P w = .ok (.slice (some ⟨b, o + i * sz, none⟩) (j - i) (c - i)) w := by
    rw [h1]
    simp only [Result.andThen_ok, sliced, Int.toNat_natCast]
    rw [if_neg (by omega)]
    simp [Addr.add_mid]
  simp only [execOp, Option.map_some, Option.map_none, F.eval hx, F.eval hl, F.eval hh, Sem.run_bind, run_sliceAt_slice w t _ _ _ none (elem_of ht), h3]
  rfl
theorem sSlLH {t e : TypeId} {x lo hi : Operand} {b o n c i j sz : Nat} {k k' : IntKind} (ht : P.underlying t = some (.slice e)) (hz : ∀ w, (sizeOf e).run P w = .ok sz w) (F : Has N a env) (hg : wants l env g = true) (hN : Nat.blt d N = true) (hx : ev env x = some (.slice (some ⟨b, o, none⟩) n c)) (hl : ev env lo = some (.int k' (i : Int))) (hh : ev env hi = some (.int k (j : Int))) (hij : i ≤ j) (hj : j ≤ c) (hic : i < c)
    (K : ∀ a, Has N a ((d, .slice (some ⟨b, o + i * sz, none⟩) (j - i) (c - i)) :: env) → wpList P l.toArray Q rest a w) : wpList P l.toArray Q (⟨some d, .slice t x (some lo) (some hi) none, ty, pos, af, g⟩ :: rest) a w :=
  stepV F hg rfl hN (rSlLH ht hz F hx hl hh hij hj hic) K
/-- A slice of the function's own, n elements of sz cells each: xs. -/
def Res.arr (e : TypeId) (sz : Nat) (v : Value) (n : Nat) (xs : List Value) : Res where
  foot := fun b => v.ownBlock = some b
  pred := fun w => w.ownsRow 0 e sz v n xs
  loc := fun w w' h hp => by
    refine ⟨hp.1, ?_⟩
    rcases hp.2 with h1 | ⟨g, cap, cur, h1, h2, h3, h4⟩
    · exact .inl h1
    · exact .inr ⟨g, cap, cur, h1, h2, (h g (by rw [h1]; rfl)).trans h3, h4⟩
theorem Own.nilArr (H : Own w0 row w rs) (e : TypeId) (sz : Nat) : Own w0 row w (.arr e sz (.slice none 0 0) 0 [] :: rs) :=
  H.add _ (Below.refl _ _) (World.ownsRow_nil _ _ _ _) (fun b hb => by simp [Res.arr, Value.ownBlock] at hb)
theorem Own.arr (H : Own w0 row w rs) (i : Nat) {e : TypeId} {sz n : Nat} {v : Value} {xs : List Value} (hi : rs[i]? = some (.arr e sz v n xs)) : w.ownsRow 0 e sz v n xs := H.pred i _ hi
/-- The rows of a slice of the function's own. -/
theorem RowsAt.ofArr {e : TypeId} {sz n c : Nat} {A : Option Addr} {rows : List (List Value)} (h : w.ownsRow 0 e sz (.slice A n c) n rows.flatten) (hr : ∀ r ∈ rows, r.length = sz) (hsz : 0 < sz) : RowsAt w A sz rows := by
  intro j cs hj
  have hjl : j < rows.length := (List.getElem?_eq_some_iff.1 hj).1
  have hfl : ∀ (rows : List (List Value)), (∀ r ∈ rows, r.length = sz) → ∀ j cs, rows[j]? = some cs → ∀ k v, cs[k]? = some v → rows.flatten[j * sz + k]? = some v := by
    intro rows hr
    induction rows with
    | nil => intro j cs hj; simp at hj
    | cons r0 rest ih =>
      intro j cs hj k v hk
      have h0 : r0.length = sz := hr r0 (by simp)
      cases j with
      | zero =>
        simp at hj; subst hj
        have : k < r0.length := (List.getElem?_eq_some_iff.1 hk).1
        rw [List.flatten_cons, List.getElem?_append_left (by omega)]; simpa using hk
      | succ j =>
        have hcl : cs.length = sz := hr cs (by have := List.mem_of_getElem? hj; exact this)
        rw [List.flatten_cons, List.getElem?_append_right (by rw [h0, Nat.add_mul]; omega), h0]
        have e1 : (j + 1) * sz + k - sz = j * sz + k := by rw [Nat.add_mul]; omega
        rw [e1]
        exact ih (fun r hm => hr r (by simp [hm])) j cs (by simpa using hj) k v hk
  have hlen : ∀ (rows : List (List Value)), (∀ r ∈ rows, r.length = sz) → rows.flatten.length = rows.length * sz := by
    intro rows hr
    induction rows with
    | nil => simp
    | cons r0 rest ih => rw [List.flatten_cons, List.length_append, ih (fun r hm => hr r (by simp [hm])), hr r0 (by simp), List.length_cons, Nat.add_mul]; omega
  obtain ⟨hx, h1 | ⟨g, cap, cur, h1, _, h2, h3, h4, h5, h6⟩⟩ := h
  · obtain ⟨_, h1⟩ := h1
    subst h1
    rw [Nat.zero_mul, hlen rows hr] at hx
    have := Nat.mul_pos (by omega : 0 < rows.length) hsz
    omega
  · simp only [Value.slice.injEq] at h1
    obtain ⟨rfl, _, rfl⟩ := h1
    refine ⟨g, 0, rfl, fun k v hk => ?_⟩
    have h7 := hfl rows hr j cs hj k v hk
    rw [← h6] at h7
    rw [List.getElem?_take] at h7
    split at h7
    · simp [World.cell?, h2]
      simpa using h7
    · cases h7
end Go.Proofs.YtmfdpnjgljlkbaaDoor
