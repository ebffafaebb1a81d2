/-
  Plain Lean: conditions in parentheses, joined. Nothing of the program. Conditions: none.
-/
import Derived.Test.YtbdjlmdejlklkaaPrJ
set_option linter.unusedSimpArgs false
set_option linter.unusedVariables false
namespace Go.Proofs.Ytbdjlmdejlklkaa

theorem is_kind {c : PX} {i : Nat} {s : List UInt8} (h : c.is i s = true) : c.kind i = 3 ∧ (c.text i).toList = s := by
  unfold PX.is at h
  rw [Bool.and_eq_true, beq_iff_eq, beq_iff_eq] at h
  exact h
theorem is_else {c : PX} {i : Nat} {s r : List UInt8} (h : c.is i s = true) (hne : s ≠ r) : c.is i r = false := by
  unfold PX.is
  rw [(is_kind h).2, Bool.and_eq_false_iff, beq_eq_false_iff_ne]
  exact .inr (beq_eq_false_iff_ne.2 hne)
theorem is_end {c : PX} {i : Nat} {r : List UInt8} (h : c.kind i = 4) : c.is i r = false := by
  unfold PX.is
  rw [h]; rfl
theorem kw_sign {c : PX} {i : Nat} {s : List UInt8} (h : c.is i s = true) (x : UInt8) (r : List UInt8) : c.kw i (x :: r) = false := by
  unfold PX.kw PX.word
  rw [(is_kind h).1, if_neg (by decide)]
  simp
/-- A condition alone. -/
structure CondIs (c : PX) (ns : List ByteArray) (x : Cnd) (k : Nat) : Prop where
  len : c.ts.length = k + 1
  last : c.kind k = 4
  disj : disjP c (c.ts.length + 1) ⟨0, ns⟩ = .ok x ⟨k, ns⟩
  deep : depC x ≤ 20
theorem condIs {c : PX} {ns : List ByteArray} {x : Cnd} {u : PS} (hf : c.fixed = true) (h : condP c ⟨0, ns⟩ = .ok x u) : ∃ k, CondIs c ns x k := by
  unfold condP at h
  obtain ⟨x', t, h1, h2⟩ := Rs.bind_ok h
  obtain ⟨_, v, h3, h4⟩ := Rs.bind_ok h2
  have hv := endP_all () v h3
  have hk : c.kind t.pos = 4 := by
    unfold endP failP at h3
    split at h3
    · assumption
    · cases h3
  split at h4
  · cases h4
  next hlen =>
    split at h4
    · cases h4
    next hd =>
      cases h4
      have e1 : u.pos = t.pos + 1 := by rw [hv.2]; rfl
      have := hv.1.le
      refine ⟨t.pos, by omega, hk, ?_, by omega⟩
      rw [h1]
      have hn := (disjP_all _ _ _ _ h1).keep hf
      congr
      cases t
      exact congrArg _ hn
/-- The tokens of c but the last stand in d from place j on, a sign behind them. -/
structure Stands (c d : PX) (k j : Nat) : Prop where
  open_ : d.is j [40] = true
  kind : ∀ a, a < k → d.kind (j + 1 + a) = c.kind (0 + a)
  text : ∀ a, a < k → d.text (j + 1 + a) = c.text (0 + a)
  close : d.is (j + 1 + k) [41] = true
  fixed : d.fixed = c.fixed
  len : c.ts.length ≤ d.ts.length
theorem fact_paren {c d : PX} {ns : List ByteArray} {x : Cnd} {k j : Nat} (hc : CondIs c ns x k) (h : Stands c d k j) {m : Nat} (hm : c.ts.length + 1 ≤ m) : factP d (m + 1) ⟨j, ns⟩ = .ok x ⟨j + 1 + k + 1, ns⟩ := by
  have hN : Nigh c d 0 (j + 1) k := ⟨h.kind, h.text, is_else h.close (by decide), is_else h.close (by decide), Nat.le_of_lt (is_lt h.close), h.fixed⟩
  obtain ⟨t', h1, h2⟩ := (disj_lc hN h.len hm).2 ⟨0, ns⟩ ⟨j + 1, ns⟩ ⟨by show j + 1 + 0 = 0 + (j + 1); omega, Nat.le_refl _, Nat.zero_le _, rfl⟩ x ⟨k, ns⟩ hc.disj (by show k ≤ 0 + k; omega)
  unfold factP
  have e1 : d.is (PS.mk j ns).pos [33] = false := is_else h.open_ (by decide)
  have e2 : d.is (PS.mk j ns).pos [40] = true := h.open_
  rw [e1, e2]
  have hp : t'.pos = j + 1 + k := by have : t'.pos + 0 = k + (j + 1) := h2.pos; omega
  have hn : t'.names = ns := h2.names
  have e3 : (sevP d 4 [124] (sevP d 3 [38] (factP d m)) (PS.mk j ns).next) = .ok x t' := h1
  show ((sevP d 4 [124] (sevP d 3 [38] (factP d m)) (PS.mk j ns).next).bind fun k t => (signP d [41] t).bind fun _ u => .ok k u) = _
  rw [e3]
  show ((signP d [41] t').bind fun _ u => Rs.ok x u) = _
  unfold signP
  rw [hp, h.close]
  show Rs.ok x t'.next = _
  unfold PS.next
  rw [hp, hn]
/-- Two conditions in parentheses with a sign between them. -/
structure Both (a b d : PX) (k m : Nat) (op : List UInt8) : Prop where
  a : Stands a d k 0
  sign : d.is (k + 2) op = true
  b : Stands b d m (k + 3)
  last : d.kind (k + m + 5) = 4
  len : d.ts.length = k + m + 6
section
variable {a b d : PX} {ns : List ByteArray} {x y : Cnd} {k m : Nat}
theorem both_facts {op : List UInt8} (ha : CondIs a ns x k) (hb : CondIs b ns y m) (h : Both a b d k m op) :
    factP d (d.ts.length + 1) ⟨0, ns⟩ = .ok x ⟨k + 2, ns⟩ ∧ factP d (d.ts.length + 1) ⟨k + 3, ns⟩ = .ok y ⟨k + m + 5, ns⟩ := by
  have e1 := fact_paren ha h.a (m := d.ts.length) (by have := ha.len; have := h.len; omega)
  have e2 := fact_paren hb h.b (m := d.ts.length) (by have := hb.len; have := h.len; omega)
  rw [show 0 + 1 + k + 1 = k + 2 by omega] at e1
  rw [show k + 3 + 1 + m + 1 = k + m + 5 by omega] at e2
  exact ⟨e1, e2⟩
theorem both_disj (ha : CondIs a ns x k) (hb : CondIs b ns y m) (h : Both a b d k m [38]) : disjP d (d.ts.length + 1) ⟨0, ns⟩ = .ok (.mk 3 0 0 0 [x, y]) ⟨k + m + 5, ns⟩ := by
  obtain ⟨e1, e2⟩ := both_facts ha hb h
  have hc : conjP d (d.ts.length + 1) ⟨0, ns⟩ = .ok (.mk 3 0 0 0 [x, y]) ⟨k + m + 5, ns⟩ := by
    unfold conjP sevP
    rw [e1]
    show (if d.is (k + 2) [38] = true then _ else _) = _
    rw [h.sign]
    obtain ⟨f, hf⟩ : ∃ f, d.ts.length = f + 2 := ⟨d.ts.length - 2, by have := h.len; omega⟩
    show ((sevL d (factP d (d.ts.length + 1)) [38] d.ts.length [x] ⟨k + 2, ns⟩).bind fun ks u => Rs.ok (Cnd.mk 3 0 0 0 ks) u) = _
    have e3 : sevL d (factP d (d.ts.length + 1)) [38] d.ts.length [x] ⟨k + 2, ns⟩ = .ok [x, y] ⟨k + m + 5, ns⟩ := by
      generalize factP d (d.ts.length + 1) = P at e2 ⊢
      rw [hf]
      unfold sevL
      show (if d.is (k + 2) [38] = true then _ else _) = _
      rw [h.sign]
      show ((P ⟨k + 3, ns⟩).bind fun k t => sevL d P [38] (f + 1) ([x] ++ [k]) t) = _
      rw [e2]
      show sevL d P [38] (f + 1) [x, y] ⟨k + m + 5, ns⟩ = _
      unfold sevL
      show (if d.is (k + m + 5) [38] = true then _ else _) = _
      rw [is_end h.last]
      rfl
    rw [e3]
    rfl
  unfold disjP sevP
  rw [hc]
  show (if d.is (k + m + 5) [124] = true then _ else _) = _
  rw [is_end h.last]
  rfl
theorem either_disj (ha : CondIs a ns x k) (hb : CondIs b ns y m) (h : Both a b d k m [124]) : disjP d (d.ts.length + 1) ⟨0, ns⟩ = .ok (.mk 4 0 0 0 [x, y]) ⟨k + m + 5, ns⟩ := by
  obtain ⟨e1, e2⟩ := both_facts ha hb h
  have hc1 : conjP d (d.ts.length + 1) ⟨0, ns⟩ = .ok x ⟨k + 2, ns⟩ := by
    unfold conjP sevP
    rw [e1]
    show (if d.is (k + 2) [38] = true then _ else _) = _
    rw [is_else h.sign (by decide)]
    rfl
  have hc2 : conjP d (d.ts.length + 1) ⟨k + 3, ns⟩ = .ok y ⟨k + m + 5, ns⟩ := by
    unfold conjP sevP
    rw [e2]
    show (if d.is (k + m + 5) [38] = true then _ else _) = _
    rw [is_end h.last]
    rfl
  unfold disjP sevP
  rw [hc1]
  show (if d.is (k + 2) [124] = true then _ else _) = _
  rw [h.sign]
  obtain ⟨f, hf⟩ : ∃ f, d.ts.length = f + 2 := ⟨d.ts.length - 2, by have := h.len; omega⟩
  show ((sevL d (conjP d (d.ts.length + 1)) [124] d.ts.length [x] ⟨k + 2, ns⟩).bind fun ks u => Rs.ok (Cnd.mk 4 0 0 0 ks) u) = _
  have e3 : sevL d (conjP d (d.ts.length + 1)) [124] d.ts.length [x] ⟨k + 2, ns⟩ = .ok [x, y] ⟨k + m + 5, ns⟩ := by
    generalize conjP d (d.ts.length + 1) = P at hc2 ⊢
    rw [hf]
    unfold sevL
    show (if d.is (k + 2) [124] = true then _ else _) = _
    rw [h.sign]
    show ((P ⟨k + 3, ns⟩).bind fun k t => sevL d P [124] (f + 1) ([x] ++ [k]) t) = _
    rw [hc2]
    show sevL d P [124] (f + 1) [x, y] ⟨k + m + 5, ns⟩ = _
    unfold sevL
    show (if d.is (k + m + 5) [124] = true then _ else _) = _
    rw [is_end h.last]
    rfl
  rw [e3]
  rfl
/-- Behind a condition the source ends. -/
theorem cond_done {z : Cnd} {p : Nat} (h : disjP d (d.ts.length + 1) ⟨0, ns⟩ = .ok z ⟨p, ns⟩) (hk : d.kind p = 4) (hl : d.ts.length = p + 1) : condP d ⟨0, ns⟩ = if 20 < depC z then .no (d.place 0) 5 else .ok z ⟨p + 1, ns⟩ := by
  unfold condP
  rw [h]
  show ((endP d ⟨p, ns⟩).bind fun _ u => if u.pos < d.ts.length then failP d u 50 else if 20 < depC z then .no (d.place 0) 5 else .ok z u) = _
  unfold endP
  show ((if d.kind p = 4 then Rs.ok () (PS.mk p ns).next else _).bind _) = _
  rw [if_pos hk]
  show (if p + 1 < d.ts.length then _ else _) = _
  rw [if_neg (by omega)]
  rfl
theorem both_cond (ha : CondIs a ns x k) (hb : CondIs b ns y m) (h : Both a b d k m [38]) : condP d ⟨0, ns⟩ = if 20 < depC (.mk 3 0 0 0 [x, y]) then .no (d.place 0) 5 else .ok (.mk 3 0 0 0 [x, y]) ⟨k + m + 6, ns⟩ := cond_done (both_disj ha hb h) h.last h.len
theorem either_cond (ha : CondIs a ns x k) (hb : CondIs b ns y m) (h : Both a b d k m [124]) : condP d ⟨0, ns⟩ = if 20 < depC (.mk 4 0 0 0 [x, y]) then .no (d.place 0) 5 else .ok (.mk 4 0 0 0 [x, y]) ⟨k + m + 6, ns⟩ := cond_done (either_disj ha hb h) h.last h.len
/-- A condition in parentheses behind a negation. -/
structure Denied (a d : PX) (k : Nat) : Prop where
  sign : d.is 0 [33] = true
  a : Stands a d k 1
  last : d.kind (k + 3) = 4
  len : d.ts.length = k + 4
theorem not_cond (ha : CondIs a ns x k) (h : Denied a d k) : condP d ⟨0, ns⟩ = if 20 < depC (.mk 5 0 0 0 [x]) then .no (d.place 0) 5 else .ok (.mk 5 0 0 0 [x]) ⟨k + 4, ns⟩ := by
  refine cond_done (p := k + 3) ?_ h.last h.len
  obtain ⟨f, hf⟩ : ∃ f, d.ts.length + 1 = f + 2 := ⟨d.ts.length - 1, by have := h.len; omega⟩
  have e1 := fact_paren ha h.a (m := f) (by have := ha.len; have := h.len; omega)
  rw [show 1 + 1 + k + 1 = k + 3 by omega] at e1
  have e2 : factP d (f + 2) ⟨0, ns⟩ = .ok (.mk 5 0 0 0 [x]) ⟨k + 3, ns⟩ := by
    unfold factP
    show (if d.is 0 [33] = true then _ else _) = _
    rw [h.sign]
    show ((factP d (f + 1) ⟨1, ns⟩).bind fun k t => Rs.ok (Cnd.mk 5 0 0 0 [k]) t) = _
    rw [e1]
    rfl
  have hc : conjP d (f + 2) ⟨0, ns⟩ = .ok (.mk 5 0 0 0 [x]) ⟨k + 3, ns⟩ := by
    unfold conjP sevP
    rw [e2]
    show (if d.is (k + 3) [38] = true then _ else _) = _
    rw [is_end h.last]
    rfl
  rw [hf]
  unfold disjP sevP
  rw [hc]
  show (if d.is (k + 3) [124] = true then _ else _) = _
  rw [is_end h.last]
  rfl
end
end Go.Proofs.Ytbdjlmdejlklkaa
