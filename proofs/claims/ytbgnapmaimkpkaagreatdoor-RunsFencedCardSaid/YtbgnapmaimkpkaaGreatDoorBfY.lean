/-
  Plain Lean: store buffers as lists, location by location. Conditions: none.
-/
import Derived.Test.YtbgnapmaimkpkaaGreatDoorBfT1
import Derived.Test.YtbgnapmaimkpkaaGreatDoorBfM
set_option linter.unusedSimpArgs false
set_option linter.unusedVariables false
namespace Go.Proofs.YtbgnapmaimkpkaaGreatDoor

def bufL (s : By) (t : Nat) : List (UInt8 × UInt8) := (List.range (manyB s t)).map fun i => (bLoc s t i, bVal s t i)
def perL (l : List (UInt8 × UInt8)) (k : UInt8) : List (UInt8 × UInt8) := l.filter fun x => x.1 == k
theorem buf_len (s : By) (t : Nat) : (bufL s t).length = manyB s t := by simp [bufL]
theorem buf_get (s : By) (t i : Nat) : (bufL s t)[i]? = if i < manyB s t then some (bLoc s t i, bVal s t i) else none := by
  unfold bufL
  rw [List.getElem?_map]
  by_cases h : i < manyB s t
  · rw [if_pos h, List.getElem?_range h]; rfl
  · rw [if_neg h, List.getElem?_eq_none (by simpa using h)]; rfl
theorem buf_same {s z : By} {t : Nat} (hm : manyB z t = manyB s t) (h12 : manyB s t ≤ 12) (hb : ∀ i, i < 12 → bLoc z t i = bLoc s t i ∧ bVal z t i = bVal s t i) : bufL z t = bufL s t := by
  apply List.ext_getElem?
  intro i
  rw [buf_get, buf_get, hm]
  by_cases h : i < manyB s t
  · rw [if_pos h, if_pos h, (hb i (by omega)).1, (hb i (by omega)).2]
  · rw [if_neg h, if_neg h]
theorem perL_append (a b : List (UInt8 × UInt8)) (k : UInt8) : perL (a ++ b) k = perL a k ++ perL b k := List.filter_append ..
theorem perL_one (x : UInt8 × UInt8) (k : UInt8) : perL [x] k = if x.1 = k then [x] else [] := by
  unfold perL
  by_cases h : x.1 = k
  · rw [if_pos h, List.filter_cons_of_pos (by simpa using h)]; rfl
  · rw [if_neg h, List.filter_cons_of_neg (by simpa using h)]; rfl
theorem perL_none {l : List (UInt8 × UInt8)} {k : UInt8} (h : ∀ (i : Nat) (x : UInt8 × UInt8), l[i]? = some x → x.1 ≠ k) : perL l k = [] := by
  unfold perL
  rw [List.filter_eq_nil_iff]
  intro x hx
  obtain ⟨i, hi⟩ := List.mem_iff_getElem?.1 hx
  simpa using h i x hi
theorem buf_add {s st : By} {t a : Nat} (ha : a ≤ manyB s t) (hn : manyB s t ≤ 11) (ht : t < 4) : bufL (addR s t a st) t = (bufL s t).take a ++ (st 0, st 1) :: (bufL s t).drop a := by
  have hlt : ((bufL s t).take a).length = a := by rw [List.length_take, buf_len]; omega
  apply List.ext_getElem?
  intro i
  rw [buf_get, add_many ha hn]
  rcases Nat.lt_trichotomy i a with h | h | h
  · rw [if_pos (by omega), List.getElem?_append_left (by omega), List.getElem?_take_of_lt h, buf_get, if_pos (by omega), add_loc ha hn ht (by omega), add_val ha hn ht (by omega)]
    have f1 : ¬ i = a := by omega
    have f2 : ¬ (a < i ∧ i ≤ manyB s t) := by omega
    rw [if_neg f1, if_neg f1, if_neg f2, if_neg f2]
  · subst h
    rw [if_pos (by omega), List.getElem?_append_right (by omega), hlt, Nat.sub_self, add_loc ha hn ht (by omega), add_val ha hn ht (by omega), if_pos rfl, if_pos rfl]
    rfl
  · rw [List.getElem?_append_right (by omega), hlt, show i - a = (i - a - 1) + 1 by omega, List.getElem?_cons_succ, List.getElem?_drop, buf_get]
    by_cases h2 : i ≤ manyB s t
    · have f1 : ¬ i = a := by omega
      have f2 : a < i ∧ i ≤ manyB s t := ⟨h, h2⟩
      rw [if_pos (by omega), if_pos (by omega), add_loc ha hn ht (by omega), add_val ha hn ht (by omega), if_neg f1, if_neg f1, if_pos f2, if_pos f2, show a + (i - a - 1) = i - 1 by omega]
    · rw [if_neg (by omega), if_neg (by omega)]
theorem buf_drain {s : By} {t a : Nat} (ha : a < manyB s t) (hl : (bLoc s t a).toNat < 6) (hn : manyB s t ≤ 12) (ht : t < 4) : bufL (drainR s t a) t = (bufL s t).take a ++ (bufL s t).drop (a + 1) := by
  have hlt : ((bufL s t).take a).length = a := by rw [List.length_take, buf_len]; omega
  apply List.ext_getElem?
  intro i
  rw [buf_get, drain_many ha hl]
  rcases Nat.lt_or_ge i a with h | h
  · rw [if_pos (by omega), List.getElem?_append_left (by omega), List.getElem?_take_of_lt h, buf_get, if_pos (by omega), drain_loc ha hl hn ht (by omega), drain_val ha hl hn ht (by omega)]
    have f1 : ¬ i + 1 = manyB s t := by omega
    have f2 : ¬ (a ≤ i ∧ i + 1 < manyB s t) := by omega
    rw [if_neg f1, if_neg f1, if_neg f2, if_neg f2]
  · rw [List.getElem?_append_right (by omega), hlt, List.getElem?_drop, buf_get, show a + 1 + (i - a) = i + 1 by omega]
    by_cases h2 : i + 1 < manyB s t
    · have f1 : ¬ i + 1 = manyB s t := by omega
      have f2 : a ≤ i ∧ i + 1 < manyB s t := ⟨h, h2⟩
      rw [if_pos (by omega), if_pos (by omega), drain_loc ha hl hn ht (by omega), drain_val ha hl hn ht (by omega), if_neg f1, if_neg f1, if_pos f2, if_pos f2]
    · rw [if_neg (by omega), if_neg (by omega)]
theorem buf_split {s : By} {t a : Nat} (ha : a < manyB s t) : bufL s t = (bufL s t).take a ++ (bLoc s t a, bVal s t a) :: (bufL s t).drop (a + 1) := by
  have h1 : (bufL s t)[a]? = some (bLoc s t a, bVal s t a) := by rw [buf_get, if_pos ha]
  have hlen : a < (bufL s t).length := by rw [buf_len]; exact ha
  have h2 := List.take_append_drop a (bufL s t)
  rw [List.drop_eq_getElem_cons hlen] at h2
  rw [List.getElem?_eq_getElem hlen] at h1
  have h1 := Option.some.inj h1
  rw [h1] at h2
  exact h2.symm
section
variable {p : Prg} {m : UInt8} {s : By} {t : Nat} {l : List Ins} {x : Ins}
theorem ExecOf.bufKeep (h : ExecOf p m s t l x) {u : Nat} (hu : u < 4) (hc : u ≠ t ∨ ¬ buffers m x) : bufL (execP m x s t) u = bufL s u := by
  have h12 := (h.r.many hu).1
  by_cases hb : buffers m x
  · obtain ⟨h1, h2⟩ := h.far hu (hc.resolve_right fun hh => hh hb)
    exact buf_same h1 h12 h2
  · obtain ⟨h1, h2⟩ := h.still hb u
    exact buf_same h1 h12 (fun i _ => h2 i)
theorem ExecOf.perAdd (h : ExecOf p m s t l x) (hb : buffers m x) (k : UInt8) : perL (bufL (execP m x s t) t) k = perL (bufL s t) k ++ if x.loc = k then [(x.loc, valA x (cut s (t * 9)))] else [] := by
  have hn := h.room
  have ht := h.t4
  have ha := addAt_le (m := m) (s := s) (t := t) (loc := x.loc) (manyB s t)
  obtain ⟨a1, a2, a3⟩ := addAt_spec (m := m) (s := s) (t := t) (loc := x.loc) (manyB s t)
  obtain ⟨h1, h2⟩ := h.adds hb t
  have hmany : manyB (addP m s t (stP x.loc (valA x (cut s (t * 9))))) t = manyB s t + 1 := add_many ha hn
  have e : bufL (execP m x s t) t = bufL (addP m s t (stP x.loc (valA x (cut s (t * 9))))) t := buf_same h1 (by omega) (fun i _ => h2 i)
  rw [e]
  show perL (bufL (addR s t (addAt m s t x.loc (manyB s t)) (stP x.loc (valA x (cut s (t * 9))))) t) k = _
  generalize addAt m s t x.loc (manyB s t) = a at ha a1 a2 a3
  rw [buf_add ha hn ht]
  show perL ((bufL s t).take a ++ ([(x.loc, valA x (cut s (t * 9)))] ++ (bufL s t).drop a)) k = _
  rw [perL_append, perL_append, perL_one]
  conv => rhs; rw [← List.take_append_drop a (bufL s t), perL_append]
  by_cases hk : x.loc = k
  · rw [if_pos hk]
    have hd : perL ((bufL s t).drop a) k = [] := perL_none fun i y hy => by
      rw [List.getElem?_drop, buf_get] at hy
      split at hy
      · rename_i hlt
        cases hy
        intro hk2
        have hk2 : bLoc s t (a + i) = k := hk2
        by_cases h3 : m = 3
        · have := a1 h3 (a + i) (by omega) hlt
          rw [hk2, hk] at this
          omega
        · have := a3 h3
          omega
      · cases hy
    rw [hd]; simp
  · rw [if_neg hk]; simp
end
section
variable {p : Prg} {m : UInt8} {s : By} {t a : Nat}
theorem DrainOf.bufKeep (h : DrainOf p m s t a) {u : Nat} (hu : u < 4) (hne : u ≠ t) : bufL (drainR s t a) u = bufL s u := by
  obtain ⟨h1, h2⟩ := drain_far h.lt h.loc6 h.n12 h.t4 hu hne
  exact buf_same h1 (h.r.many hu).1 h2
theorem DrainOf.bufOwn (h : DrainOf p m s t a) : bufL (drainR s t a) t = (bufL s t).take a ++ (bufL s t).drop (a + 1) := buf_drain h.lt h.loc6 h.n12 h.t4
theorem DrainOf.before (h : DrainOf p m s t a) {k : UInt8} (hk : bLoc s t a = k) : perL ((bufL s t).take a) k = [] := perL_none fun i y hy => by
  rcases Nat.lt_or_ge i a with hi | hi
  · rw [List.getElem?_take_of_lt hi, buf_get] at hy
    split at hy
    · cases hy
      intro hk2
      have hk2 : bLoc s t i = k := hk2
      exact (h.fst i hi).2 (hk2.trans hk.symm)
    · cases hy
  · rw [List.getElem?_eq_none (by rw [List.length_take]; omega)] at hy; cases hy
theorem DrainOf.perHere (h : DrainOf p m s t a) : perL (bufL s t) (bLoc s t a) = (bLoc s t a, bVal s t a) :: perL (bufL (drainR s t a) t) (bLoc s t a) := by
  rw [h.bufOwn]
  conv => lhs; rw [buf_split h.lt]
  rw [perL_append, perL_append, h.before rfl, List.nil_append, List.nil_append]
  show perL ([(bLoc s t a, bVal s t a)] ++ _) _ = _
  rw [perL_append, perL_one, if_pos rfl]
  rfl
theorem DrainOf.perElse (h : DrainOf p m s t a) {k : UInt8} (hk : bLoc s t a ≠ k) : perL (bufL (drainR s t a) t) k = perL (bufL s t) k := by
  rw [h.bufOwn]
  conv => rhs; rw [buf_split h.lt]
  rw [perL_append, perL_append]
  show _ = _ ++ perL ([(bLoc s t a, bVal s t a)] ++ _) _
  rw [perL_append, perL_one, if_neg hk]
  rfl
end
theorem seen_per {p : Prg} {m : UInt8} {s : By} (h : RightM p m s) {t : Nat} (ht : t < 4) (k : UInt8) : seenP s t k = match (perL (bufL s t) k).getLast? with | some x => x.2 | none => s (36 + k.toNat) := by
  rw [seen_eq h ht]
  unfold bufL
  generalize manyB s t = n
  induction n with
  | zero => rfl
  | succ n ih =>
    rw [seenN, List.range_succ, List.map_append, perL_append]
    show _ = match (perL _ k ++ perL [(bLoc s t n, bVal s t n)] k).getLast? with | some x => x.2 | none => s (36 + k.toNat)
    rw [perL_one]
    by_cases hk : bLoc s t n = k
    · rw [if_pos hk, if_pos hk, List.getLast?_append]; rfl
    · rw [if_neg hk, if_neg hk, List.append_nil]; exact ih
end Go.Proofs.YtbgnapmaimkpkaaGreatDoor
