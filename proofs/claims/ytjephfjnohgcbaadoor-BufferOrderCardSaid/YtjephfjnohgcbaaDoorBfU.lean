/-
  Plain Lean: what a thread sees before and behind a move of a machine with store buffers. Conditions: none.
-/
import Derived.Test.YtjephfjnohgcbaaDoorBfT
set_option linter.unusedSimpArgs false
set_option linter.unusedVariables false
namespace Go.Proofs.YtjephfjnohgcbaaDoor

theorem seenN_congr {s z : By} {t u : Nat} {loc : UInt8} (hm : z (36 + loc.toNat) = s (36 + loc.toNat)) : ∀ n, (∀ i, i < n → bLoc z t i = bLoc s u i ∧ bVal z t i = bVal s u i) → seenN z t loc n = seenN s u loc n
  | 0, _ => hm
  | n + 1, h => by
    rw [seenN, seenN, (h n (by omega)).1, (h n (by omega)).2, seenN_congr hm n (fun i hi => h i (by omega))]
theorem seen_eq {p : Prg} {m : UInt8} {s : By} (h : RightM p m s) {t : Nat} (ht : t < 4) (loc : UInt8) : seenP s t loc = seenN s t loc (manyB s t) := by
  have := (h.many ht).1
  unfold seenP
  rw [Nat.min_eq_left this]
/-- A thread whose buffer is empty sees memory. -/
theorem seen_mem {s : By} {t : Nat} {loc : UInt8} (h : manyB s t = 0) : seenP s t loc = s (36 + loc.toNat) := by
  unfold seenP
  rw [h]
  rfl
section
variable {p : Prg} {m : UInt8} {s : By} {t : Nat} {l : List Ins} {x : Ins}
theorem not_writes (h : buffers m x) : ¬ writesM m x := by
  rintro (h1 | h1 | h1 | h1)
  · exact h.2 h1.2
  · exact absurd (h.1.symm.trans h1) (by decide)
  · exact absurd (h.1.symm.trans h1) (by decide)
  · exact absurd (h.1.symm.trans h1) (by decide)
/-- A store changes what its thread sees at its location alone. -/
theorem ExecOf.seenOwn (h : ExecOf p m s t l x) (hb : buffers m x) {loc : UInt8} (hl : loc.toNat < 6) : seenP (execP m x s t) t loc = if x.loc = loc then valA x (cut s (t * 9)) else seenP s t loc := by
  have hn := h.room
  have ht := h.t4
  have ha := addAt_le (m := m) (s := s) (t := t) (loc := x.loc) (manyB s t)
  obtain ⟨a1, a2, a3⟩ := addAt_spec (m := m) (s := s) (t := t) (loc := x.loc) (manyB s t)
  obtain ⟨h1, h2⟩ := h.adds hb t
  rw [seen_eq h.right ht, seen_eq h.r ht, h1]
  have hmem : execP m x s t (36 + loc.toNat) = s (36 + loc.toNat) := by
    rw [h.mem hl, if_neg (fun hh => not_writes hb hh.1)]
  have hB : ∀ i, i < 12 → bLoc (execP m x s t) t i = (if i = addAt m s t x.loc (manyB s t) then x.loc else if addAt m s t x.loc (manyB s t) < i ∧ i ≤ manyB s t then bLoc s t (i - 1) else bLoc s t i)
      ∧ bVal (execP m x s t) t i = (if i = addAt m s t x.loc (manyB s t) then valA x (cut s (t * 9)) else if addAt m s t x.loc (manyB s t) < i ∧ i ≤ manyB s t then bVal s t (i - 1) else bVal s t i) := fun i hi =>
    ⟨((h2 i).1).trans (add_loc ha hn ht hi), ((h2 i).2).trans (add_val ha hn ht hi)⟩
  have hmany : manyB (addP m s t (stP x.loc (valA x (cut s (t * 9))))) t = manyB s t + 1 := add_many ha hn
  rw [hmany]
  generalize addAt m s t x.loc (manyB s t) = a at ha a1 a2 a3 hB
  have key : ∀ k, a ≤ k → k ≤ manyB s t → seenN (execP m x s t) t loc (k + 1) = if x.loc = loc then valA x (cut s (t * 9)) else seenN s t loc k := by
    intro k hk
    induction hk with
    | refl =>
      intro _
      rw [seenN, (hB a (by omega)).1, (hB a (by omega)).2, if_pos rfl, if_pos rfl]
      split
      · rfl
      · exact seenN_congr hmem a (fun i hi => by
          have f1 : ¬ i = a := by omega
          have f2 : ¬ (a < i ∧ i ≤ manyB s t) := by omega
          rw [(hB i (by omega)).1, (hB i (by omega)).2, if_neg f1, if_neg f1, if_neg f2, if_neg f2]
          exact ⟨rfl, rfl⟩)
    | @step k hak ih =>
      intro hk1
      have hak : a ≤ k := hak
      have ih := ih (by omega)
      have e : bLoc (execP m x s t) t (k + 1) = bLoc s t k ∧ bVal (execP m x s t) t (k + 1) = bVal s t k := by
        have f1 : ¬ k + 1 = a := by omega
        have f2 : a < k + 1 ∧ k + 1 ≤ manyB s t := by omega
        rw [(hB (k + 1) (by omega)).1, (hB (k + 1) (by omega)).2, if_neg f1, if_neg f1, if_pos f2, if_pos f2]
        exact ⟨rfl, rfl⟩
      show seenN (execP m x s t) t loc (k + 1 + 1) = _
      rw [seenN, e.1, e.2, ih]
      by_cases hx : x.loc = loc
      · rw [if_pos hx, if_pos hx, if_neg]
        intro hk2
        by_cases h3 : m = 3
        · have := a1 h3 k hak (by omega)
          rw [hk2, hx] at this
          omega
        · have := a3 h3
          omega
      · rw [if_neg hx, if_neg hx]
        rfl
  exact key (manyB s t) ha (Nat.le_refl _)
/-- A store changes nothing that another thread sees. -/
theorem ExecOf.seenFar (h : ExecOf p m s t l x) (hb : buffers m x) {u : Nat} (hu : u < 4) (hne : u ≠ t) {loc : UInt8} (hl : loc.toNat < 6) : seenP (execP m x s t) u loc = seenP s u loc := by
  obtain ⟨h1, h2⟩ := h.far hu hne
  have h12 := (h.r.many hu).1
  rw [seen_eq h.right hu, seen_eq h.r hu, h1]
  exact seenN_congr (by rw [h.mem hl, if_neg (fun hh => not_writes hb hh.1)]) _ (fun i hi => h2 i (by omega))
end
/-- A drain does not change what its own thread sees. -/
theorem DrainOf.seen {p : Prg} {m : UInt8} {s : By} {t a : Nat} (h : DrainOf p m s t a) {loc : UInt8} (hl : loc.toNat < 6) : seenP (drainR s t a) t loc = seenP s t loc := by
  have hlt := h.lt
  have hl6 := h.loc6
  have hn := h.n12
  have ht := h.t4
  rw [seen_eq h.right ht, seen_eq h.r ht, drain_many hlt hl6]
  have hB : ∀ i, i < 12 → _ := fun i hi => And.intro (drain_loc hlt hl6 hn ht hi) (drain_val hlt hl6 hn ht hi)
  have hmem : drainR s t a (36 + loc.toNat) = if bLoc s t a = loc then bVal s t a else s (36 + loc.toNat) := by
    rw [drain_mem hlt hl]
    by_cases e : bLoc s t a = loc
    · rw [if_pos (by rw [e]), if_pos e]
    · rw [if_neg (fun e2 => e (UInt8.toNat_inj.1 e2.symm)), if_neg e]
  have low : ∀ k, k ≤ a → seenN (drainR s t a) t loc k = if bLoc s t a = loc then bVal s t a else seenN s t loc k := by
    intro k
    induction k with
    | zero => intro _; exact hmem
    | succ k ih =>
      intro hk
      have e := hB k (by omega)
      have f1 : ¬ k + 1 = manyB s t := by omega
      have f2 : ¬ (a ≤ k ∧ k + 1 < manyB s t) := by omega
      rw [seenN, e.1, e.2, if_neg f1, if_neg f1, if_neg f2, if_neg f2, ih (by omega), seenN]
      by_cases e1 : bLoc s t a = loc
      · rw [if_pos e1, if_pos e1, if_neg (by rw [← e1]; exact (h.fst k (by omega)).2)]
      · rw [if_neg e1, if_neg e1]
  have high : ∀ k, a ≤ k → k + 1 ≤ manyB s t → seenN (drainR s t a) t loc k = seenN s t loc (k + 1) := by
    intro k hk
    induction hk with
    | refl =>
      intro _
      rw [low a (Nat.le_refl _), seenN]
    | @step k hak ih =>
      intro hk1
      have hak : a ≤ k := hak
      have hk1 : k + 1 + 1 ≤ manyB s t := hk1
      have e := hB k (by omega)
      have e1 : ¬ k + 1 = manyB s t := by omega
      have e2 : a ≤ k ∧ k + 1 < manyB s t := ⟨hak, by omega⟩
      show seenN (drainR s t a) t loc (k + 1) = seenN s t loc (k + 1 + 1)
      rw [seenN, e.1, e.2, if_neg e1, if_neg e1, if_pos e2, if_pos e2, ih (by omega)]
      exact (seenN.eq_2 s t loc (k + 1)).symm
  have := high (manyB s t - 1) (by omega) (by omega)
  rwa [show manyB s t - 1 + 1 = manyB s t by omega] at this
end Go.Proofs.YtjephfjnohgcbaaDoor
