/-
  Plain Lean: the ways to the states of a search; searches with another limit. Conditions: none.
-/
import Derived.Test.YtbgnapmaimkpkaaGreatDoorRnP
set_option linter.unusedSimpArgs false
set_option linter.unusedVariables false
namespace Go.Proofs.YtbgnapmaimkpkaaGreatDoor

def backR (q : List (Int × Pss)) : Nat → Nat → List Pss
  | 0, _ => []
  | f + 1, k => if k = 0 then [] else match q[k]? with
    | some (g, x) => backR q f g.toNat ++ [x]
    | none => []
def wayR (a : Fnd) (k : Nat) : List Pss := backR a.links k k
theorem back_fuel {p : Prg} {m : UInt8} {most n : Nat} {a : Fnd} (h : FndI p m most n a) : ∀ (k f : Nat), k ≤ f → backR a.links f k = backR a.links k k := by
  intro k
  induction k using Nat.strongRecOn with
  | ind k ih =>
    intro f hf
    rcases Nat.eq_zero_or_pos k with e | e
    · subst e
      cases f with
      | zero => rfl
      | succ f => rfl
    · obtain ⟨f, rfl⟩ : ∃ g, f = g + 1 := ⟨f - 1, by omega⟩
      obtain ⟨k', rfl⟩ : ∃ g, k = g + 1 := ⟨k - 1, by omega⟩
      rw [backR, backR, if_neg (by omega), if_neg (by omega)]
      cases hq : a.links[k' + 1]? with
      | none => rfl
      | some y =>
        obtain ⟨g, x⟩ := y
        obtain ⟨i, rfl, hi, _⟩ := h.link _ _ _ e hq
        show backR a.links f (i : Int).toNat ++ [x] = backR a.links k' (i : Int).toNat ++ [x]
        rw [Int.toNat_natCast, ih i hi f (by omega), ih i hi k' (by omega)]
theorem way_zero (a : Fnd) : wayR a 0 = [] := rfl
theorem way_succ {p : Prg} {m : UInt8} {most n : Nat} {a : Fnd} (h : FndI p m most n a) {k i : Nat} {x : Pss} (hk : 0 < k) (hq : a.links[k]? = some ((i : Int), x)) : wayR a k = wayR a i ++ [x] := by
  obtain ⟨j, e, hj, _⟩ := h.link k _ _ hk hq
  obtain rfl : i = j := by omega
  obtain ⟨k', rfl⟩ : ∃ g, k = g + 1 := ⟨k - 1, by omega⟩
  unfold wayR
  rw [backR, if_neg (by omega), hq]
  show backR a.links k' (i : Int).toNat ++ [x] = _
  rw [Int.toNat_natCast, back_fuel h i k' (by omega)]
theorem RunM.snoc {p : Prg} {m : UInt8} {y : By} {x : Pss} : ∀ {r : List Pss} {s : By}, RunM p m s r y → x ∈ movesM p m y → RunM p m s (r ++ [x]) (stepM p m y x)
  | [], s, h, hx => by
    have h : y = s := h
    subst h
    exact ⟨hx, rfl⟩
  | z :: r, s, h, hx => ⟨h.1, RunM.snoc h.2 hx⟩
theorem RunM.unsnoc {p : Prg} {m : UInt8} {z : By} {x : Pss} : ∀ {r : List Pss} {s : By}, RunM p m s (r ++ [x]) z → ∃ y, RunM p m s r y ∧ x ∈ movesM p m y ∧ z = stepM p m y x
  | [], s, h => ⟨s, rfl, h.1, h.2⟩
  | w :: r, s, h => by
    obtain ⟨y, h1, h2, h3⟩ := RunM.unsnoc (r := r) h.2
    exact ⟨y, ⟨h.1, h1⟩, h2, h3⟩
theorem way_run {p : Prg} {m : UInt8} {most n : Nat} {a : Fnd} (h : FndI p m most n a) : ∀ (k : Nat) (s : By), a.list[k]? = some s → RunM p m (startP p) (wayR a k) s := by
  intro k
  induction k using Nat.strongRecOn with
  | ind k ih =>
    intro s hs
    rcases Nat.eq_zero_or_pos k with e | e
    · subst e
      rw [h.head] at hs
      cases hs; exact rfl
    · obtain ⟨⟨f, x⟩, hq⟩ : ∃ f, a.links[k]? = some f := ⟨_, List.getElem?_eq_getElem (by rw [h.len]; exact (List.getElem?_eq_some_iff.1 hs).1)⟩
      obtain ⟨i, rfl, hi, _, y, h1, h2, h3⟩ := h.link _ _ _ e hq
      rw [hs] at h3; cases h3
      rw [way_succ h e hq]
      exact (ih i hi y h1).snoc h2
theorem way_mono {p : Prg} {m : UInt8} {most n : Nat} {a : Fnd} (h : FndI p m most n a) : ∀ (j i : Nat), i ≤ j → j < a.list.length → (wayR a i).length ≤ (wayR a j).length := by
  intro j
  induction j using Nat.strongRecOn with
  | ind j ih =>
    intro i hij hj
    rcases Nat.eq_zero_or_pos i with e | e
    · subst e; rw [way_zero]; exact Nat.zero_le _
    · obtain ⟨⟨f, x⟩, hq⟩ : ∃ f, a.links[i]? = some f := ⟨_, List.getElem?_eq_getElem (by rw [h.len]; omega)⟩
      obtain ⟨⟨g, y⟩, hq2⟩ : ∃ f, a.links[j]? = some f := ⟨_, List.getElem?_eq_getElem (by rw [h.len]; omega)⟩
      obtain ⟨i', rfl, hi, _⟩ := h.link _ _ _ e hq
      obtain ⟨j', rfl, hj2, _⟩ := h.link _ _ _ (by omega) hq2
      have := h.mono i j _ _ _ _ hij hq hq2
      rw [way_succ h e hq, way_succ h (by omega) hq2, List.length_append, List.length_append]
      have := ih j' hj2 i' (by omega) (by omega)
      simpa using this
theorem way_least {p : Prg} {m : UInt8} {most : Nat} {a : Fnd} (h : FndI p m most a.list.length a) (r : List Pss) : ∀ (z : By), RunM p m (startP p) r z → ∃ j, a.list[j]? = some z ∧ (wayR a j).length ≤ r.length := by
  suffices ∀ (n : Nat) (r : List Pss) (z : By), r.length = n → RunM p m (startP p) r z → ∃ j, a.list[j]? = some z ∧ (wayR a j).length ≤ r.length from fun z hz => this _ r z rfl hz
  intro n
  induction n with
  | zero =>
    intro r z hn hz
    obtain rfl : r = [] := List.eq_nil_of_length_eq_zero hn
    have hz : z = startP p := hz
    subst hz
    exact ⟨0, h.head, by rw [way_zero]; exact Nat.le_refl _⟩
  | succ n ih =>
    intro r z hn hz
    have hne : r ≠ [] := fun e => by rw [e] at hn; simp at hn
    obtain ⟨r', x, rfl⟩ : ∃ r' x, r = r' ++ [x] := ⟨r.dropLast, r.getLast hne, (List.dropLast_concat_getLast hne).symm⟩
    obtain ⟨y, h1, h2, rfl⟩ := hz.unsnoc
    simp only [List.length_append, List.length_singleton] at hn
    obtain ⟨j, hj, hjl⟩ := ih r' y (by omega) h1
    obtain ⟨j2, h3, h4⟩ := h.next j y x (List.getElem?_eq_some_iff.1 hj).1 hj h2
    refine ⟨j2, h3, ?_⟩
    rcases Nat.eq_zero_or_pos j2 with e | e
    · subst e; rw [way_zero]; exact Nat.zero_le _
    · obtain ⟨f, w, hq, hf⟩ := h4 e
      obtain ⟨i, rfl, hi, _⟩ := h.link _ _ _ e hq
      rw [way_succ h e hq, List.length_append, List.length_append]
      have := way_mono h j i (by omega) (List.getElem?_eq_some_iff.1 hj).1
      simp only [List.length_singleton]
      omega
theorem ends_iff {p : Prg} {m : UInt8} {most : Nat} {a : Fnd} (h : FndI p m most a.list.length a) {k : Nat} : k ∈ a.ends ↔ ∃ s, a.list[k]? = some s ∧ movesM p m s = [] := by
  rw [h.ends, List.mem_filter, List.mem_range]
  constructor
  · rintro ⟨hk, h2⟩
    rw [List.getElem?_eq_getElem hk] at h2
    exact ⟨_, List.getElem?_eq_getElem hk, by simpa using h2⟩
  · rintro ⟨s, hs, he⟩
    refine ⟨(List.getElem?_eq_some_iff.1 hs).1, ?_⟩
    rw [hs]
    simp [he]
theorem end_found {p : Prg} {m : UInt8} {most : Nat} {a : Fnd} (h : FndI p m most a.list.length a) {r : List Pss} {z : By} (hz : RunM p m (startP p) r z) (he : movesM p m z = []) : ∃ k, k ∈ a.ends ∧ a.list[k]? = some z ∧ (wayR a k).length ≤ r.length := by
  obtain ⟨j, h1, h2⟩ := way_least h r z hz
  exact ⟨j, (ends_iff h).2 ⟨z, h1, he⟩, h1, h2⟩
theorem end_run {p : Prg} {m : UInt8} {most : Nat} {a : Fnd} (h : FndI p m most a.list.length a) {k : Nat} (hk : k ∈ a.ends) : ∃ z, a.list[k]? = some z ∧ RunM p m (startP p) (wayR a k) z ∧ movesM p m z = [] := by
  obtain ⟨z, h1, h2⟩ := (ends_iff h).1 hk
  exact ⟨z, h1, way_run h k z h1, h2⟩
theorem ends_pos {p : Prg} {m : UInt8} {most : Nat} {a : Fnd} (h : FndI p m most a.list.length a) : a.ends ≠ [] := by
  have hr : RightM p m (startP p) := (h.fine _ (List.mem_of_getElem? h.head)).r
  obtain ⟨r, z, _, h2, h3⟩ := runM_of_play [] (nu p (startP p)) (startP p) [] hr (Nat.le_refl _)
  obtain ⟨k, hk, _⟩ := end_found h h2 h3
  exact fun e => by rw [e] at hk; cases hk
theorem visit_len {p : Prg} {m : UInt8} {most k : Nat} {s : By} : ∀ (r : List Pss) (l : List By) (q : List (Int × Pss)) {l' : List By} {q' : List (Int × Pss)}, visitR p m most k s r l q = some (l', q') → l.length ≤ l'.length
  | [], l, q, l', q', h => by simp only [visitR, Option.some.injEq, Prod.mk.injEq] at h; rw [h.1]; exact Nat.le_refl _
  | x :: r, l, q, l', q', h => by
    rw [visitR] at h
    split at h
    · exact visit_len r l q h
    · split at h
      · cases h
      · have := visit_len r _ _ h
        simp only [List.length_append, List.length_singleton] at this
        omega
theorem visit_lim {p : Prg} {m : UInt8} {A B k : Nat} {s : By} : ∀ (r : List Pss) (l : List By) (q : List (Int × Pss)) {l' : List By} {q' : List (Int × Pss)}, visitR p m A k s r l q = some (l', q') → l.length ≤ B →
    (l'.length ≤ B → visitR p m B k s r l q = some (l', q')) ∧ (B < l'.length → visitR p m B k s r l q = none)
  | [], l, q, l', q', h, hB => by
    have h2 := h
    simp only [visitR, Option.some.injEq, Prod.mk.injEq] at h2
    exact ⟨fun _ => h, fun hh => by rw [← h2.1] at hh; omega⟩
  | x :: r, l, q, l', q', h, hB => by
    rw [visitR] at h ⊢
    by_cases hc : isIn l (stepM p m s x) = true
    · rw [if_pos hc] at h ⊢
      exact visit_lim r l q h hB
    · rw [if_neg hc] at h ⊢
      by_cases hA : A ≤ l.length
      · rw [if_pos hA] at h; cases h
      · rw [if_neg hA] at h
        have hl := visit_len r _ _ h
        simp only [List.length_append, List.length_singleton] at hl
        by_cases hB2 : B ≤ l.length
        · rw [if_pos hB2]
          exact ⟨fun hh => absurd hh (by omega), fun _ => rfl⟩
        · rw [if_neg hB2]
          exact visit_lim r _ _ h (by simp; omega)
theorem search_len {p : Prg} {m : UInt8} {A : Nat} : ∀ (f k : Nat) (a b : Fnd), searchR p m A f k a = some b → a.list.length ≤ b.list.length
  | 0, k, a, b, h => by simp only [searchR, Option.some.injEq] at h; rw [h]; exact Nat.le_refl _
  | f + 1, k, a, b, h => by
    rw [searchR] at h
    cases hk : a.list[k]? with
    | none => rw [hk] at h; simp only [Option.some.injEq] at h; rw [h]; exact Nat.le_refl _
    | some s =>
      rw [hk] at h
      cases hv : visitR p m A k s (movesM p m s) a.list a.links with
      | none => simp only [hv] at h; cases h
      | some lq =>
        obtain ⟨l, q⟩ := lq
        simp only [hv] at h
        have h1 := visit_len _ _ _ hv
        have h2 := search_len f (k + 1) _ b h
        exact Nat.le_trans h1 h2
theorem search_lim {p : Prg} {m : UInt8} {A B : Nat} : ∀ (f k : Nat) (a b : Fnd), searchR p m A f k a = some b → b.list.length ≤ k + f → a.list.length ≤ B → k ≤ a.list.length →
    (b.list.length ≤ B → ∀ f', b.list.length ≤ k + f' → searchR p m B f' k a = some b) ∧ (B < b.list.length → ∀ f', B ≤ k + f' → searchR p m B f' k a = none)
  | f, k, a, b, h, hf, hB, hk => by
    cases hn : a.list[k]? with
    | none =>
      have e : a = b := by
        cases f with
        | zero => simpa [searchR] using h
        | succ f => rw [searchR, hn] at h; simpa using h
      subst e
      refine ⟨fun _ f' _ => ?_, fun hh => absurd hh (by omega)⟩
      cases f' with
      | zero => rfl
      | succ f' => rw [searchR, hn]
    | some s =>
      have hkl := (List.getElem?_eq_some_iff.1 hn).1
      have hab := search_len f k a b h
      cases f with
      | zero => omega
      | succ f =>
        rw [searchR, hn] at h
        cases hv : visitR p m A k s (movesM p m s) a.list a.links with
        | none => simp only [hv] at h; cases h
        | some lq =>
          obtain ⟨l, q⟩ := lq
          simp only [hv] at h
          have h1 := visit_lim _ _ _ hv hB
          have h2 := visit_len _ _ _ hv
          have h3 := search_len f (k + 1) _ b h
          have h3 : l.length ≤ b.list.length := h3
          refine ⟨fun hb f' hf' => ?_, fun hb f' hf' => ?_⟩
          · obtain ⟨f', rfl⟩ : ∃ g, f' = g + 1 := ⟨f' - 1, by omega⟩
            rw [searchR, hn]
            simp only [h1.1 (by omega)]
            exact (search_lim f (k + 1) _ b h (by omega) (show l.length ≤ B by omega) (show k + 1 ≤ l.length by omega)).1 hb f' (by omega)
          · obtain ⟨f', rfl⟩ : ∃ g, f' = g + 1 := ⟨f' - 1, by omega⟩
            rw [searchR, hn]
            rcases Nat.lt_or_ge B l.length with h4 | h4
            · simp only [h1.2 h4]
            · simp only [h1.1 h4]
              exact (search_lim f (k + 1) _ b h (by omega) (show l.length ≤ B from h4) (show k + 1 ≤ l.length by omega)).2 hb f' (by omega)
theorem reach_lim {p : Prg} {m : UInt8} {A B : Nat} {b : Fnd} (h : rightErr p = 0) (hm : knownM m = true) (hA : 1 ≤ A) (hB : 1 ≤ B) (e : reachR p m A = some b) : (b.list.length ≤ B → reachR p m B = some b) ∧ (B < b.list.length → reachR p m B = none) := by
  have hI := reach_ok h hm hA e
  have := hI.many
  have h1 := search_lim (B := B) (A + 1) 0 _ b e (by omega) hB (Nat.zero_le _)
  exact ⟨fun hb => h1.1 hb (B + 1) (by omega), fun hb => h1.2 hb (B + 1) (by omega)⟩
end Go.Proofs.YtbgnapmaimkpkaaGreatDoor
