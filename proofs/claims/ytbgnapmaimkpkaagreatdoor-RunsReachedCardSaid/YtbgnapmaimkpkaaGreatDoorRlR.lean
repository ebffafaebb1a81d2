/-
  Plain Lean: what the law RunsReached counts. Conditions: none.
-/
import Derived.Test.YtbgnapmaimkpkaaGreatDoorRnY
import Derived.Test.YtbgnapmaimkpkaaGreatDoorVcJ
set_option linter.unusedSimpArgs false
set_option linter.unusedVariables false
namespace Go.Proofs.YtbgnapmaimkpkaaGreatDoor

structure FromI (p : Prg) (m : UInt8) (l : List By) (i t : Nat) (fr : List Nat) : Prop where
  len : fr.length = l.length
  zero : fr[0]? = some 0
  small : ∀ (j x : Nat), fr[j]? = some x → x ≤ i * 64 + t
  met : ∀ (i' j q : Nat) (s : By) (x : Pss), i' < j → l[i']? = some s → (movesM p m s)[q]? = some x → (i' < i ∨ (i' = i ∧ q < t)) → l[j]? = some (stepM p m s x) → ∃ y, fr[j]? = some y ∧ 0 < y
theorem from_start {p : Prg} {m : UInt8} {l : List By} (h : 0 < l.length) : FromI p m l 0 0 (List.replicate l.length 0) where
  len := List.length_replicate
  zero := by rw [List.getElem?_replicate, if_pos h]
  small := fun j x hx => by
    rw [List.getElem?_replicate] at hx
    split at hx
    · cases hx; omega
    · cases hx
  met := fun i' j q s x _ _ _ h => by omega
section
variable {p : Prg} {m : UInt8} {l : List By} {i t k y : Nat} {fr : List Nat} {s : By} {x : Pss}
theorem FromI.up (h : FromI p m l i t fr) (hn : l.Nodup) (hs : l[i]? = some s) (hx : (movesM p m s)[t]? = some x) (hk : l[k]? = some (stepM p m s x)) (hik : i < k) (hy : fr[k]? = some y) : FromI p m l i (t + 1) (fr.set k (y + 1)) where
  len := by rw [List.length_set]; exact h.len
  zero := by rw [List.getElem?_set_ne (by omega)]; exact h.zero
  small := fun j z hz => by
    by_cases e : k = j
    · subst e
      have := (List.getElem?_eq_some_iff.1 hy).1
      rw [List.getElem?_set_self this] at hz
      cases hz
      have := h.small k y hy
      omega
    · rw [List.getElem?_set_ne e] at hz
      have := h.small j z hz
      omega
  met := fun i' j q s' x' h1 h2 h3 h4 h5 => by
    by_cases e : k = j
    · subst e
      have := (List.getElem?_eq_some_iff.1 hy).1
      exact ⟨y + 1, List.getElem?_set_self this, by omega⟩
    · rw [List.getElem?_set_ne e]
      by_cases e2 : i' = i ∧ q = t
      · obtain ⟨rfl, rfl⟩ := e2
        rw [hs] at h2; cases h2
        rw [hx] at h3; cases h3
        exact absurd ((List.getElem?_inj (List.getElem?_eq_some_iff.1 hk).1 hn).1 (hk.trans h5.symm)) e
      · exact h.met i' j q s' x' h1 h2 h3 (by omega) h5
theorem FromI.keep (h : FromI p m l i t fr) (hn : l.Nodup) (hs : l[i]? = some s) (hx : (movesM p m s)[t]? = some x) (hk : l[k]? = some (stepM p m s x)) (hik : k ≤ i) : FromI p m l i (t + 1) fr where
  len := h.len
  zero := h.zero
  small := fun j z hz => by have := h.small j z hz; omega
  met := fun i' j q s' x' h1 h2 h3 h4 h5 => by
    by_cases e2 : i' = i ∧ q = t
    · obtain ⟨rfl, rfl⟩ := e2
      rw [hs] at h2; cases h2
      rw [hx] at h3; cases h3
      have := (List.getElem?_inj (List.getElem?_eq_some_iff.1 hk).1 hn).1 (hk.trans h5.symm)
      omega
    · exact h.met i' j q s' x' h1 h2 h3 (by omega) h5
theorem FromI.row (h : FromI p m l i (movesM p m s).length fr) (hs : l[i]? = some s) (hm : (movesM p m s).length ≤ 64) : FromI p m l (i + 1) 0 fr where
  len := h.len
  zero := h.zero
  small := fun j z hz => by
    refine Nat.le_trans (h.small j z hz) ?_
    rw [Nat.add_mul, Nat.one_mul, Nat.add_zero]
    exact Nat.add_le_add_left hm _
  met := fun i' j q s' x' h1 h2 h3 h4 h5 => by
    by_cases e2 : i' = i
    · subst e2
      rw [hs] at h2; cases h2
      exact h.met i' j q s x' h1 hs h3 (.inr ⟨rfl, (List.getElem?_eq_some_iff.1 h3).1⟩) h5
    · exact h.met i' j q s' x' h1 h2 h3 (by omega) h5
end
theorem from_done {p : Prg} {m : UInt8} {most : Nat} {a : Fnd} {fr : List Nat} (h : FromI p m a.list a.list.length 0 fr) (hI : FndI p m most a.list.length a) {j y : Nat} (hj : fr[j]? = some y) : (y = 0 ↔ j = 0) := by
  constructor
  · intro hy
    rcases Nat.eq_zero_or_pos j with e | e
    · exact e
    · have hjl : j < a.list.length := by rw [← h.len]; exact (List.getElem?_eq_some_iff.1 hj).1
      obtain ⟨f, x, hq⟩ : ∃ f x, a.links[j]? = some (f, x) := ⟨_, _, List.getElem?_eq_getElem (by rw [hI.len]; exact hjl)⟩
      obtain ⟨i', _, h1, _, s, h2, h3, h4⟩ := hI.link j f x e hq
      obtain ⟨q, hx⟩ := List.getElem?_of_mem h3
      obtain ⟨z, hz, h0⟩ := h.met i' j q s x h1 h2 hx (.inl (List.getElem?_eq_some_iff.1 h2).1) h4
      rw [hj] at hz
      cases hz
      omega
  · rintro rfl
    rw [h.zero] at hj
    cases hj; rfl
theorem map_none {l : List By} {s : By} {j : Nat} (ht : ∀ y ∈ l, Tidy y) (hn : l.Nodup) (hs : l[j]? = some s) : lkV 142 s (idxV (l.take j)) = none := by
  refine lkV_none fun y hy => ?_
  obtain ⟨i, hi⟩ := List.getElem?_of_mem hy
  have h1 := (idxV_get hi).1
  rw [List.getElem?_take] at h1
  split at h1
  · rename_i hij
    cases hc : same 142 s y.1 with
    | false => rfl
    | true =>
      have e := (tidy_eq (ht s (List.mem_of_getElem? hs)) (ht y.1 (List.mem_of_getElem? h1))).1 hc
      have := (List.getElem?_inj (List.getElem?_eq_some_iff.1 hs).1 hn).1 (hs.trans (e ▸ h1.symm))
      omega
  · cases h1
theorem map_some {l : List By} {z : By} {k : Nat} (ht : ∀ y ∈ l, Tidy y) (hn : l.Nodup) (hk : l[k]? = some z) : lkV 142 z (idxV l) = some (.int .i64 (k : Int)) := by
  refine lkV_some (j := k) (fun i y hi => ?_) (by rw [idxV_at hk]; rfl)
  have h1 := (idxV_get hi).1
  rw [tidy_eq (ht z (List.mem_of_getElem? hk)) (ht y.1 (List.mem_of_getElem? h1))]
  constructor
  · intro e
    exact (List.getElem?_inj (List.getElem?_eq_some_iff.1 h1).1 hn).1 (h1.trans (e ▸ hk.symm))
  · rintro rfl
    rw [hk] at h1
    exact Option.some.inj h1
def endsL (p : Prg) (m : UInt8) (l : List By) : List By := (l.filter fun s => (movesM p m s).isEmpty).map finalP
theorem endsL_len (p : Prg) (m : UInt8) (l : List By) : (endsL p m l).length ≤ l.length := by
  unfold endsL
  rw [List.length_map]
  exact List.length_filter_le _ _
theorem endsL_succ {p : Prg} {m : UInt8} {l : List By} {i : Nat} {s : By} (hs : l[i]? = some s) : endsL p m (l.take (i + 1)) = if movesM p m s = [] then endsL p m (l.take i) ++ [finalP s] else endsL p m (l.take i) := by
  unfold endsL
  rw [List.take_add_one, hs, List.filter_append, List.map_append]
  by_cases h : movesM p m s = []
  · rw [if_pos h]; simp [h]
  · rw [if_neg h]
    have : (movesM p m s).isEmpty = false := by
      cases hq : movesM p m s with
      | nil => exact absurd hq h
      | cons _ _ => rfl
    simp [this]
theorem endsL_iff {p : Prg} {m : UInt8} {most : Nat} {a : Fnd} (hI : FndI p m most a.list.length a) (x : List UInt8) : x ∈ tl (endsL p m a.list) ↔ OutM p m x := by
  rw [← fins_iff hI]
  unfold tl endsL finsR
  rw [hI.ends]
  simp only [List.mem_map, List.mem_filter, List.mem_range, List.isEmpty_iff]
  constructor
  · rintro ⟨f, ⟨s, ⟨h1, h2⟩, rfl⟩, rfl⟩
    obtain ⟨k, hk⟩ := List.getElem?_of_mem h1
    refine ⟨k, ⟨(List.getElem?_eq_some_iff.1 hk).1, by rw [hk]; simp [h2]⟩, ?_⟩
    rw [List.getD_eq_getElem?_getD, hk]
    rfl
  · rintro ⟨k, ⟨h1, h2⟩, rfl⟩
    obtain ⟨s, hk⟩ : ∃ s, a.list[k]? = some s := ⟨_, List.getElem?_eq_getElem h1⟩
    rw [hk] at h2
    refine ⟨finalP s, ⟨s, ⟨List.mem_of_getElem? hk, by simpa using h2⟩, rfl⟩, ?_⟩
    rw [List.getD_eq_getElem?_getD, hk]
    rfl
theorem most_bad2 {p : Prg} {m : UInt8} {n : Int} (hn : 1 ≤ n ∧ n ≤ 65536) (h : statesE p m n ≠ 0) : (fo (statesR p m n)).list.length = 0 ∧ ((statesE p m n = 5 ∧ rightErr p = 0 ∧ (1 : UInt8) ≤ m ∧ m ≤ 3) ∨ (statesE p m n = 2 ∧ ¬ (rightErr p = 0 ∧ (1 : UInt8) ≤ m ∧ m ≤ 3))) := by
  rw [states_none h]
  refine ⟨rfl, ?_⟩
  have hkn : knownM m = true ↔ (1 : UInt8) ≤ m ∧ m ≤ 3 := by unfold knownM; simp
  by_cases hC : statesC p m n
  · obtain ⟨h1, _, _, h4⟩ := hC
    have hC6 : statesC p m n := ⟨h1, hn.1, hn.2, h4⟩
    rcases states_pos hC6 with h2 | h2
    · exact .inl ⟨h2.1, h4, hkn.1 h1⟩
    · exact absurd h2.1 h
  · exact .inr ⟨(states_neg hC).1, fun ⟨h1, h2⟩ => hC ⟨hkn.2 h2, hn.1, hn.2, h1⟩⟩
end Go.Proofs.YtbgnapmaimkpkaaGreatDoor
