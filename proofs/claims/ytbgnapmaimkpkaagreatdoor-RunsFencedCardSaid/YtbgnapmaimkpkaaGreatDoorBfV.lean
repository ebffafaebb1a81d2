/-
  Plain Lean: a run without store buffers, on the machines that have them. Conditions: none.
-/
import Derived.Test.YtbgnapmaimkpkaaGreatDoorBfT1
import Derived.Test.YtbgnapmaimkpkaaGreatDoorBfG
set_option linter.unusedSimpArgs false
set_option linter.unusedVariables false
namespace Go.Proofs.YtbgnapmaimkpkaaGreatDoor

theorem rightM_of {p : Prg} {m : UInt8} {s : By} (h : rightS p s = true) (hm : knownM m = true) : RightM p m s ∧ (∀ i, 42 ≤ i → i < 142 → s i = 0) := by
  have hp := right_of h
  unfold rightS stateOk at h
  simp only [Bool.and_eq_true] at h
  obtain ⟨_, ⟨ht, hmm⟩, hb, hy⟩ := h
  have h1 := allB_iff.1 ht
  have h2 := allB_iff.1 hmm
  rw [same_iff] at hb hy
  have hz : ∀ i, 42 ≤ i → i < 142 → s i = 0 := fun i h1 h2 => by
    rcases Nat.lt_or_ge i 138 with h3 | h3
    · have := hb (i - 42) (by omega)
      unfold cut at this
      rwa [show 42 + (i - 42) = i by omega] at this
    · have := hy (i - 138) (by omega)
      unfold cut at this
      rwa [show 138 + (i - 138) = i by omega] at this
  refine ⟨⟨hm, bare_ok hp h1 h2, fun t ht => ?_⟩, hz⟩
  have hm0 : manyB s t = 0 := by unfold manyB; rw [hz _ (by omega) (by omega)]; rfl
  rw [fits_iff, hm0]
  refine ⟨Nat.zero_le _, fun i hi => ?_⟩
  rw [slot_iff, hm0]
  exact ⟨fun _ => ⟨hz _ (by omega) (by omega), hz _ (by omega) (by omega)⟩, fun hh => absurd hh (by omega)⟩
theorem many_zero {s : By} (hz : ∀ i, 42 ≤ i → i < 142 → s i = 0) {t : Nat} (ht : t < 4) : manyB s t = 0 := by unfold manyB; rw [hz _ (by omega) (by omega)]; rfl
theorem ready_zero {s : By} (hz : ∀ i, 42 ≤ i → i < 142 → s i = 0) {t : Nat} (ht : t < 4) (x : Ins) (m : UInt8) : readyI x m s t = true := by
  have h0 : (s (138 + t) == 0) = true := by rw [hz _ (by omega) (by omega)]; rfl
  unfold readyI
  rw [h0]
  split
  · rfl
  · split
    · exact Bool.or_true _
    · rfl
theorem enabled_zero {p : Prg} {s : By} (hz : ∀ i, 42 ≤ i → i < 142 → s i = 0) {t : Nat} (ht : t < 4) (m : UInt8) : enabledM p m s t = mayP p s t := by
  unfold enabledM mayP nextI
  cases hl : p.threads[t]? with
  | none => rfl
  | some l =>
    show (match l[(s (t * 9)).toNat]? with | some x => readyI x m s t | none => false) = decide ((s (t * 9)).toNat < l.length)
    cases hx : l[(s (t * 9)).toNat]? with
    | none =>
      rw [decide_eq_false]
      intro hlt
      rw [List.getElem?_eq_getElem hlt] at hx; cases hx
    | some x =>
      rw [decide_eq_true (List.getElem?_eq_some_iff.1 hx).1]
      exact ready_zero hz ht x m
theorem moves_sc {p : Prg} {s : By} (hz : ∀ i, 42 ≤ i → i < 142 → s i = 0) (m : UInt8) : ∀ n, n ≤ 4 → movesN p m s n = ((List.range n).filter (mayP p s)).map fun u => ⟨UInt8.ofNat u, false, 0⟩
  | 0, _ => rfl
  | n + 1, h => by
    rw [movesN, moves_sc hz m n (by omega), movesT, many_zero hz (by omega), enabled_zero hz (by omega), range_filter_succ]
    split
    · simp [drains]
    · simp [drains]
theorem mem_exec {p : Prg} {m : UInt8} {s : By} {t : Nat} (h : enabledM p m s t = true) : ∀ n, t < n → (⟨UInt8.ofNat t, false, 0⟩ : Pss) ∈ movesN p m s n
  | 0, h => absurd h (by omega)
  | n + 1, hn => by
    rw [movesN]
    rcases Nat.lt_or_ge t n with h1 | h1
    · exact List.mem_append.2 (.inl (mem_exec h n h1))
    · obtain rfl : t = n := by omega
      refine List.mem_append.2 (.inr ?_)
      unfold movesT
      rw [if_pos h]
      simp
theorem mem_drain0 {p : Prg} {m : UInt8} {s : By} {t : Nat} (h : 0 < manyB s t) : ∀ n, t < n → drainAt m s t 0 ∈ movesN p m s n
  | 0, h => absurd h (by omega)
  | n + 1, hn => by
    rw [movesN]
    rcases Nat.lt_or_ge t n with h1 | h1
    · exact List.mem_append.2 (.inl (mem_drain0 h n h1))
    · obtain rfl : t = n := by omega
      refine List.mem_append.2 (.inr ?_)
      unfold movesT
      refine List.mem_append.2 (.inr ?_)
      have : ∀ k, 0 < k → drainAt m s t 0 ∈ drains m s t k := by
        intro k hk
        induction k with
        | zero => omega
        | succ k ih =>
          rw [drains]
          rcases Nat.eq_zero_or_pos k with h0 | h0
          · subst h0; simp
          · split
            · exact List.mem_append.2 (.inl (ih h0))
            · exact ih h0
      exact this _ h
end Go.Proofs.YtbgnapmaimkpkaaGreatDoor
