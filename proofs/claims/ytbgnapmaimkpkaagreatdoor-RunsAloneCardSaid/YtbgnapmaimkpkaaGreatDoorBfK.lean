/-
  Plain Lean: moves without store buffers, on the machines that have them. Conditions: none.
-/
import Derived.Test.YtbgnapmaimkpkaaGreatDoorBfV
set_option linter.unusedSimpArgs false
set_option linter.unusedVariables false
namespace Go.Proofs.YtbgnapmaimkpkaaGreatDoor

structure PlainOf (p : Prg) (m : UInt8) (s : By) (t : Nat) : Prop where
  r : RightM p m s
  z : ∀ i, 42 ≤ i → i < 142 → s i = 0
  t4 : t < 4
  tl : t < p.threads.length
  mem : (⟨UInt8.ofNat t, false, 0⟩ : Pss) ∈ movesM p m s
  instr : ∃ l x, ExecOf p m s t l x ∧ nextI p s t = some x ∧ stepM p m s ⟨UInt8.ofNat t, false, 0⟩ = execP m x s t ∧ stepP p s t = moveP x s t
theorem plainOf {p : Prg} {m : UInt8} {s : By} {t : Nat} (h : rightS p s = true) (hm : knownM m = true) (ht : t ∈ enabledP p s) : PlainOf p m s t := by
  obtain ⟨hr, hz⟩ := rightM_of h hm
  have htl : t < p.threads.length := List.mem_range.1 (List.mem_filter.1 ht).1
  have hmay := (List.mem_filter.1 ht).2
  have ht4 : t < 4 := by have := (valid hr.prog).thr4; omega
  have hen : enabledM p m s t = true := by rw [enabled_zero hz ht4]; exact hmay
  obtain ⟨l, x, hE, hn⟩ := execOf hr htl hen
  refine ⟨hr, hz, ht4, htl, mem_exec hen _ htl, l, x, hE, hn, ?_, ?_⟩
  · unfold stepM
    rw [if_neg (by simp)]
    show (match nextI p s (UInt8.ofNat t).toNat with | some i => execP m i s (UInt8.ofNat t).toNat | none => s) = _
    rw [ofNat_to ht4, hn]
  · exact stepP_at hE.hl hE.hx
theorem hasP_loadM {x : Ins} {t : By} {v : UInt8} (h : x.op = 1) : hasP x t v = v := by
  unfold hasP
  rw [if_neg (by rw [h]; decide), if_neg (by rw [h]; decide), if_neg (by rw [h]; decide)]
theorem exec_plain {p : Prg} {m : UInt8} {s : By} {t : Nat} {l : List Ins} {x : Ins} (h : ExecOf p m s t l x) (hz : ∀ i, 42 ≤ i → i < 142 → s i = 0) (hb : ¬ buffers m x) (i : Nat) : execP m x s t i = moveP x s t i := by
  rw [h.val, moveP_at]
  by_cases hi : t * 9 ≤ i ∧ i < t * 9 + 9
  · rw [if_pos hi, if_pos hi]
    unfold execT thrP
    by_cases h1 : x.op = 1
    · rw [if_pos h1, seen_mem (many_zero hz h.t4), if_neg (by simp [isLocal, h1])]
    · rw [if_neg h1]
      by_cases h2 : x.op = 2
      · rw [if_pos h2, if_neg (by simp [isLocal, h2])]
        unfold farP
        rw [if_pos h2]
        rfl
      · rw [if_neg h2]
        by_cases h4 : x.op = 4 ∨ x.op = 5 ∨ x.op = 6
        · rw [if_pos h4, if_neg (by rcases h4 with h | h | h <;> simp [isLocal, h])]
        · rw [if_neg h4, if_pos]
          rcases h.op with h | h | h | h | h | h | h | h
          · exact absurd h h1
          · exact absurd h h2
          · simp [isLocal, h]
          · exact absurd (.inl h) h4
          · exact absurd (.inr (.inl h)) h4
          · exact absurd (.inr (.inr h)) h4
          · simp [isLocal, h]
          · simp [isLocal, h]
  · rw [if_neg hi, if_neg hi, if_neg hb]
    by_cases hw : writesM m x
    · have hL := h.notLocal (.inl hw)
      by_cases e : i = 36 + x.loc.toNat
      · rw [if_pos ⟨hw, e⟩, if_pos ⟨hL, e⟩]
      · rw [if_neg (fun hh => e hh.2), if_neg (fun hh => e hh.2)]
    · rw [if_neg (fun hh => hw hh.1)]
      by_cases e : isLocal x = false ∧ i = 36 + x.loc.toNat
      · rw [if_pos e]
        have h1 : x.op = 1 := by
          rcases h.op with h | h | h | h | h | h | h | h
          · exact h
          · by_cases h3 : m = 1
            · exact absurd (.inl ⟨h, h3⟩) hw
            · exact absurd ⟨h, h3⟩ hb
          · simp [isLocal, h] at e
          · exact absurd (.inr (.inl h)) hw
          · exact absurd (.inr (.inr (.inl h))) hw
          · exact absurd (.inr (.inr (.inr h))) hw
          · simp [isLocal, h] at e
          · simp [isLocal, h] at e
        rw [hasP_loadM h1, e.2]
      · rw [if_neg e]
theorem exec_drain {p : Prg} {m : UInt8} {s : By} {t : Nat} {l : List Ins} {x : Ins} (h : ExecOf p m s t l x) (hz : ∀ i, 42 ≤ i → i < 142 → s i = 0) (hb : buffers m x) :
    manyB (execP m x s t) t = 1 ∧ bLoc (execP m x s t) t 0 = x.loc ∧ ∀ i, i < 142 → drainR (execP m x s t) t 0 i = moveP x s t i := by
  have hm0 := many_zero hz h.t4
  have ht := h.t4
  have ha0 : addAt m s t x.loc (manyB s t) = 0 := by rw [hm0]; rfl
  obtain ⟨h1, h2⟩ := h.adds hb t
  have hmany : manyB (execP m x s t) t = 1 := by
    rw [h1]
    have := add_many (st := stP x.loc (valA x (cut s (t * 9)))) (addAt_le (m := m) (s := s) (t := t) (loc := x.loc) (manyB s t)) h.room
    exact this.trans (by rw [hm0])
  have hloc : bLoc (execP m x s t) t 0 = x.loc := by
    rw [(h2 0).1]
    unfold addP
    rw [add_loc (addAt_le _) h.room ht (by omega), if_pos (by rw [show stP x.loc (valA x (cut s (t * 9))) 0 = x.loc from rfl, ha0])]
    rfl
  have hval : bVal (execP m x s t) t 0 = valA x (cut s (t * 9)) := by
    rw [(h2 0).2]
    unfold addP
    rw [add_val (addAt_le _) h.room ht (by omega), if_pos (by rw [show stP x.loc (valA x (cut s (t * 9))) 0 = x.loc from rfl, ha0])]
    rfl
  refine ⟨hmany, hloc, fun i hi => ?_⟩
  have hl6 := h.loc6 (h.notLocal (.inr hb))
  have hL := h.notLocal (.inr hb)
  rw [drainR_at _ _ _ (by rw [hmany]; omega), hloc, hval, hmany, moveP_at]
  by_cases e1 : i = 36 + x.loc.toNat
  · rw [if_pos e1, if_neg (by omega), if_pos ⟨hL, e1⟩]
    unfold hasP
    rw [if_pos (.inl hb.1)]
  · have hne : ¬ (isLocal x = false ∧ i = 36 + x.loc.toNat) := fun hh => e1 hh.2
    rw [if_neg e1]
    by_cases e2 : i = 138 + t
    · have hm1 : (execP m x s t (138 + t)).toNat = 1 := hmany
      rw [if_pos e2, if_neg (by omega), if_neg hne, e2, hz _ (by omega) (by omega)]
      rw [show execP m x s t (138 + t) = 1 from UInt8.toNat_inj.1 hm1]
      rfl
    · rw [if_neg e2]
      by_cases e3 : 42 + t * 24 + (1 - 1) * 2 ≤ i ∧ i < 42 + t * 24 + 1 * 2
      · rw [if_pos e3, if_neg (by omega), if_neg hne, hz _ (by omega) (by omega)]
      · rw [if_neg e3, if_neg (by omega)]
        by_cases e4 : t * 9 ≤ i ∧ i < t * 9 + 9
        · rw [h.val, if_pos e4, if_pos e4]
          unfold execT thrP
          rw [if_neg (by rw [hb.1]; decide), if_pos hb.1, if_neg (by rw [hL]; simp)]
          unfold farP
          rw [if_pos hb.1]
          rfl
        · rw [if_neg e4, if_neg hne]
          rcases Nat.lt_or_ge i 42 with h42 | h42
          · rw [h.low h42, if_neg e4, if_neg (fun hh => e1 hh.2)]
          · rw [h.high h42, if_pos hb, hz i h42 hi]
            unfold addP
            rw [show stP x.loc (valA x (cut s (t * 9))) 0 = x.loc from rfl, ha0, addR_at _ _ _ _ (Nat.zero_le _), if_neg e2, if_neg (by omega), if_neg (by omega)]
            exact hz i h42 hi
end Go.Proofs.YtbgnapmaimkpkaaGreatDoor
