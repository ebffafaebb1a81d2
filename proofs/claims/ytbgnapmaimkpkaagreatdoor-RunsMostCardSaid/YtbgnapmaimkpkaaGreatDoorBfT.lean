/-
  Plain Lean: a move of a machine with store buffers leads from a valid state to a valid one, and there is less left to do: last part; runs. Conditions: none.
-/
import Derived.Test.YtbgnapmaimkpkaaGreatDoorBfS
set_option linter.unusedSimpArgs false
set_option linter.unusedVariables false
namespace Go.Proofs.YtbgnapmaimkpkaaGreatDoor

section
variable {p : Prg} {m : UInt8} {s : By} {t : Nat} {l : List Ins} {x : Ins}
theorem add_slots (h : ExecOf p m s t l x) (hb : buffers m x) (v : UInt8) : ∀ i, i < 12 → slotOk p m (addP m s t (stP x.loc v)) t i = true := by
  have hn := h.room
  have ht := h.t4
  have ha := addAt_le (m := m) (s := s) (t := t) (loc := x.loc) (manyB s t)
  obtain ⟨a1, a2, a3⟩ := addAt_spec (m := m) (s := s) (t := t) (loc := x.loc) (manyB s t)
  have hll := h.loc (h.notLocal (.inr hb))
  have hs : ∀ i, i < 12 → _ := fun i hi => slot_iff.1 (h.r.slot ht hi)
  intro i hi
  rw [slot_iff]
  have hst : stP x.loc v 0 = x.loc := rfl
  unfold addP
  rw [hst]
  generalize hA : addAt m s t x.loc (manyB s t) = a at ha a1 a2 a3
  have hL : ∀ j, j < 12 → bLoc (addR s t a (stP x.loc v)) t j = if j = a then x.loc else if a < j ∧ j ≤ manyB s t then bLoc s t (j - 1) else bLoc s t j := fun j hj => add_loc ha hn ht hj
  rw [add_many ha hn]
  refine ⟨fun hmi => ?_, fun hil => ⟨?_, fun h3 h0 => ?_⟩⟩
  · rw [hL i hi, add_val ha hn ht hi, if_neg (by omega), if_neg (by omega), if_neg (by omega), if_neg (by omega)]
    exact (hs i hi).1 (by omega)
  · rw [hL i hi]
    by_cases e : i = a
    · rw [if_pos e]; exact hll
    · rw [if_neg e]
      by_cases e2 : a < i ∧ i ≤ manyB s t
      · rw [if_pos e2]; exact ((hs (i - 1) (by omega)).2 (by omega)).1
      · rw [if_neg e2]; exact ((hs i hi).2 (by omega)).1
  · rw [hL i hi, hL (i - 1) (by omega)]
    by_cases e : i = a
    · rw [if_pos e, if_neg (by omega), if_neg (by omega), e]
      exact a2 h3 (by omega)
    · rw [if_neg e]
      by_cases e2 : a < i ∧ i ≤ manyB s t
      · rw [if_pos e2]
        by_cases e3 : i - 1 = a
        · rw [if_pos e3]
          have := a1 h3 (i - 1) (by omega) (by omega)
          omega
        · rw [if_neg e3, if_pos (by omega)]
          exact ((hs (i - 1) (by omega)).2 (by omega)).2 h3 (by omega)
      · rw [if_neg e2, if_neg (by omega), if_neg (by omega)]
        exact ((hs i hi).2 (by omega)).2 h3 h0
theorem ExecOf.right (h : ExecOf p m s t l x) : RightM p m (execP m x s t) := by
  have ht := h.t4
  have hpc := h.pc
  refine ⟨h.r.known, bare_ok h.r.prog (fun u hu => ?_) (fun k hk => ?_), fun u hu => ?_⟩
  · by_cases hut : u = t
    · subst hut
      rw [threadSt_some h.hl]
      exact decide_eq_true hpc.2
    · exact threadSt_same (fun k hk => h.other hu hut hk) (h.r.thread hu)
  · have h1 := h.r.mem hk
    unfold memSt at h1 ⊢
    by_cases hkl : k < p.locs.length
    · rw [decide_eq_true hkl, Bool.true_or]
    · rw [decide_eq_false hkl, Bool.false_or] at h1 ⊢
      rw [h.mem hk, if_neg]
      · exact h1
      · rintro ⟨hw, e⟩
        have := h.loc (h.notLocal (.inl hw))
        omega
  · by_cases hut : u = t
    · subst hut
      by_cases hb : buffers m x
      · obtain ⟨h1, h2⟩ := h.adds hb u
        rw [fits_iff]
        have hmany := add_many (st := stP x.loc (valA x (cut s (u * 9)))) (addAt_le (m := m) (s := s) (t := u) (loc := x.loc) (manyB s u)) h.room
        have hmost := h.r.most ht
        have hlt := (List.getElem?_eq_some_iff.1 h.hl).1
        refine ⟨?_, fun i hi => ?_⟩
        · rw [h1]
          show manyB (addR s u (addAt m s u x.loc (manyB s u)) _) u ≤ _
          rw [hmany]
          unfold mostB at hmost ⊢
          rw [if_pos ⟨hb.2, hlt⟩] at hmost ⊢
          have := hpc.1
          unfold pcP at this
          omega
        · have h3 := add_slots h hb (valA x (cut s (u * 9))) i hi
          rw [slot_iff] at h3 ⊢
          rw [h1, (h2 i).1, (h2 i).2, (h2 (i - 1)).1]
          exact h3
      · obtain ⟨h1, h2⟩ := h.still hb u
        exact fits_same h1 (fun i _ => h2 i) (most_pc (Nat.le_of_lt hpc.1)) (h.r.fits u hu)
    · obtain ⟨h1, h2⟩ := h.far hu hut
      exact fits_same h1 h2 (most_pc (Nat.le_of_eq (h.pcOther hu hut).symm)) (h.r.fits u hu)
theorem ExecOf.many (h : ExecOf p m s t l x) : manyB (execP m x s t) t ≤ manyB s t + 1 := by
  by_cases hb : buffers m x
  · have hmany := add_many (st := stP x.loc (valA x (cut s (t * 9)))) (addAt_le (m := m) (s := s) (t := t) (loc := x.loc) (manyB s t)) h.room
    rw [(h.adds hb t).1]
    exact Nat.le_of_eq hmany
  · rw [(h.still hb t).1]
    omega
theorem ExecOf.nu (h : ExecOf p m s t l x) : nu p (execP m x s t) < nu p s := by
  have h1 := h.pc
  have h2 := h.lt
  have h3 := lenP_at h.hl
  have h4 := h.t4
  have h5 := h.many
  have q : ∀ u, u < 4 → u ≠ t → pcP (execP m x s t) u = pcP s u := fun u hu hne => h.pcOther hu hne
  have r : ∀ u, u < 4 → u ≠ t → manyB (execP m x s t) u = manyB s u := fun u hu hne => (h.far hu hne).1
  unfold Go.Proofs.YtbgnapmaimkpkaaGreatDoor.nu Go.Proofs.YtbgnapmaimkpkaaGreatDoor.mu
  rcases (by omega : t = 0 ∨ t = 1 ∨ t = 2 ∨ t = 3) with rfl | rfl | rfl | rfl
  · rw [q 1 (by omega) (by omega), q 2 (by omega) (by omega), q 3 (by omega) (by omega), r 1 (by omega) (by omega), r 2 (by omega) (by omega), r 3 (by omega) (by omega)]; omega
  · rw [q 0 (by omega) (by omega), q 2 (by omega) (by omega), q 3 (by omega) (by omega), r 0 (by omega) (by omega), r 2 (by omega) (by omega), r 3 (by omega) (by omega)]; omega
  · rw [q 0 (by omega) (by omega), q 1 (by omega) (by omega), q 3 (by omega) (by omega), r 0 (by omega) (by omega), r 1 (by omega) (by omega), r 3 (by omega) (by omega)]; omega
  · rw [q 0 (by omega) (by omega), q 1 (by omega) (by omega), q 2 (by omega) (by omega), r 0 (by omega) (by omega), r 1 (by omega) (by omega), r 2 (by omega) (by omega)]; omega
end
/-- A store of a valid state is drained. -/
structure DrainOf (p : Prg) (m : UInt8) (s : By) (t a : Nat) : Prop where
  r : RightM p m s
  t4 : t < 4
  lt : a < manyB s t
  fst : ∀ i, i < a → m = 3 ∧ bLoc s t i ≠ bLoc s t a
theorem drainI_spec {m : UInt8} {s : By} {t : Nat} {loc : UInt8} : ∀ (f i : Nat), (m = 3 → ∃ j, i ≤ j ∧ j < i + f ∧ bLoc s t j = loc) → (m ≠ 3 → 0 < f) → i ≤ drainN m s t loc f i ∧ drainN m s t loc f i < i + f ∧ (m = 3 → bLoc s t (drainN m s t loc f i) = loc) ∧ (∀ j, i ≤ j → j < drainN m s t loc f i → m = 3 ∧ bLoc s t j ≠ loc)
  | 0, i, h1, h2 => by
    by_cases hm : m = 3
    · obtain ⟨j, _, _, _⟩ := h1 hm
      omega
    · exact absurd (h2 hm) (by omega)
  | f + 1, i, h1, h2 => by
    rw [drainN]
    split
    · rename_i hc
      obtain ⟨q1, q2, q3, q4⟩ := drainI_spec (m := m) (s := s) (t := t) (loc := loc) f (i + 1) (fun hm => by
        obtain ⟨j, j1, j2, j3⟩ := h1 hm
        rcases Nat.eq_or_lt_of_le j1 with e | e
        · subst e; exact absurd j3 hc.2
        · exact ⟨j, e, by omega, j3⟩) (fun hm => absurd hc.1 hm)
      refine ⟨by omega, by omega, q3, fun j hj1 hj2 => ?_⟩
      rcases Nat.eq_or_lt_of_le hj1 with e | e
      · subst e; exact hc
      · exact q4 j e hj2
    · rename_i hc
      exact ⟨Nat.le_refl _, by omega, fun hm => Decidable.not_not.1 fun hn => hc ⟨hm, hn⟩, fun j hj1 hj2 => absurd hj1 (by omega)⟩
theorem drainOf {p : Prg} {m : UInt8} {s : By} {t i : Nat} (hr : RightM p m s) (ht : t < 4) (hi : i < manyB s t) : DrainOf p m s t (drainI m s t (drainAt m s t i).l) ∧ (m = 3 → bLoc s t (drainI m s t (drainAt m s t i).l) = bLoc s t i) := by
  have hl : m = 3 → (drainAt m s t i).l = bLoc s t i := fun h => if_pos h
  obtain ⟨h1, h2, h3, h4⟩ := drainI_spec (m := m) (s := s) (t := t) (loc := (drainAt m s t i).l) (manyB s t) 0 (fun h => ⟨i, by omega, by omega, (hl h).symm⟩) (fun _ => by omega)
  refine ⟨⟨hr, ht, by unfold drainI; omega, fun j hj => ?_⟩, fun h => (h3 h).trans (hl h)⟩
  obtain ⟨h5, h6⟩ := h4 j (by omega) hj
  exact ⟨h5, fun e => h6 (e.trans (h3 h5))⟩
section
variable {p : Prg} {m : UInt8} {s : By} {t a : Nat}
theorem DrainOf.n12 (h : DrainOf p m s t a) : manyB s t ≤ 12 := (h.r.many h.t4).1
theorem DrainOf.loc (h : DrainOf p m s t a) : (bLoc s t a).toNat < p.locs.length := h.r.loc h.t4 h.lt
theorem DrainOf.loc6 (h : DrainOf p m s t a) : (bLoc s t a).toNat < 6 := by have := h.loc; have := (valid h.r.prog).locs6; omega
theorem DrainOf.low (h : DrainOf p m s t a) {i : Nat} (hi : i < 36) : drainR s t a i = s i := drain_low h.lt hi
theorem DrainOf.pc (h : DrainOf p m s t a) {u : Nat} (hu : u < 4) : pcP (drainR s t a) u = pcP s u := by unfold pcP; rw [h.low (by omega)]
theorem DrainOf.right (h : DrainOf p m s t a) : RightM p m (drainR s t a) := by
  have ht := h.t4
  have hn := h.n12
  have hlt := h.lt
  have hl6 := h.loc6
  refine ⟨h.r.known, bare_ok h.r.prog (fun u hu => threadSt_same (fun k hk => h.low (by omega)) (h.r.thread hu)) (fun k hk => ?_), fun u hu => ?_⟩
  · have h1 := h.r.mem hk
    unfold memSt at h1 ⊢
    by_cases hkl : k < p.locs.length
    · rw [decide_eq_true hkl, Bool.true_or]
    · rw [decide_eq_false hkl, Bool.false_or] at h1 ⊢
      rw [drain_mem hlt hk, if_neg (by have := h.loc; omega)]
      exact h1
  · by_cases hut : u = t
    · subst hut
      rw [fits_iff]
      have hs : ∀ i, i < 12 → _ := fun i hi => slot_iff.1 (h.r.slot ht hi)
      have hL : ∀ j, j < 12 → _ := fun j hj => drain_loc hlt hl6 hn ht hj
      refine ⟨?_, fun i hi => ?_⟩
      · rw [drain_many hlt hl6]
        have h1 := h.r.most ht
        have h2 := most_pc (p := p) (m := m) (Nat.le_of_eq (h.pc hu).symm)
        omega
      · rw [slot_iff, drain_many hlt hl6]
        refine ⟨fun hmi => ?_, fun hil => ⟨?_, fun h3 h0 => ?_⟩⟩
        · rw [hL i hi, drain_val hlt hl6 hn ht hi]
          by_cases e : i + 1 = manyB s u
          · rw [if_pos e, if_pos e]; exact ⟨rfl, rfl⟩
          · rw [if_neg e, if_neg e, if_neg (by omega), if_neg (by omega)]
            exact (hs i hi).1 (by omega)
        · rw [hL i hi, if_neg (by omega)]
          by_cases e2 : a ≤ i ∧ i + 1 < manyB s u
          · rw [if_pos e2]; exact ((hs (i + 1) (by omega)).2 (by omega)).1
          · rw [if_neg e2]; exact ((hs i hi).2 (by omega)).1
        · have e1 : ¬ i + 1 = manyB s u := by omega
          have e1' : ¬ i - 1 + 1 = manyB s u := by omega
          rw [hL i hi, hL (i - 1) (by omega), if_neg e1, if_neg e1']
          by_cases e2 : a ≤ i ∧ i + 1 < manyB s u
          · rw [if_pos e2]
            have k1 := ((hs (i + 1) (by omega)).2 (by omega)).2 h3 (by omega)
            rw [show i + 1 - 1 = i by omega] at k1
            by_cases e3 : a ≤ i - 1 ∧ i - 1 + 1 < manyB s u
            · rw [if_pos e3, show i - 1 + 1 = i by omega]; exact k1
            · rw [if_neg e3]
              have k2 := ((hs i hi).2 (by omega)).2 h3 h0
              omega
          · rw [if_neg e2, if_neg (by omega)]
            exact ((hs i hi).2 (by omega)).2 h3 h0
    · obtain ⟨h1, h2⟩ := drain_far hlt hl6 hn ht hu hut
      exact fits_same h1 h2 (most_pc (Nat.le_of_eq (h.pc hu).symm)) (h.r.fits u hu)
theorem DrainOf.nu (h : DrainOf p m s t a) : nu p (drainR s t a) < nu p s := by
  have ht := h.t4
  have hlt := h.lt
  have hm := drain_many hlt h.loc6
  have q : ∀ u, u < 4 → pcP (drainR s t a) u = pcP s u := fun u hu => h.pc hu
  have r : ∀ u, u < 4 → u ≠ t → manyB (drainR s t a) u = manyB s u := fun u hu hne => (drain_far hlt h.loc6 h.n12 ht hu hne).1
  unfold Go.Proofs.YtbgnapmaimkpkaaGreatDoor.nu Go.Proofs.YtbgnapmaimkpkaaGreatDoor.mu
  rw [q 0 (by omega), q 1 (by omega), q 2 (by omega), q 3 (by omega)]
  rcases (by omega : t = 0 ∨ t = 1 ∨ t = 2 ∨ t = 3) with rfl | rfl | rfl | rfl
  · rw [r 1 (by omega) (by omega), r 2 (by omega) (by omega), r 3 (by omega) (by omega)]; omega
  · rw [r 0 (by omega) (by omega), r 2 (by omega) (by omega), r 3 (by omega) (by omega)]; omega
  · rw [r 0 (by omega) (by omega), r 1 (by omega) (by omega), r 3 (by omega) (by omega)]; omega
  · rw [r 0 (by omega) (by omega), r 1 (by omega) (by omega), r 2 (by omega) (by omega)]; omega
end
/-- A move: an execution or a drain. -/
inductive Went (p : Prg) (m : UInt8) (s : By) : Pss → By → Prop
  | exec {t : Nat} {l : List Ins} {x : Ins} : ExecOf p m s t l x → nextI p s t = some x → Went p m s ⟨UInt8.ofNat t, false, 0⟩ (execP m x s t)
  | drain {t i : Nat} : DrainOf p m s t (drainI m s t (drainAt m s t i).l) → i < manyB s t → (m = 3 → bLoc s t (drainI m s t (drainAt m s t i).l) = bLoc s t i) → Went p m s (drainAt m s t i) (drainR s t (drainI m s t (drainAt m s t i).l))
theorem went {p : Prg} {m : UInt8} {s : By} {x : Pss} (hr : RightM p m s) (hx : x ∈ movesM p m s) : Went p m s x (stepM p m s x) := by
  have hV4 := (valid hr.prog).thr4
  obtain ⟨t, htl, hmv⟩ := mem_movesN hx
  have ht4 : t < 4 := by omega
  have hto := ofNat_to ht4
  rcases hmv with ⟨rfl, hen⟩ | ⟨i, hi, rfl⟩
  · obtain ⟨l, ix, hE, hn⟩ := execOf hr htl hen
    have e : stepM p m s ⟨UInt8.ofNat t, false, 0⟩ = execP m ix s t := by
      unfold stepM
      rw [if_neg (by simp)]
      show (match nextI p s (UInt8.ofNat t).toNat with | some i => execP m i s (UInt8.ofNat t).toNat | none => s) = _
      rw [hto, hn]
    rw [e]
    exact .exec hE hn
  · obtain ⟨h1, h2⟩ := drainOf hr ht4 hi
    have e : stepM p m s (drainAt m s t i) = drainR s t (drainI m s t (drainAt m s t i).l) := by
      unfold stepM
      rw [if_pos (show (drainAt m s t i).d = true from rfl)]
      show drainP m s (UInt8.ofNat t).toNat _ = _
      rw [hto]
      rfl
    rw [e]
    exact .drain h1 hi h2
theorem Went.right {p : Prg} {m : UInt8} {s z : By} {x : Pss} (h : Went p m s x z) : RightM p m z := by
  cases h with
  | exec h _ => exact h.right
  | drain h _ _ => exact h.right
theorem Went.nu {p : Prg} {m : UInt8} {s z : By} {x : Pss} (h : Went p m s x z) : nu p z < nu p s := by
  cases h with
  | exec h _ => exact h.nu
  | drain h _ _ => exact h.nu
end Go.Proofs.YtbgnapmaimkpkaaGreatDoor
