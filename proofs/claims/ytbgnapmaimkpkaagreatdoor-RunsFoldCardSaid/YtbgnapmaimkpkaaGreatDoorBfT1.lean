/-
  Plain Lean: a move of a machine with store buffers leads from a valid state to a valid one, and there is less left to do. Conditions: none.
-/
import Derived.Test.YtbgnapmaimkpkaaGreatDoorBfF
set_option linter.unusedSimpArgs false
set_option linter.unusedVariables false
namespace Go.Proofs.YtbgnapmaimkpkaaGreatDoor
-- BfQ
theorem addR_at (s : By) (t a : Nat) (st : By) (ha : a ≤ manyB s t) (i : Nat) : addR s t a st i = if i = 138 + t then s (138 + t) + 1 else if 42 + t * 24 + a * 2 ≤ i ∧ i < 42 + t * 24 + a * 2 + 2 then st (i - (42 + t * 24 + a * 2))
    else if 42 + t * 24 + (a + 1) * 2 ≤ i ∧ i < 42 + t * 24 + (manyB s t + 1) * 2 then s (i - 2) else s i := by
  unfold addR put
  split
  · rfl
  · unfold lay cut
    split
    · rfl
    · by_cases h : 42 + t * 24 + (a + 1) * 2 ≤ i ∧ i < 42 + t * 24 + (manyB s t + 1) * 2
      · rw [if_pos h, if_pos (by omega)]
        congr 1
        omega
      · rw [if_neg h, if_neg (by omega)]
theorem drainR_at (s : By) (t a : Nat) (ha : a < manyB s t) (i : Nat) : drainR s t a i = if i = 36 + (bLoc s t a).toNat then bVal s t a else if i = 138 + t then s (138 + t) - 1
    else if 42 + t * 24 + (manyB s t - 1) * 2 ≤ i ∧ i < 42 + t * 24 + manyB s t * 2 then 0
    else if 42 + t * 24 + a * 2 ≤ i ∧ i < 42 + t * 24 + (manyB s t - 1) * 2 then s (i + 2) else s i := by
  unfold drainR put
  split
  · rfl
  · split
    · rfl
    · unfold lay cut zb
      by_cases h : 42 + t * 24 + (manyB s t - 1) * 2 ≤ i ∧ i < 42 + t * 24 + manyB s t * 2
      · rw [if_pos h, if_pos (by omega)]
      · rw [if_neg h, if_neg (by omega)]
        by_cases h2 : 42 + t * 24 + a * 2 ≤ i ∧ i < 42 + t * 24 + (manyB s t - 1) * 2
        · rw [if_pos h2, if_pos (by omega)]
          congr 1
          omega
        · rw [if_neg h2, if_neg (by omega)]
section
variable {s st : By} {t a : Nat}
theorem add_low (ha : a ≤ manyB s t) {i : Nat} (hi : i < 42) : addR s t a st i = s i := by
  rw [addR_at s t a st ha, if_neg (by omega), if_neg (by omega), if_neg (by omega)]
theorem add_many (ha : a ≤ manyB s t) (hn : manyB s t ≤ 11) : manyB (addR s t a st) t = manyB s t + 1 := by
  unfold manyB at hn ⊢
  rw [addR_at s t a st ha, if_pos rfl, UInt8.toNat_add]
  have h1 : (1 : UInt8).toNat = 1 := rfl
  omega
theorem add_far (ha : a ≤ manyB s t) (hn : manyB s t ≤ 11) (ht : t < 4) {u : Nat} (hu : u < 4) (hne : u ≠ t) : manyB (addR s t a st) u = manyB s u ∧ ∀ i, i < 12 → bLoc (addR s t a st) u i = bLoc s u i ∧ bVal (addR s t a st) u i = bVal s u i := by
  refine ⟨?_, fun i hi => ⟨?_, ?_⟩⟩
  · unfold manyB
    rw [addR_at s t a st ha, if_neg (by omega), if_neg (by omega), if_neg (by omega)]
  · unfold bLoc
    rw [addR_at s t a st ha, if_neg (by omega), if_neg (by omega), if_neg (by omega)]
  · unfold bVal
    rw [addR_at s t a st ha, if_neg (by omega), if_neg (by omega), if_neg (by omega)]
theorem add_loc (ha : a ≤ manyB s t) (hn : manyB s t ≤ 11) (ht : t < 4) {i : Nat} (hi : i < 12) : bLoc (addR s t a st) t i = if i = a then st 0 else if a < i ∧ i ≤ manyB s t then bLoc s t (i - 1) else bLoc s t i := by
  unfold bLoc
  rw [addR_at s t a st ha, if_neg (by omega)]
  by_cases h : i = a
  · rw [if_pos (by omega), if_pos h]; congr 1; omega
  · rw [if_neg (by omega), if_neg h]
    by_cases h2 : a < i ∧ i ≤ manyB s t
    · rw [if_pos (by omega), if_pos h2]; congr 1; omega
    · rw [if_neg (by omega), if_neg h2]
theorem add_val (ha : a ≤ manyB s t) (hn : manyB s t ≤ 11) (ht : t < 4) {i : Nat} (hi : i < 12) : bVal (addR s t a st) t i = if i = a then st 1 else if a < i ∧ i ≤ manyB s t then bVal s t (i - 1) else bVal s t i := by
  unfold bVal
  rw [addR_at s t a st ha, if_neg (by omega)]
  by_cases h : i = a
  · rw [if_pos (by omega), if_pos h]; congr 1; omega
  · rw [if_neg (by omega), if_neg h]
    by_cases h2 : a < i ∧ i ≤ manyB s t
    · rw [if_pos (by omega), if_pos h2]; congr 1; omega
    · rw [if_neg (by omega), if_neg h2]
theorem drain_low (ha : a < manyB s t) {i : Nat} (hi : i < 36) : drainR s t a i = s i := by
  rw [drainR_at s t a ha, if_neg (by omega), if_neg (by omega), if_neg (by omega), if_neg (by omega)]
theorem drain_mem (ha : a < manyB s t) {k : Nat} (hk : k < 6) : drainR s t a (36 + k) = if k = (bLoc s t a).toNat then bVal s t a else s (36 + k) := by
  rw [drainR_at s t a ha]
  by_cases h : k = (bLoc s t a).toNat
  · rw [if_pos (by omega), if_pos h]
  · rw [if_neg (by omega), if_neg h, if_neg (by omega), if_neg (by omega), if_neg (by omega)]
theorem drain_many (ha : a < manyB s t) (hl : (bLoc s t a).toNat < 6) : manyB (drainR s t a) t = manyB s t - 1 := by
  unfold manyB at ha ⊢
  rw [drainR_at s t a ha, if_neg (by omega), if_pos rfl, UInt8.toNat_sub_of_le _ _ (UInt8.le_iff_toNat_le.2 (by have h1 : (1 : UInt8).toNat = 1 := rfl; omega))]
  rfl
theorem drain_far (ha : a < manyB s t) (hl : (bLoc s t a).toNat < 6) (hn : manyB s t ≤ 12) (ht : t < 4) {u : Nat} (hu : u < 4) (hne : u ≠ t) : manyB (drainR s t a) u = manyB s u ∧ ∀ i, i < 12 → bLoc (drainR s t a) u i = bLoc s u i ∧ bVal (drainR s t a) u i = bVal s u i := by
  refine ⟨?_, fun i hi => ⟨?_, ?_⟩⟩
  · unfold manyB
    rw [drainR_at s t a ha, if_neg (by omega), if_neg (by omega), if_neg (by omega), if_neg (by omega)]
  · show drainR s t a (42 + u * 24 + i * 2) = _
    rw [drainR_at s t a ha, if_neg (by omega), if_neg (by omega), if_neg (by omega), if_neg (by omega)]
    rfl
  · show drainR s t a (42 + u * 24 + i * 2 + 1) = _
    rw [drainR_at s t a ha, if_neg (by omega), if_neg (by omega), if_neg (by omega), if_neg (by omega)]
    rfl
theorem drain_loc (ha : a < manyB s t) (hl : (bLoc s t a).toNat < 6) (hn : manyB s t ≤ 12) (ht : t < 4) {i : Nat} (hi : i < 12) : bLoc (drainR s t a) t i = if i + 1 = manyB s t then 0 else if a ≤ i ∧ i + 1 < manyB s t then bLoc s t (i + 1) else bLoc s t i := by
  show drainR s t a (42 + t * 24 + i * 2) = _
  rw [drainR_at s t a ha, if_neg (by omega), if_neg (by omega)]
  by_cases h : i + 1 = manyB s t
  · rw [if_pos (by omega), if_pos h]
  · rw [if_neg (by omega), if_neg h]
    by_cases h2 : a ≤ i ∧ i + 1 < manyB s t
    · rw [if_pos (by omega), if_pos h2]
      show s _ = s _
      congr 1; omega
    · rw [if_neg (by omega), if_neg h2]; rfl
theorem drain_val (ha : a < manyB s t) (hl : (bLoc s t a).toNat < 6) (hn : manyB s t ≤ 12) (ht : t < 4) {i : Nat} (hi : i < 12) : bVal (drainR s t a) t i = if i + 1 = manyB s t then 0 else if a ≤ i ∧ i + 1 < manyB s t then bVal s t (i + 1) else bVal s t i := by
  show drainR s t a (42 + t * 24 + i * 2 + 1) = _
  rw [drainR_at s t a ha, if_neg (by omega), if_neg (by omega)]
  by_cases h : i + 1 = manyB s t
  · rw [if_pos (by omega), if_pos h]
  · rw [if_neg (by omega), if_neg h]
    by_cases h2 : a ≤ i ∧ i + 1 < manyB s t
    · rw [if_pos (by omega), if_pos h2]
      show s _ = s _
      congr 1; omega
    · rw [if_neg (by omega), if_neg h2]; rfl
end
-- BfR
def execT (x : Ins) (s : By) (t : Nat) : By :=
  if x.op = 1 then farP x (cut s (t * 9)) (seenP s t x.loc) else if x.op = 2 then put (cut s (t * 9)) 0 (s (t * 9) + 1)
  else if x.op = 4 ∨ x.op = 5 ∨ x.op = 6 then farP x (cut s (t * 9)) (s (36 + x.loc.toNat)) else localP x (cut s (t * 9))
def writesM (m : UInt8) (x : Ins) : Prop := (x.op = 2 ∧ m = 1) ∨ x.op = 4 ∨ x.op = 5 ∨ x.op = 6
instance (m : UInt8) (x : Ins) : Decidable (writesM m x) := by unfold writesM; infer_instance
def buffers (m : UInt8) (x : Ins) : Prop := x.op = 2 ∧ m ≠ 1
instance (m : UInt8) (x : Ins) : Decidable (buffers m x) := by unfold buffers; infer_instance
theorem exec_val {m : UInt8} {x : Ins} {s : By} {t : Nat} (ht : t < 4) (hloc : isLocal x = false → x.loc.toNat < 6) (hop : x.op = 1 ∨ x.op = 2 ∨ x.op = 3 ∨ x.op = 4 ∨ x.op = 5 ∨ x.op = 6 ∨ x.op = 7 ∨ x.op = 8) (i : Nat) :
    execP m x s t i = if t * 9 ≤ i ∧ i < t * 9 + 9 then execT x s t (i - t * 9) else if writesM m x ∧ i = 36 + x.loc.toNat then hasP x (cut s (t * 9)) (s (36 + x.loc.toNat))
      else if buffers m x then addP m s t (stP x.loc (valA x (cut s (t * 9)))) i else s i := by
  by_cases h1 : x.op = 1
  · have hw : ¬ writesM m x := by unfold writesM; rw [h1]; simp
    have hb : ¬ buffers m x := by unfold buffers; rw [h1]; simp
    unfold execP execT
    have hw' : ¬ (writesM m x ∧ i = 36 + x.loc.toNat) := fun h => hw h.1
    rw [if_pos h1, if_pos h1, if_neg hw', if_neg hb]
    rfl
  · by_cases h2 : x.op = 2
    · have hl := hloc (by simp [isLocal, h2])
      unfold execP execT
      rw [if_neg h1, if_pos h2, if_neg h1, if_pos h2]
      unfold lay
      split
      · rfl
      · rename_i hi
        by_cases hm : m = 1
        · have hw : writesM m x := .inl ⟨h2, hm⟩
          have hb : ¬ buffers m x := fun h => h.2 hm
          rw [if_pos hm, if_neg hb]
          unfold put
          by_cases hi2 : i = 36 + x.loc.toNat
          · rw [if_pos hi2, if_pos ⟨hw, hi2⟩]
            unfold hasP
            rw [if_pos (.inl h2)]
          · rw [if_neg hi2, if_neg (fun h => hi2 h.2)]
        · have hw : ¬ writesM m x := by unfold writesM; rw [h2]; simp [hm]
          rw [if_neg hm, if_neg (fun h => hw h.1), if_pos ⟨h2, hm⟩]
    · have hb : ¬ buffers m x := fun h => h2 h.1
      by_cases h4 : x.op = 4 ∨ x.op = 5 ∨ x.op = 6
      · have hL : isLocal x = false := by rcases h4 with h | h | h <;> simp [isLocal, h]
        have hw : writesM m x := .inr h4
        unfold execP execT
        rw [if_neg h1, if_neg h2, if_pos h4, if_neg h1, if_neg h2, if_pos h4, moveP_at, if_neg hb]
        unfold thrP
        rw [hL]
        simp only [Bool.false_eq_true, if_false, true_and, hw]
      · have hw : ¬ writesM m x := by
          rintro (h | h)
          · exact h2 h.1
          · exact h4 h
        unfold execP execT
        have hw' : ¬ (writesM m x ∧ i = 36 + x.loc.toNat) := fun h => hw h.1
        rw [if_neg h1, if_neg h2, if_neg h4, if_neg h1, if_neg h2, if_neg h4, if_neg hw', if_neg hb]
        rfl
theorem execT_pc {x : Ins} {s : By} {t : Nat} (hop : x.op = 1 ∨ x.op = 2 ∨ x.op = 3 ∨ x.op = 4 ∨ x.op = 5 ∨ x.op = 6 ∨ x.op = 7 ∨ x.op = 8) : execT x s t 0 = newPc x (cut s (t * 9)) := by
  have hn : x.op ≠ 8 → newPc x (cut s (t * 9)) = s (t * 9) + 1 := fun h => if_neg (fun hh => h hh.1)
  unfold execT
  split
  · rename_i h; rw [hn (by rw [h]; decide)]; rfl
  · split
    · rename_i h; rw [hn (by rw [h]; decide)]; rfl
    · split
      · rename_i h; rw [hn (by rcases h with h | h | h <;> rw [h] <;> decide)]; rfl
      · rename_i h1 h2 h4
        have hL : isLocal x = true := by
          rcases hop with h | h | h | h | h | h | h | h
          · exact absurd h h1
          · exact absurd h h2
          · simp [isLocal, h]
          · exact absurd (.inl h) h4
          · exact absurd (.inr (.inl h)) h4
          · exact absurd (.inr (.inr h)) h4
          · simp [isLocal, h]
          · simp [isLocal, h]
        have := thrP_pc x (cut s (t * 9)) 0
        unfold thrP at this
        rw [hL, if_pos rfl] at this
        exact this
theorem fits_iff {p : Prg} {m : UInt8} {s : By} {t : Nat} : fitsP p m s t = true ↔ manyB s t ≤ mostB p m s t ∧ ∀ i, i < 12 → slotOk p m s t i = true := by
  unfold fitsP; rw [Bool.and_eq_true, decide_eq_true_eq, allB_iff]
theorem slot_iff {p : Prg} {m : UInt8} {s : By} {t i : Nat} : slotOk p m s t i = true ↔ (manyB s t ≤ i → bLoc s t i = 0 ∧ bVal s t i = 0) ∧ (i < manyB s t → (bLoc s t i).toNat < p.locs.length ∧ (m = 3 → 0 < i → (bLoc s t (i - 1)).toNat ≤ (bLoc s t i).toNat)) := by
  unfold slotOk
  split
  · rename_i h
    simp only [Bool.and_eq_true, beq_iff_eq]
    exact ⟨fun hh => ⟨fun _ => hh, fun h2 => absurd h2 (by omega)⟩, fun hh => hh.1 h⟩
  · rename_i h
    simp only [Bool.and_eq_true, decide_eq_true_eq, Bool.not_eq_true', Bool.and_eq_false_iff, beq_eq_false_iff_ne, decide_eq_false_iff_not]
    constructor
    · rintro ⟨h1, h2⟩
      refine ⟨fun h3 => absurd h3 h, fun _ => ⟨h1, fun hm hi => ?_⟩⟩
      rcases h2 with (h2 | h2) | h2
      · exact absurd hm h2
      · exact absurd hi h2
      · rw [UInt8.lt_iff_toNat_lt] at h2; omega
    · rintro ⟨_, h2⟩
      obtain ⟨h3, h4⟩ := h2 (by omega)
      refine ⟨h3, ?_⟩
      by_cases hm : m = 3
      · by_cases hi : 0 < i
        · refine .inr ?_
          rw [UInt8.lt_iff_toNat_lt]
          have := h4 hm hi
          omega
        · exact .inl (.inr hi)
      · exact .inl (.inl hm)
theorem addAt_spec {m : UInt8} {s : By} {t : Nat} {loc : UInt8} : ∀ n, (m = 3 → ∀ i, addAt m s t loc n ≤ i → i < n → loc.toNat < (bLoc s t i).toNat) ∧ (m = 3 → 0 < addAt m s t loc n → (bLoc s t (addAt m s t loc n - 1)).toNat ≤ loc.toNat) ∧ (m ≠ 3 → addAt m s t loc n = n)
  | 0 => ⟨fun _ i _ h => absurd h (by omega), fun _ h => absurd h (by simp [addAt]), fun _ => rfl⟩
  | n + 1 => by
    obtain ⟨h1, h2, h3⟩ := addAt_spec (m := m) (s := s) (t := t) (loc := loc) n
    rw [addAt]
    split
    · rename_i hc
      refine ⟨fun hm i hi hin => ?_, h2, fun hm => absurd hc.1 hm⟩
      rcases Nat.lt_or_ge i n with h | h
      · exact h1 hm i hi h
      · obtain rfl : i = n := by omega
        exact UInt8.lt_iff_toNat_lt.1 hc.2
    · rename_i hc
      refine ⟨fun _ i hi hin => absurd hi (by omega), fun hm _ => ?_, fun _ => rfl⟩
      have h5 : ¬ loc.toNat < (bLoc s t n).toNat := fun h => hc ⟨hm, UInt8.lt_iff_toNat_lt.2 h⟩
      show (bLoc s t n).toNat ≤ _
      omega
def nu (p : Prg) (s : By) : Nat := 2 * mu p s + (manyB s 0 + manyB s 1 + manyB s 2 + manyB s 3)
-- BfS
structure ExecOf (p : Prg) (m : UInt8) (s : By) (t : Nat) (l : List Ins) (x : Ins) : Prop where
  r : RightM p m s
  hl : p.threads[t]? = some l
  hx : l[pcP s t]? = some x
  ready : readyI x m s t = true
  t4 : t < 4
  op : x.op = 1 ∨ x.op = 2 ∨ x.op = 3 ∨ x.op = 4 ∨ x.op = 5 ∨ x.op = 6 ∨ x.op = 7 ∨ x.op = 8
  loc : isLocal x = false → x.loc.toNat < p.locs.length
theorem execOf {p : Prg} {m : UInt8} {s : By} {t : Nat} (hr : RightM p m s) (ht : t < p.threads.length) (he : enabledM p m s t = true) : ∃ l x, ExecOf p m s t l x ∧ nextI p s t = some x := by
  obtain ⟨l, x, hl, hx, hn, hrd⟩ := enabledM_at he
  exact ⟨l, x, ⟨hr, hl, hx, hrd, by have := (valid hr.prog).thr4; omega, op_of hr.prog hl hx, fun h => (far_at (fineL hr.prog hl hx) h).1⟩, hn⟩
theorem threadSt_same {p : Prg} {a b : By} {u : Nat} (h : ∀ k, k < 9 → b (u * 9 + k) = a (u * 9 + k)) (ha : threadSt p a u = true) : threadSt p b u = true := by
  unfold threadSt at ha ⊢
  split at ha
  · have h0 := h 0 (by omega)
    simp only [Nat.add_zero] at h0
    rw [h0]; exact ha
  · rw [same_iff] at ha ⊢
    exact fun k hk => (h k hk).trans (ha k hk)
theorem bare_low {s : By} {i : Nat} (h : i < 42) : bareP s i = s i := if_pos h
theorem bare_ok {p : Prg} {z : By} (hp : rightErr p = 0) (ht : ∀ u, u < 4 → threadSt p z u = true) (hm : ∀ k, k < 6 → memSt p z k = true) : rightS p (bareP z) = true := by
  rw [rightS_end hp (fun u hu => ?_) (fun k hk => ?_)]
  · rw [Bool.and_eq_true, same_iff, same_iff]
    exact ⟨fun i hi => if_neg (by omega), fun i hi => if_neg (by omega)⟩
  · exact threadSt_same (fun k hk => bare_low (by omega)) (ht u hu)
  · have h1 := hm k hk
    unfold memSt at h1 ⊢
    rw [bare_low (by omega)]; exact h1
section
variable {p : Prg} {m : UInt8} {s : By} {t : Nat} {l : List Ins} {x : Ins}
theorem RightM.thread (h : RightM p m s) {u : Nat} (hu : u < 4) : threadSt p s u = true := by
  have h1 := h.bare
  unfold rightS stateOk at h1
  simp only [Bool.and_eq_true] at h1
  exact threadSt_same (fun k hk => (bare_low (by omega)).symm) ((allB_iff.1 h1.2.1.1) u hu)
theorem RightM.mem (h : RightM p m s) {k : Nat} (hk : k < 6) : memSt p s k = true := by
  have h1 := h.bare
  unfold rightS stateOk at h1
  simp only [Bool.and_eq_true] at h1
  have h2 := (allB_iff.1 h1.2.1.2) k hk
  unfold memSt at h2 ⊢
  rw [bare_low (by omega)] at h2; exact h2
theorem ExecOf.loc6 (h : ExecOf p m s t l x) : isLocal x = false → x.loc.toNat < 6 := fun hh => by have := h.loc hh; have := (valid h.r.prog).locs6; omega
theorem ExecOf.lt (h : ExecOf p m s t l x) : pcP s t < l.length := (List.getElem?_eq_some_iff.1 h.hx).1
theorem ExecOf.l12 (h : ExecOf p m s t l x) : l.length ≤ 12 := (valid h.r.prog).long t l h.hl
theorem ExecOf.val (h : ExecOf p m s t l x) (i : Nat) : execP m x s t i = if t * 9 ≤ i ∧ i < t * 9 + 9 then execT x s t (i - t * 9) else if writesM m x ∧ i = 36 + x.loc.toNat then hasP x (cut s (t * 9)) (s (36 + x.loc.toNat))
      else if buffers m x then addP m s t (stP x.loc (valA x (cut s (t * 9)))) i else s i := exec_val h.t4 h.loc6 h.op i
theorem ExecOf.room (h : ExecOf p m s t l x) : manyB s t ≤ 11 := add_room h.r h.t4 h.hl h.lt h.l12
theorem ExecOf.notLocal (_h : ExecOf p m s t l x) (hw : writesM m x ∨ buffers m x) : isLocal x = false := by
  rcases hw with (h | h | h | h) | h
  · simp [isLocal, h.1]
  · simp [isLocal, h]
  · simp [isLocal, h]
  · simp [isLocal, h]
  · simp [isLocal, h.1]
theorem ExecOf.low (h : ExecOf p m s t l x) {i : Nat} (hi : i < 42) : execP m x s t i = if t * 9 ≤ i ∧ i < t * 9 + 9 then execT x s t (i - t * 9) else if writesM m x ∧ i = 36 + x.loc.toNat then hasP x (cut s (t * 9)) (s (36 + x.loc.toNat)) else s i := by
  rw [h.val]
  split
  · rfl
  · split
    · rfl
    · split
      · exact add_low (addAt_le _) hi
      · rfl
theorem ExecOf.other (h : ExecOf p m s t l x) {u k : Nat} (hu : u < 4) (hne : u ≠ t) (hk : k < 9) : execP m x s t (u * 9 + k) = s (u * 9 + k) := by
  have := h.t4
  rw [h.low (by omega), if_neg (by rcases Nat.lt_or_gt_of_ne hne with h | h <;> omega), if_neg (by omega)]
theorem ExecOf.pcOther (h : ExecOf p m s t l x) {u : Nat} (hu : u < 4) (hne : u ≠ t) : pcP (execP m x s t) u = pcP s u := by
  have := h.other hu hne (k := 0) (by omega)
  simp only [Nat.add_zero] at this
  unfold pcP; rw [this]
theorem ExecOf.own (h : ExecOf p m s t l x) {k : Nat} (hk : k < 9) : execP m x s t (t * 9 + k) = execT x s t k := by
  have := h.t4
  rw [h.low (by omega), if_pos (by omega), show t * 9 + k - t * 9 = k by omega]
theorem ExecOf.pc (h : ExecOf p m s t l x) : pcP s t < pcP (execP m x s t) t ∧ pcP (execP m x s t) t ≤ l.length := by
  have h0 := h.own (k := 0) (by omega)
  simp only [Nat.add_zero] at h0
  rw [execT_pc h.op] at h0
  have hi := inses_at ((valid h.r.prog).ins t l h.hl) h.hx
  rw [Nat.zero_add] at hi
  have := newPc_in (th := cut s (t * 9)) h.l12 (by simpa [cut, pcP] using h.lt) (by simpa [cut, pcP] using hi)
  unfold pcP
  rw [h0]
  simpa [cut] using this
theorem ExecOf.mem (h : ExecOf p m s t l x) {k : Nat} (hk : k < 6) : execP m x s t (36 + k) = if writesM m x ∧ k = x.loc.toNat then hasP x (cut s (t * 9)) (s (36 + x.loc.toNat)) else s (36 + k) := by
  have := h.t4
  rw [h.low (by omega), if_neg (by omega)]
  by_cases hc : writesM m x ∧ k = x.loc.toNat
  · rw [if_pos ⟨hc.1, by omega⟩, if_pos hc]
  · rw [if_neg (fun hh => hc ⟨hh.1, by omega⟩), if_neg hc]
theorem ExecOf.high (h : ExecOf p m s t l x) {i : Nat} (hi : 42 ≤ i) : execP m x s t i = if buffers m x then addP m s t (stP x.loc (valA x (cut s (t * 9)))) i else s i := by
  have := h.t4
  rw [h.val, if_neg (by omega), if_neg];rintro ⟨hw, e⟩
  have := h.loc6 (h.notLocal (.inl hw))
  omega
theorem ExecOf.still (h : ExecOf p m s t l x) (hb : ¬ buffers m x) (u : Nat) : manyB (execP m x s t) u = manyB s u ∧ ∀ i, bLoc (execP m x s t) u i = bLoc s u i ∧ bVal (execP m x s t) u i = bVal s u i := by
  refine ⟨?_, fun i => ⟨?_, ?_⟩⟩
  · unfold manyB; rw [h.high (by omega), if_neg hb]
  · unfold bLoc; rw [h.high (by omega), if_neg hb]
  · unfold bVal; rw [h.high (by omega), if_neg hb]
theorem ExecOf.adds (h : ExecOf p m s t l x) (hb : buffers m x) (u : Nat) : manyB (execP m x s t) u = manyB (addP m s t (stP x.loc (valA x (cut s (t * 9))))) u ∧ ∀ i, bLoc (execP m x s t) u i = bLoc (addP m s t (stP x.loc (valA x (cut s (t * 9))))) u i ∧ bVal (execP m x s t) u i = bVal (addP m s t (stP x.loc (valA x (cut s (t * 9))))) u i := by
  refine ⟨?_, fun i => ⟨?_, ?_⟩⟩
  · unfold manyB; rw [h.high (by omega), if_pos hb]
  · unfold bLoc; rw [h.high (by omega), if_pos hb]
  · unfold bVal; rw [h.high (by omega), if_pos hb]
theorem ExecOf.far (h : ExecOf p m s t l x) {u : Nat} (hu : u < 4) (hne : u ≠ t) : manyB (execP m x s t) u = manyB s u ∧ ∀ i, i < 12 → bLoc (execP m x s t) u i = bLoc s u i ∧ bVal (execP m x s t) u i = bVal s u i := by
  by_cases hb : buffers m x
  · obtain ⟨h1, h2⟩ := h.adds hb u
    obtain ⟨h3, h4⟩ := add_far (st := stP x.loc (valA x (cut s (t * 9)))) (a := addAt m s t x.loc (manyB s t)) (addAt_le _) h.room h.t4 hu hne
    exact ⟨h1.trans h3, fun i hi => ⟨((h2 i).1).trans (h4 i hi).1, ((h2 i).2).trans (h4 i hi).2⟩⟩
  · obtain ⟨h1, h2⟩ := h.still hb u
    exact ⟨h1, fun i _ => h2 i⟩
end
theorem fits_same {p : Prg} {m : UInt8} {s z : By} {u : Nat} (hm : manyB z u = manyB s u) (hb : ∀ i, i < 12 → bLoc z u i = bLoc s u i ∧ bVal z u i = bVal s u i) (hmost : mostB p m s u ≤ mostB p m z u) (h : fitsP p m s u = true) : fitsP p m z u = true := by
  rw [fits_iff] at h ⊢
  refine ⟨by omega, fun i hi => ?_⟩
  have h1 := h.2 i hi
  rw [slot_iff] at h1 ⊢;rw [hm, (hb i hi).1, (hb i hi).2]
  refine ⟨h1.1, fun hl => ⟨(h1.2 hl).1, fun h3 h0 => ?_⟩⟩
  rw [(hb (i - 1) (by omega)).1]
  exact (h1.2 hl).2 h3 h0
theorem most_pc {p : Prg} {m : UInt8} {s z : By} {u : Nat} (h : pcP s u ≤ pcP z u) : mostB p m s u ≤ mostB p m z u := by
  unfold mostB
  split
  · exact h
  · exact Nat.le_refl _
-- BfT
section
variable {p : Prg} {m : UInt8} {s : By} {t : Nat} {l : List Ins} {x : Ins}
theorem add_slots (h : ExecOf p m s t l x) (hb : buffers m x) (v : UInt8) : ∀ i, i < 12 → slotOk p m (addP m s t (stP x.loc v)) t i = true := by
  have hn := h.room
  have ht := h.t4
  have ha := addAt_le (m := m) (s := s) (t := t) (loc := x.loc) (manyB s t)
  obtain ⟨a1, a2, a3⟩ := addAt_spec (m := m) (s := s) (t := t) (loc := x.loc) (manyB s t)
  have hll := h.loc (h.notLocal (.inr hb))
  have hs : ∀ i, i < 12 → _ := fun i hi => slot_iff.1 (h.r.slot ht hi)
  intro i hi
  rw [slot_iff]
  have hst : stP x.loc v 0 = x.loc := rfl
  unfold addP
  rw [hst]
  generalize hA : addAt m s t x.loc (manyB s t) = a at ha a1 a2 a3
  have hL : ∀ j, j < 12 → bLoc (addR s t a (stP x.loc v)) t j = if j = a then x.loc else if a < j ∧ j ≤ manyB s t then bLoc s t (j - 1) else bLoc s t j := fun j hj => add_loc ha hn ht hj
  rw [add_many ha hn]
  refine ⟨fun hmi => ?_, fun hil => ⟨?_, fun h3 h0 => ?_⟩⟩
  · rw [hL i hi, add_val ha hn ht hi, if_neg (by omega), if_neg (by omega), if_neg (by omega), if_neg (by omega)]
    exact (hs i hi).1 (by omega)
  · rw [hL i hi]
    by_cases e : i = a
    · rw [if_pos e]; exact hll
    · rw [if_neg e]
      by_cases e2 : a < i ∧ i ≤ manyB s t
      · rw [if_pos e2]; exact ((hs (i - 1) (by omega)).2 (by omega)).1
      · rw [if_neg e2]; exact ((hs i hi).2 (by omega)).1
  · rw [hL i hi, hL (i - 1) (by omega)]
    by_cases e : i = a
    · rw [if_pos e, if_neg (by omega), if_neg (by omega), e]
      exact a2 h3 (by omega)
    · rw [if_neg e]
      by_cases e2 : a < i ∧ i ≤ manyB s t
      · rw [if_pos e2]
        by_cases e3 : i - 1 = a
        · rw [if_pos e3]
          have := a1 h3 (i - 1) (by omega) (by omega)
          omega
        · rw [if_neg e3, if_pos (by omega)]
          exact ((hs (i - 1) (by omega)).2 (by omega)).2 h3 (by omega)
      · rw [if_neg e2, if_neg (by omega), if_neg (by omega)]
        exact ((hs i hi).2 (by omega)).2 h3 h0
theorem ExecOf.right (h : ExecOf p m s t l x) : RightM p m (execP m x s t) := by
  have ht := h.t4
  have hpc := h.pc
  refine ⟨h.r.known, bare_ok h.r.prog (fun u hu => ?_) (fun k hk => ?_), fun u hu => ?_⟩
  · by_cases hut : u = t
    · subst hut
      rw [threadSt_some h.hl]
      exact decide_eq_true hpc.2
    · exact threadSt_same (fun k hk => h.other hu hut hk) (h.r.thread hu)
  · have h1 := h.r.mem hk
    unfold memSt at h1 ⊢
    by_cases hkl : k < p.locs.length
    · rw [decide_eq_true hkl, Bool.true_or]
    · rw [decide_eq_false hkl, Bool.false_or] at h1 ⊢
      rw [h.mem hk, if_neg]
      · exact h1
      · rintro ⟨hw, e⟩
        have := h.loc (h.notLocal (.inl hw))
        omega
  · by_cases hut : u = t
    · subst hut
      by_cases hb : buffers m x
      · obtain ⟨h1, h2⟩ := h.adds hb u
        rw [fits_iff]
        have hmany := add_many (st := stP x.loc (valA x (cut s (u * 9)))) (addAt_le (m := m) (s := s) (t := u) (loc := x.loc) (manyB s u)) h.room
        have hmost := h.r.most ht
        have hlt := (List.getElem?_eq_some_iff.1 h.hl).1
        refine ⟨?_, fun i hi => ?_⟩
        · rw [h1]
          show manyB (addR s u (addAt m s u x.loc (manyB s u)) _) u ≤ _
          rw [hmany]
          unfold mostB at hmost ⊢
          rw [if_pos ⟨hb.2, hlt⟩] at hmost ⊢
          have := hpc.1
          unfold pcP at this
          omega
        · have h3 := add_slots h hb (valA x (cut s (u * 9))) i hi
          rw [slot_iff] at h3 ⊢;rw [h1, (h2 i).1, (h2 i).2, (h2 (i - 1)).1]
          exact h3
      · obtain ⟨h1, h2⟩ := h.still hb u
        exact fits_same h1 (fun i _ => h2 i) (most_pc (Nat.le_of_lt hpc.1)) (h.r.fits u hu)
    · obtain ⟨h1, h2⟩ := h.far hu hut
      exact fits_same h1 h2 (most_pc (Nat.le_of_eq (h.pcOther hu hut).symm)) (h.r.fits u hu)
theorem ExecOf.many (h : ExecOf p m s t l x) : manyB (execP m x s t) t ≤ manyB s t + 1 := by
  by_cases hb : buffers m x
  · have hmany := add_many (st := stP x.loc (valA x (cut s (t * 9)))) (addAt_le (m := m) (s := s) (t := t) (loc := x.loc) (manyB s t)) h.room
    rw [(h.adds hb t).1]
    exact Nat.le_of_eq hmany
  · rw [(h.still hb t).1]
    omega
theorem ExecOf.nu (h : ExecOf p m s t l x) : nu p (execP m x s t) < nu p s := by
  have h1 := h.pc
  have h2 := h.lt
  have h3 := lenP_at h.hl
  have h4 := h.t4
  have h5 := h.many
  have q : ∀ u, u < 4 → u ≠ t → pcP (execP m x s t) u = pcP s u := fun u hu hne => h.pcOther hu hne
  have r : ∀ u, u < 4 → u ≠ t → manyB (execP m x s t) u = manyB s u := fun u hu hne => (h.far hu hne).1
  unfold Go.Proofs.YtbgnapmaimkpkaaGreatDoor.nu Go.Proofs.YtbgnapmaimkpkaaGreatDoor.mu
  rcases (by omega : t = 0 ∨ t = 1 ∨ t = 2 ∨ t = 3) with rfl | rfl | rfl | rfl
  · rw [q 1 (by omega) (by omega), q 2 (by omega) (by omega), q 3 (by omega) (by omega), r 1 (by omega) (by omega), r 2 (by omega) (by omega), r 3 (by omega) (by omega)]; omega
  · rw [q 0 (by omega) (by omega), q 2 (by omega) (by omega), q 3 (by omega) (by omega), r 0 (by omega) (by omega), r 2 (by omega) (by omega), r 3 (by omega) (by omega)]; omega
  · rw [q 0 (by omega) (by omega), q 1 (by omega) (by omega), q 3 (by omega) (by omega), r 0 (by omega) (by omega), r 1 (by omega) (by omega), r 3 (by omega) (by omega)]; omega
  · rw [q 0 (by omega) (by omega), q 1 (by omega) (by omega), q 2 (by omega) (by omega), r 0 (by omega) (by omega), r 1 (by omega) (by omega), r 2 (by omega) (by omega)]; omega
end
structure DrainOf (p : Prg) (m : UInt8) (s : By) (t a : Nat) : Prop where
  r : RightM p m s
  t4 : t < 4
  lt : a < manyB s t
  fst : ∀ i, i < a → m = 3 ∧ bLoc s t i ≠ bLoc s t a
theorem drainI_spec {m : UInt8} {s : By} {t : Nat} {loc : UInt8} : ∀ (f i : Nat), (m = 3 → ∃ j, i ≤ j ∧ j < i + f ∧ bLoc s t j = loc) → (m ≠ 3 → 0 < f) → i ≤ drainN m s t loc f i ∧ drainN m s t loc f i < i + f ∧ (m = 3 → bLoc s t (drainN m s t loc f i) = loc) ∧ (∀ j, i ≤ j → j < drainN m s t loc f i → m = 3 ∧ bLoc s t j ≠ loc)
  | 0, i, h1, h2 => by
    by_cases hm : m = 3
    · obtain ⟨j, _, _, _⟩ := h1 hm
      omega
    · exact absurd (h2 hm) (by omega)
  | f + 1, i, h1, h2 => by
    rw [drainN]
    split
    · rename_i hc
      obtain ⟨q1, q2, q3, q4⟩ := drainI_spec (m := m) (s := s) (t := t) (loc := loc) f (i + 1) (fun hm => by
        obtain ⟨j, j1, j2, j3⟩ := h1 hm
        rcases Nat.eq_or_lt_of_le j1 with e | e
        · subst e; exact absurd j3 hc.2
        · exact ⟨j, e, by omega, j3⟩) (fun hm => absurd hc.1 hm)
      refine ⟨by omega, by omega, q3, fun j hj1 hj2 => ?_⟩
      rcases Nat.eq_or_lt_of_le hj1 with e | e
      · subst e; exact hc
      · exact q4 j e hj2
    · rename_i hc
      exact ⟨Nat.le_refl _, by omega, fun hm => Decidable.not_not.1 fun hn => hc ⟨hm, hn⟩, fun j hj1 hj2 => absurd hj1 (by omega)⟩
theorem drainOf {p : Prg} {m : UInt8} {s : By} {t i : Nat} (hr : RightM p m s) (ht : t < 4) (hi : i < manyB s t) : DrainOf p m s t (drainI m s t (drainAt m s t i).l) ∧ (m = 3 → bLoc s t (drainI m s t (drainAt m s t i).l) = bLoc s t i) := by
  have hl : m = 3 → (drainAt m s t i).l = bLoc s t i := fun h => if_pos h
  obtain ⟨h1, h2, h3, h4⟩ := drainI_spec (m := m) (s := s) (t := t) (loc := (drainAt m s t i).l) (manyB s t) 0 (fun h => ⟨i, by omega, by omega, (hl h).symm⟩) (fun _ => by omega)
  refine ⟨⟨hr, ht, by unfold drainI; omega, fun j hj => ?_⟩, fun h => (h3 h).trans (hl h)⟩
  obtain ⟨h5, h6⟩ := h4 j (by omega) hj
  exact ⟨h5, fun e => h6 (e.trans (h3 h5))⟩
section
variable {p : Prg} {m : UInt8} {s : By} {t a : Nat}
theorem DrainOf.n12 (h : DrainOf p m s t a) : manyB s t ≤ 12 := (h.r.many h.t4).1
theorem DrainOf.loc (h : DrainOf p m s t a) : (bLoc s t a).toNat < p.locs.length := h.r.loc h.t4 h.lt
theorem DrainOf.loc6 (h : DrainOf p m s t a) : (bLoc s t a).toNat < 6 := by have := h.loc; have := (valid h.r.prog).locs6; omega
theorem DrainOf.low (h : DrainOf p m s t a) {i : Nat} (hi : i < 36) : drainR s t a i = s i := drain_low h.lt hi
theorem DrainOf.pc (h : DrainOf p m s t a) {u : Nat} (hu : u < 4) : pcP (drainR s t a) u = pcP s u := by unfold pcP; rw [h.low (by omega)]
theorem DrainOf.right (h : DrainOf p m s t a) : RightM p m (drainR s t a) := by
  have ht := h.t4
  have hn := h.n12
  have hlt := h.lt
  have hl6 := h.loc6
  refine ⟨h.r.known, bare_ok h.r.prog (fun u hu => threadSt_same (fun k hk => h.low (by omega)) (h.r.thread hu)) (fun k hk => ?_), fun u hu => ?_⟩
  · have h1 := h.r.mem hk
    unfold memSt at h1 ⊢
    by_cases hkl : k < p.locs.length
    · rw [decide_eq_true hkl, Bool.true_or]
    · rw [decide_eq_false hkl, Bool.false_or] at h1 ⊢
      rw [drain_mem hlt hk, if_neg (by have := h.loc; omega)]
      exact h1
  · by_cases hut : u = t
    · subst hut
      rw [fits_iff]
      have hs : ∀ i, i < 12 → _ := fun i hi => slot_iff.1 (h.r.slot ht hi)
      have hL : ∀ j, j < 12 → _ := fun j hj => drain_loc hlt hl6 hn ht hj
      refine ⟨?_, fun i hi => ?_⟩
      · rw [drain_many hlt hl6]
        have h1 := h.r.most ht
        have h2 := most_pc (p := p) (m := m) (Nat.le_of_eq (h.pc hu).symm)
        omega
      · rw [slot_iff, drain_many hlt hl6]
        refine ⟨fun hmi => ?_, fun hil => ⟨?_, fun h3 h0 => ?_⟩⟩
        · rw [hL i hi, drain_val hlt hl6 hn ht hi]
          by_cases e : i + 1 = manyB s u
          · rw [if_pos e, if_pos e]; exact ⟨rfl, rfl⟩
          · rw [if_neg e, if_neg e, if_neg (by omega), if_neg (by omega)]
            exact (hs i hi).1 (by omega)
        · rw [hL i hi, if_neg (by omega)]
          by_cases e2 : a ≤ i ∧ i + 1 < manyB s u
          · rw [if_pos e2]; exact ((hs (i + 1) (by omega)).2 (by omega)).1
          · rw [if_neg e2]; exact ((hs i hi).2 (by omega)).1
        · have e1 : ¬ i + 1 = manyB s u := by omega
          have e1' : ¬ i - 1 + 1 = manyB s u := by omega
          rw [hL i hi, hL (i - 1) (by omega), if_neg e1, if_neg e1']
          by_cases e2 : a ≤ i ∧ i + 1 < manyB s u
          · rw [if_pos e2]
            have k1 := ((hs (i + 1) (by omega)).2 (by omega)).2 h3 (by omega)
            rw [show i + 1 - 1 = i by omega] at k1
            by_cases e3 : a ≤ i - 1 ∧ i - 1 + 1 < manyB s u
            · rw [if_pos e3, show i - 1 + 1 = i by omega]; exact k1
            · rw [if_neg e3]
              have k2 := ((hs i hi).2 (by omega)).2 h3 h0
              omega
          · rw [if_neg e2, if_neg (by omega)]
            exact ((hs i hi).2 (by omega)).2 h3 h0
    · obtain ⟨h1, h2⟩ := drain_far hlt hl6 hn ht hu hut
      exact fits_same h1 h2 (most_pc (Nat.le_of_eq (h.pc hu).symm)) (h.r.fits u hu)
theorem DrainOf.nu (h : DrainOf p m s t a) : nu p (drainR s t a) < nu p s := by
  have ht := h.t4
  have hlt := h.lt
  have hm := drain_many hlt h.loc6
  have q : ∀ u, u < 4 → pcP (drainR s t a) u = pcP s u := fun u hu => h.pc hu
  have r : ∀ u, u < 4 → u ≠ t → manyB (drainR s t a) u = manyB s u := fun u hu hne => (drain_far hlt h.loc6 h.n12 ht hu hne).1
  unfold Go.Proofs.YtbgnapmaimkpkaaGreatDoor.nu Go.Proofs.YtbgnapmaimkpkaaGreatDoor.mu
  rw [q 0 (by omega), q 1 (by omega), q 2 (by omega), q 3 (by omega)]
  rcases (by omega : t = 0 ∨ t = 1 ∨ t = 2 ∨ t = 3) with rfl | rfl | rfl | rfl
  · rw [r 1 (by omega) (by omega), r 2 (by omega) (by omega), r 3 (by omega) (by omega)]; omega
  · rw [r 0 (by omega) (by omega), r 2 (by omega) (by omega), r 3 (by omega) (by omega)]; omega
  · rw [r 0 (by omega) (by omega), r 1 (by omega) (by omega), r 3 (by omega) (by omega)]; omega
  · rw [r 0 (by omega) (by omega), r 1 (by omega) (by omega), r 2 (by omega) (by omega)]; omega
end
inductive Went (p : Prg) (m : UInt8) (s : By) : Pss → By → Prop
  | exec {t : Nat} {l : List Ins} {x : Ins} : ExecOf p m s t l x → nextI p s t = some x → Went p m s ⟨UInt8.ofNat t, false, 0⟩ (execP m x s t)
  | drain {t i : Nat} : DrainOf p m s t (drainI m s t (drainAt m s t i).l) → i < manyB s t → (m = 3 → bLoc s t (drainI m s t (drainAt m s t i).l) = bLoc s t i) → Went p m s (drainAt m s t i) (drainR s t (drainI m s t (drainAt m s t i).l))
theorem went {p : Prg} {m : UInt8} {s : By} {x : Pss} (hr : RightM p m s) (hx : x ∈ movesM p m s) : Went p m s x (stepM p m s x) := by
  have hV4 := (valid hr.prog).thr4
  obtain ⟨t, htl, hmv⟩ := mem_movesN hx
  have ht4 : t < 4 := by omega
  have hto := ofNat_to ht4
  rcases hmv with ⟨rfl, hen⟩ | ⟨i, hi, rfl⟩
  · obtain ⟨l, ix, hE, hn⟩ := execOf hr htl hen
    have e : stepM p m s ⟨UInt8.ofNat t, false, 0⟩ = execP m ix s t := by
      unfold stepM
      rw [if_neg (by simp)]
      show (match nextI p s (UInt8.ofNat t).toNat with | some i => execP m i s (UInt8.ofNat t).toNat | none => s) = _
      rw [hto, hn]
    rw [e]
    exact .exec hE hn
  · obtain ⟨h1, h2⟩ := drainOf hr ht4 hi
    have e : stepM p m s (drainAt m s t i) = drainR s t (drainI m s t (drainAt m s t i).l) := by
      unfold stepM
      rw [if_pos (show (drainAt m s t i).d = true from rfl)]
      show drainP m s (UInt8.ofNat t).toNat _ = _
      rw [hto]
      rfl
    rw [e]
    exact .drain h1 hi h2
theorem Went.right {p : Prg} {m : UInt8} {s z : By} {x : Pss} (h : Went p m s x z) : RightM p m z := by
  cases h with
  | exec h _ => exact h.right
  | drain h _ _ => exact h.right
theorem Went.nu {p : Prg} {m : UInt8} {s z : By} {x : Pss} (h : Went p m s x z) : nu p z < nu p s := by
  cases h with
  | exec h _ => exact h.nu
  | drain h _ _ => exact h.nu
-- BfU
theorem seenN_congr {s z : By} {t u : Nat} {loc : UInt8} (hm : z (36 + loc.toNat) = s (36 + loc.toNat)) : ∀ n, (∀ i, i < n → bLoc z t i = bLoc s u i ∧ bVal z t i = bVal s u i) → seenN z t loc n = seenN s u loc n
  | 0, _ => hm
  | n + 1, h => by
    rw [seenN, seenN, (h n (by omega)).1, (h n (by omega)).2, seenN_congr hm n (fun i hi => h i (by omega))]
theorem seen_eq {p : Prg} {m : UInt8} {s : By} (h : RightM p m s) {t : Nat} (ht : t < 4) (loc : UInt8) : seenP s t loc = seenN s t loc (manyB s t) := by
  have := (h.many ht).1
  unfold seenP
  rw [Nat.min_eq_left this]
section
variable {p : Prg} {m : UInt8} {s : By} {t : Nat} {l : List Ins} {x : Ins}
end
theorem DrainOf.seen {p : Prg} {m : UInt8} {s : By} {t a : Nat} (h : DrainOf p m s t a) {loc : UInt8} (hl : loc.toNat < 6) : seenP (drainR s t a) t loc = seenP s t loc := by
  have hlt := h.lt
  have hl6 := h.loc6
  have hn := h.n12
  have ht := h.t4
  rw [seen_eq h.right ht, seen_eq h.r ht, drain_many hlt hl6]
  have hB : ∀ i, i < 12 → _ := fun i hi => And.intro (drain_loc hlt hl6 hn ht hi) (drain_val hlt hl6 hn ht hi)
  have hmem : drainR s t a (36 + loc.toNat) = if bLoc s t a = loc then bVal s t a else s (36 + loc.toNat) := by
    rw [drain_mem hlt hl]
    by_cases e : bLoc s t a = loc
    · rw [if_pos (by rw [e]), if_pos e]
    · rw [if_neg (fun e2 => e (UInt8.toNat_inj.1 e2.symm)), if_neg e]
  have low : ∀ k, k ≤ a → seenN (drainR s t a) t loc k = if bLoc s t a = loc then bVal s t a else seenN s t loc k := by
    intro k
    induction k with
    | zero => intro _; exact hmem
    | succ k ih =>
      intro hk
      have e := hB k (by omega)
      have f1 : ¬ k + 1 = manyB s t := by omega
      have f2 : ¬ (a ≤ k ∧ k + 1 < manyB s t) := by omega
      rw [seenN, e.1, e.2, if_neg f1, if_neg f1, if_neg f2, if_neg f2, ih (by omega), seenN]
      by_cases e1 : bLoc s t a = loc
      · rw [if_pos e1, if_pos e1, if_neg (by rw [← e1]; exact (h.fst k (by omega)).2)]
      · rw [if_neg e1, if_neg e1]
  have high : ∀ k, a ≤ k → k + 1 ≤ manyB s t → seenN (drainR s t a) t loc k = seenN s t loc (k + 1) := by
    intro k hk
    induction hk with
    | refl =>
      intro _
      rw [low a (Nat.le_refl _), seenN]
    | @step k hak ih =>
      intro hk1
      have hak : a ≤ k := hak
      have hk1 : k + 1 + 1 ≤ manyB s t := hk1
      have e := hB k (by omega)
      have e1 : ¬ k + 1 = manyB s t := by omega
      have e2 : a ≤ k ∧ k + 1 < manyB s t := ⟨hak, by omega⟩
      show seenN (drainR s t a) t loc (k + 1) = seenN s t loc (k + 1 + 1)
      rw [seenN, e.1, e.2, if_neg e1, if_neg e1, if_pos e2, if_pos e2, ih (by omega)]
      exact (seenN.eq_2 s t loc (k + 1)).symm
  have := high (manyB s t - 1) (by omega) (by omega)
  rwa [show manyB s t - 1 + 1 = manyB s t by omega] at this
end Go.Proofs.YtbgnapmaimkpkaaGreatDoor
