/-
  Plain Lean: a move of a machine with store buffers leads from a valid state to a valid one, and there is less left to do: third part. Conditions: none.
-/
import Derived.Test.YtbgnapmaimkpkaaGreatDoorBfR
set_option linter.unusedSimpArgs false
set_option linter.unusedVariables false
namespace Go.Proofs.YtbgnapmaimkpkaaGreatDoor

/-- A thread of a valid state executes its instruction. -/
structure ExecOf (p : Prg) (m : UInt8) (s : By) (t : Nat) (l : List Ins) (x : Ins) : Prop where
  r : RightM p m s
  hl : p.threads[t]? = some l
  hx : l[pcP s t]? = some x
  ready : readyI x m s t = true
  t4 : t < 4
  op : x.op = 1 ∨ x.op = 2 ∨ x.op = 3 ∨ x.op = 4 ∨ x.op = 5 ∨ x.op = 6 ∨ x.op = 7 ∨ x.op = 8
  loc : isLocal x = false → x.loc.toNat < p.locs.length
theorem execOf {p : Prg} {m : UInt8} {s : By} {t : Nat} (hr : RightM p m s) (ht : t < p.threads.length) (he : enabledM p m s t = true) : ∃ l x, ExecOf p m s t l x ∧ nextI p s t = some x := by
  obtain ⟨l, x, hl, hx, hn, hrd⟩ := enabledM_at he
  exact ⟨l, x, ⟨hr, hl, hx, hrd, by have := (valid hr.prog).thr4; omega, op_of hr.prog hl hx, fun h => (far_at (fineL hr.prog hl hx) h).1⟩, hn⟩
theorem threadSt_same {p : Prg} {a b : By} {u : Nat} (h : ∀ k, k < 9 → b (u * 9 + k) = a (u * 9 + k)) (ha : threadSt p a u = true) : threadSt p b u = true := by
  unfold threadSt at ha ⊢
  split at ha
  · have h0 := h 0 (by omega)
    simp only [Nat.add_zero] at h0
    rw [h0]; exact ha
  · rw [same_iff] at ha ⊢
    exact fun k hk => (h k hk).trans (ha k hk)
theorem bare_low {s : By} {i : Nat} (h : i < 42) : bareP s i = s i := if_pos h
theorem bare_ok {p : Prg} {z : By} (hp : rightErr p = 0) (ht : ∀ u, u < 4 → threadSt p z u = true) (hm : ∀ k, k < 6 → memSt p z k = true) : rightS p (bareP z) = true := by
  rw [rightS_end hp (fun u hu => ?_) (fun k hk => ?_)]
  · rw [Bool.and_eq_true, same_iff, same_iff]
    exact ⟨fun i hi => if_neg (by omega), fun i hi => if_neg (by omega)⟩
  · exact threadSt_same (fun k hk => bare_low (by omega)) (ht u hu)
  · have h1 := hm k hk
    unfold memSt at h1 ⊢
    rw [bare_low (by omega)]; exact h1
section
variable {p : Prg} {m : UInt8} {s : By} {t : Nat} {l : List Ins} {x : Ins}
theorem RightM.thread (h : RightM p m s) {u : Nat} (hu : u < 4) : threadSt p s u = true := by
  have h1 := h.bare
  unfold rightS stateOk at h1
  simp only [Bool.and_eq_true] at h1
  exact threadSt_same (fun k hk => (bare_low (by omega)).symm) ((allB_iff.1 h1.2.1.1) u hu)
theorem RightM.mem (h : RightM p m s) {k : Nat} (hk : k < 6) : memSt p s k = true := by
  have h1 := h.bare
  unfold rightS stateOk at h1
  simp only [Bool.and_eq_true] at h1
  have h2 := (allB_iff.1 h1.2.1.2) k hk
  unfold memSt at h2 ⊢
  rw [bare_low (by omega)] at h2; exact h2
theorem ExecOf.loc6 (h : ExecOf p m s t l x) : isLocal x = false → x.loc.toNat < 6 := fun hh => by have := h.loc hh; have := (valid h.r.prog).locs6; omega
theorem ExecOf.lt (h : ExecOf p m s t l x) : pcP s t < l.length := (List.getElem?_eq_some_iff.1 h.hx).1
theorem ExecOf.l12 (h : ExecOf p m s t l x) : l.length ≤ 12 := (valid h.r.prog).long t l h.hl
theorem ExecOf.val (h : ExecOf p m s t l x) (i : Nat) : execP m x s t i = if t * 9 ≤ i ∧ i < t * 9 + 9 then execT x s t (i - t * 9) else if writesM m x ∧ i = 36 + x.loc.toNat then hasP x (cut s (t * 9)) (s (36 + x.loc.toNat))
      else if buffers m x then addP m s t (stP x.loc (valA x (cut s (t * 9)))) i else s i := exec_val h.t4 h.loc6 h.op i
theorem ExecOf.room (h : ExecOf p m s t l x) : manyB s t ≤ 11 := add_room h.r h.t4 h.hl h.lt h.l12
theorem ExecOf.notLocal (_h : ExecOf p m s t l x) (hw : writesM m x ∨ buffers m x) : isLocal x = false := by
  rcases hw with (h | h | h | h) | h
  · simp [isLocal, h.1]
  · simp [isLocal, h]
  · simp [isLocal, h]
  · simp [isLocal, h]
  · simp [isLocal, h.1]
theorem ExecOf.low (h : ExecOf p m s t l x) {i : Nat} (hi : i < 42) : execP m x s t i = if t * 9 ≤ i ∧ i < t * 9 + 9 then execT x s t (i - t * 9) else if writesM m x ∧ i = 36 + x.loc.toNat then hasP x (cut s (t * 9)) (s (36 + x.loc.toNat)) else s i := by
  rw [h.val]
  split
  · rfl
  · split
    · rfl
    · split
      · exact add_low (addAt_le _) hi
      · rfl
theorem ExecOf.other (h : ExecOf p m s t l x) {u k : Nat} (hu : u < 4) (hne : u ≠ t) (hk : k < 9) : execP m x s t (u * 9 + k) = s (u * 9 + k) := by
  have := h.t4
  rw [h.low (by omega), if_neg (by rcases Nat.lt_or_gt_of_ne hne with h | h <;> omega), if_neg (by omega)]
theorem ExecOf.pcOther (h : ExecOf p m s t l x) {u : Nat} (hu : u < 4) (hne : u ≠ t) : pcP (execP m x s t) u = pcP s u := by
  have := h.other hu hne (k := 0) (by omega)
  simp only [Nat.add_zero] at this
  unfold pcP; rw [this]
theorem ExecOf.own (h : ExecOf p m s t l x) {k : Nat} (hk : k < 9) : execP m x s t (t * 9 + k) = execT x s t k := by
  have := h.t4
  rw [h.low (by omega), if_pos (by omega), show t * 9 + k - t * 9 = k by omega]
theorem ExecOf.pc (h : ExecOf p m s t l x) : pcP s t < pcP (execP m x s t) t ∧ pcP (execP m x s t) t ≤ l.length := by
  have h0 := h.own (k := 0) (by omega)
  simp only [Nat.add_zero] at h0
  rw [execT_pc h.op] at h0
  have hi := inses_at ((valid h.r.prog).ins t l h.hl) h.hx
  rw [Nat.zero_add] at hi
  have := newPc_in (th := cut s (t * 9)) h.l12 (by simpa [cut, pcP] using h.lt) (by simpa [cut, pcP] using hi)
  unfold pcP
  rw [h0]
  simpa [cut] using this
theorem ExecOf.mem (h : ExecOf p m s t l x) {k : Nat} (hk : k < 6) : execP m x s t (36 + k) = if writesM m x ∧ k = x.loc.toNat then hasP x (cut s (t * 9)) (s (36 + x.loc.toNat)) else s (36 + k) := by
  have := h.t4
  rw [h.low (by omega), if_neg (by omega)]
  by_cases hc : writesM m x ∧ k = x.loc.toNat
  · rw [if_pos ⟨hc.1, by omega⟩, if_pos hc]
  · rw [if_neg (fun hh => hc ⟨hh.1, by omega⟩), if_neg hc]
theorem ExecOf.high (h : ExecOf p m s t l x) {i : Nat} (hi : 42 ≤ i) : execP m x s t i = if buffers m x then addP m s t (stP x.loc (valA x (cut s (t * 9)))) i else s i := by
  have := h.t4
  rw [h.val, if_neg (by omega), if_neg]
  rintro ⟨hw, e⟩
  have := h.loc6 (h.notLocal (.inl hw))
  omega
theorem ExecOf.still (h : ExecOf p m s t l x) (hb : ¬ buffers m x) (u : Nat) : manyB (execP m x s t) u = manyB s u ∧ ∀ i, bLoc (execP m x s t) u i = bLoc s u i ∧ bVal (execP m x s t) u i = bVal s u i := by
  refine ⟨?_, fun i => ⟨?_, ?_⟩⟩
  · unfold manyB; rw [h.high (by omega), if_neg hb]
  · unfold bLoc; rw [h.high (by omega), if_neg hb]
  · unfold bVal; rw [h.high (by omega), if_neg hb]
theorem ExecOf.adds (h : ExecOf p m s t l x) (hb : buffers m x) (u : Nat) : manyB (execP m x s t) u = manyB (addP m s t (stP x.loc (valA x (cut s (t * 9))))) u ∧ ∀ i, bLoc (execP m x s t) u i = bLoc (addP m s t (stP x.loc (valA x (cut s (t * 9))))) u i ∧ bVal (execP m x s t) u i = bVal (addP m s t (stP x.loc (valA x (cut s (t * 9))))) u i := by
  refine ⟨?_, fun i => ⟨?_, ?_⟩⟩
  · unfold manyB; rw [h.high (by omega), if_pos hb]
  · unfold bLoc; rw [h.high (by omega), if_pos hb]
  · unfold bVal; rw [h.high (by omega), if_pos hb]
/-- Another thread's buffer. -/
theorem ExecOf.far (h : ExecOf p m s t l x) {u : Nat} (hu : u < 4) (hne : u ≠ t) : manyB (execP m x s t) u = manyB s u ∧ ∀ i, i < 12 → bLoc (execP m x s t) u i = bLoc s u i ∧ bVal (execP m x s t) u i = bVal s u i := by
  by_cases hb : buffers m x
  · obtain ⟨h1, h2⟩ := h.adds hb u
    obtain ⟨h3, h4⟩ := add_far (st := stP x.loc (valA x (cut s (t * 9)))) (a := addAt m s t x.loc (manyB s t)) (addAt_le _) h.room h.t4 hu hne
    exact ⟨h1.trans h3, fun i hi => ⟨((h2 i).1).trans (h4 i hi).1, ((h2 i).2).trans (h4 i hi).2⟩⟩
  · obtain ⟨h1, h2⟩ := h.still hb u
    exact ⟨h1, fun i _ => h2 i⟩
end
theorem fits_same {p : Prg} {m : UInt8} {s z : By} {u : Nat} (hm : manyB z u = manyB s u) (hb : ∀ i, i < 12 → bLoc z u i = bLoc s u i ∧ bVal z u i = bVal s u i) (hmost : mostB p m s u ≤ mostB p m z u) (h : fitsP p m s u = true) : fitsP p m z u = true := by
  rw [fits_iff] at h ⊢
  refine ⟨by omega, fun i hi => ?_⟩
  have h1 := h.2 i hi
  rw [slot_iff] at h1 ⊢
  rw [hm, (hb i hi).1, (hb i hi).2]
  refine ⟨h1.1, fun hl => ⟨(h1.2 hl).1, fun h3 h0 => ?_⟩⟩
  rw [(hb (i - 1) (by omega)).1]
  exact (h1.2 hl).2 h3 h0
theorem most_pc {p : Prg} {m : UInt8} {s z : By} {u : Nat} (h : pcP s u ≤ pcP z u) : mostB p m s u ≤ mostB p m z u := by
  unfold mostB
  split
  · exact h
  · exact Nat.le_refl _
end Go.Proofs.YtbgnapmaimkpkaaGreatDoor
