/-
  Plain Lean: a run of the machine with queues, on the machine with a queue for each location. Conditions: none.
-/
import Derived.Test.YtbgnapmaimkpkaaGreatDoorBfY
set_option linter.unusedSimpArgs false
set_option linter.unusedVariables false
namespace Go.Proofs.YtbgnapmaimkpkaaGreatDoor

theorem execT_thr {x : Ins} {s : By} {t : Nat} (hop : x.op = 1 ∨ x.op = 2 ∨ x.op = 3 ∨ x.op = 4 ∨ x.op = 5 ∨ x.op = 6 ∨ x.op = 7 ∨ x.op = 8) : execT x s t = thrP x (cut s (t * 9)) (if x.op = 1 then seenP s t x.loc else s (36 + x.loc.toNat)) := by
  unfold execT thrP
  by_cases h1 : x.op = 1
  · rw [if_pos h1, if_pos h1, if_neg (by simp [isLocal, h1])]
  · rw [if_neg h1, if_neg h1]
    by_cases h2 : x.op = 2
    · rw [if_pos h2, if_neg (by simp [isLocal, h2])]
      unfold farP
      rw [if_pos h2]
      rfl
    · rw [if_neg h2]
      by_cases h4 : x.op = 4 ∨ x.op = 5 ∨ x.op = 6
      · rw [if_pos h4, if_neg (by rcases h4 with h | h | h <;> simp [isLocal, h])]
      · rw [if_neg h4, if_pos]
        rcases hop with h | h | h | h | h | h | h | h
        · exact absurd h h1
        · exact absurd h h2
        · simp [isLocal, h]
        · exact absurd (.inl h) h4
        · exact absurd (.inr (.inl h)) h4
        · exact absurd (.inr (.inr h)) h4
        · simp [isLocal, h]
        · simp [isLocal, h]
theorem execT_congr {x : Ins} {s z : By} {t : Nat} (hop : x.op = 1 ∨ x.op = 2 ∨ x.op = 3 ∨ x.op = 4 ∨ x.op = 5 ∨ x.op = 6 ∨ x.op = 7 ∨ x.op = 8) (hc : ∀ k, k < 9 → s (t * 9 + k) = z (t * 9 + k))
    (hl : isLocal x = false → s (36 + x.loc.toNat) = z (36 + x.loc.toNat)) (hs : x.op = 1 → seenP s t x.loc = seenP z t x.loc) (k : Nat) (hk : k < 9) : execT x s t k = execT x z t k := by
  have hc' : ∀ k, k < 9 → cut s (t * 9) k = cut z (t * 9) k := hc
  rw [execT_thr hop, execT_thr hop]
  cases hL : isLocal x with
  | true =>
    rw [thrP_local hL _ _ (if x.op = 1 then seenP z t x.loc else z (36 + x.loc.toNat))]
    exact thrP_congr hc' _ hk
  | false =>
    have e : (if x.op = 1 then seenP s t x.loc else s (36 + x.loc.toNat)) = if x.op = 1 then seenP z t x.loc else z (36 + x.loc.toNat) := by
      split
      · rename_i h1; exact hs h1
      · exact hl hL
    rw [e]
    exact thrP_congr hc' _ hk
section
variable {p : Prg} {m : UInt8} {s : By} {t a : Nat} {l : List Ins} {x : Ins}
theorem ExecOf.manyAdd (h : ExecOf p m s t l x) (hb : buffers m x) : manyB (execP m x s t) t = manyB s t + 1 := by
  rw [(h.adds hb t).1]
  exact add_many (addAt_le _) h.room
theorem ExecOf.manyKeep (h : ExecOf p m s t l x) {u : Nat} (hu : u < 4) (hc : u ≠ t ∨ ¬ buffers m x) : manyB (execP m x s t) u = manyB s u := by
  have := congrArg List.length (h.bufKeep hu hc)
  rwa [buf_len, buf_len] at this
theorem ExecOf.perKeep (h : ExecOf p m s t l x) {u : Nat} (hu : u < 4) (hc : u ≠ t ∨ ¬ buffers m x) (k : UInt8) : perL (bufL (execP m x s t) u) k = perL (bufL s u) k := by rw [h.bufKeep hu hc]
end
theorem pcP_eq {s z : By} {t : Nat} (h : s (t * 9) = z (t * 9)) : pcP s t = pcP z t := by unfold pcP; rw [h]
theorem drains_mem {m : UInt8} {s : By} {t j : Nat} (hj : j = 0 ∨ (m = 3 ∧ bLoc s t j ≠ bLoc s t (j - 1))) : ∀ n, j < n → drainAt m s t j ∈ drains m s t n
  | 0, h => absurd h (by omega)
  | n + 1, h => by
    rw [drains]
    rcases Nat.lt_or_ge j n with h1 | h1
    · have := drains_mem hj n h1
      split
      · exact List.mem_append.2 (.inl this)
      · exact this
    · obtain rfl : j = n := by omega
      rw [if_pos hj]
      exact List.mem_append.2 (.inr (by simp))
theorem mem_drainT {p : Prg} {m : UInt8} {s : By} {t j : Nat} (hj : j = 0 ∨ (m = 3 ∧ bLoc s t j ≠ bLoc s t (j - 1))) (hm : j < manyB s t) : ∀ n, t < n → drainAt m s t j ∈ movesN p m s n
  | 0, h => absurd h (by omega)
  | n + 1, h => by
    rw [movesN]
    rcases Nat.lt_or_ge t n with h1 | h1
    · exact List.mem_append.2 (.inl (mem_drainT hj hm n h1))
    · obtain rfl : t = n := by omega
      refine List.mem_append.2 (.inr ?_)
      unfold movesT
      exact List.mem_append.2 (.inr (drains_mem hj _ hm))
structure SimW (q : Prg) (s z : By) : Prop where
  r : RightM q 2 s
  rz : RightM q 3 z
  low : ∀ i, i < 42 → z i = s i
  many : ∀ t, t < 4 → manyB z t = manyB s t
  per : ∀ t, t < 4 → ∀ k, perL (bufL z t) k = perL (bufL s t) k
def toPso (s : By) (x : Pss) : Pss := if x.d = true then ⟨x.t, true, bLoc s x.t.toNat 0⟩ else x
def NoStores (q : Prg) : Prop := ∀ (t : Nat) (l : List Ins) (k : Nat) (x : Ins), q.threads[t]? = some l → l[k]? = some x → ¬ (x.op = 7 ∧ x.mode = 5)
theorem SimW.seen {q : Prg} {s z : By} (h : SimW q s z) {t : Nat} (ht : t < 4) {k : UInt8} (hk : k.toNat < 6) : seenP z t k = seenP s t k := by
  rw [seen_per h.rz ht, seen_per h.r ht, h.per t ht, h.low _ (by omega)]
theorem buffers23 {x : Ins} : buffers 3 x ↔ buffers 2 x := ⟨fun h => ⟨h.1, by decide⟩, fun h => ⟨h.1, by decide⟩⟩
theorem writes23 {x : Ins} : writesM 3 x ↔ writesM 2 x := by
  unfold writesM
  have h3 : (3 : UInt8) ≠ 1 := by decide
  have h2 : (2 : UInt8) ≠ 1 := by decide
  simp [h3, h2]
theorem weak_exec {q : Prg} {s z : By} {t : Nat} {l : List Ins} {i : Ins} (hF : NoStores q) (h : SimW q s z) (hE : ExecOf q 2 s t l i) : ExecOf q 3 z t l i := by
  have ht := hE.t4
  have hpc : pcP z t = pcP s t := pcP_eq (h.low _ (by omega))
  refine ⟨h.rz, hE.hl, by rw [hpc]; exact hE.hx, ?_, ht, hE.op, hE.loc⟩
  have hr := hE.ready
  have hm : z (138 + t) = s (138 + t) := UInt8.toNat_inj.1 (h.many t ht)
  unfold readyI at hr ⊢
  rw [hm]
  by_cases h4 : i.op = 4 ∨ i.op = 5 ∨ i.op = 6
  · rw [if_pos h4] at hr ⊢; exact hr
  · rw [if_neg h4] at hr ⊢
    by_cases h7 : i.op = 7
    · rw [if_pos h7] at hr ⊢
      have h5 : i.mode ≠ 5 := fun e => hF t l _ i hE.hl hE.hx ⟨h7, e⟩
      have h5' : (i.mode == 5) = false := by simpa using h5
      rw [h5', Bool.and_false, Bool.or_false] at hr ⊢
      exact hr
    · rw [if_neg h7]
theorem weak_went {q : Prg} {s z : By} {t : Nat} {l : List Ins} {i : Ins} (h : SimW q s z) (hE : ExecOf q 2 s t l i) (hZ : ExecOf q 3 z t l i) : SimW q (execP 2 i s t) (execP 3 i z t) := by
  have ht := hE.t4
  have hcut : ∀ k, k < 9 → z (t * 9 + k) = s (t * 9 + k) := fun k hk => h.low _ (by omega)
  have hmem : isLocal i = false → z (36 + i.loc.toNat) = s (36 + i.loc.toNat) := fun hL => h.low _ (by have := hE.loc6 hL; omega)
  have hval : valA i (cut z (t * 9)) = valA i (cut s (t * 9)) := valA_congr hcut
  refine ⟨hE.right, hZ.right, fun k hk => ?_, fun u hu => ?_, fun u hu k => ?_⟩
  · rw [hE.low hk, hZ.low hk]
    by_cases h1 : t * 9 ≤ k ∧ k < t * 9 + 9
    · rw [if_pos h1, if_pos h1]
      exact execT_congr hE.op hcut hmem (fun h1 => h.seen ht (hE.loc6 (by simp [isLocal, h1]))) _ (by omega)
    · rw [if_neg h1, if_neg h1]
      by_cases h2 : writesM 2 i ∧ k = 36 + i.loc.toNat
      · rw [if_pos h2, if_pos ⟨writes23.2 h2.1, h2.2⟩, hmem (hE.notLocal (.inl h2.1))]
        exact hasP_congr hcut
      · rw [if_neg h2, if_neg (fun hh => h2 ⟨writes23.1 hh.1, hh.2⟩)]
        exact h.low k hk
  · by_cases hc : u ≠ t ∨ ¬ buffers 2 i
    · rw [hE.manyKeep hu hc, hZ.manyKeep hu (hc.imp_right fun hb hh => hb (buffers23.1 hh))]
      exact h.many u hu
    · have e : u = t := Decidable.not_not.1 fun e => hc (.inl e)
      have hb : buffers 2 i := Decidable.not_not.1 fun e => hc (.inr e)
      subst e
      rw [hE.manyAdd hb, hZ.manyAdd (buffers23.2 hb), h.many u hu]
  · by_cases hc : u ≠ t ∨ ¬ buffers 2 i
    · rw [hE.perKeep hu hc, hZ.perKeep hu (hc.imp_right fun hb hh => hb (buffers23.1 hh))]
      exact h.per u hu k
    · have e : u = t := Decidable.not_not.1 fun e => hc (.inl e)
      have hb : buffers 2 i := Decidable.not_not.1 fun e => hc (.inr e)
      subst e
      rw [hE.perAdd hb, hZ.perAdd (buffers23.2 hb), h.per u hu k, hval]
theorem weak_step {q : Prg} {s z : By} {x : Pss} (hF : NoStores q) (h : SimW q s z) (hx : x ∈ movesM q 2 s) : toPso s x ∈ movesM q 3 z ∧ SimW q (stepM q 2 s x) (stepM q 3 z (toPso s x)) := by
  have hw := went h.r hx
  have hp := h.r.prog
  have hV4 := (valid hp).thr4
  generalize stepM q 2 s x = s' at hw
  cases hw with
  | @exec t l i hE hn =>
    have hto := ofNat_to hE.t4
    have hZ := weak_exec hF h hE
    have e : toPso s ⟨UInt8.ofNat t, false, 0⟩ = ⟨UInt8.ofNat t, false, 0⟩ := rfl
    have hn2 : nextI q z t = some i := nextI_at hZ.hl hZ.hx
    have hen : enabledM q 3 z t = true := by unfold enabledM; rw [hn2]; exact hZ.ready
    have e2 : stepM q 3 z ⟨UInt8.ofNat t, false, 0⟩ = execP 3 i z t := by
      unfold stepM
      rw [if_neg (by simp)]
      show (match nextI q z (UInt8.ofNat t).toNat with | some i => execP 3 i z (UInt8.ofNat t).toNat | none => z) = _
      rw [hto, hn2]
    rw [e, e2]
    exact ⟨mem_exec hen _ (List.getElem?_eq_some_iff.1 hE.hl).1, weak_went h hE hZ⟩
  | @drain t i hD hi he =>
    generalize drainI 2 s t (drainAt 2 s t i).l = a at hD he
    have ht := hD.t4
    have hto := ofNat_to ht
    have ha : a = 0 := by
      rcases Nat.eq_zero_or_pos a with e | e
      · exact e
      · exact absurd (hD.fst 0 e).1 (by decide)
    subst ha
    have htl : t < q.threads.length := by
      obtain ⟨_, l, hl, _⟩ := (h.r.many ht).2 (by omega)
      exact (List.getElem?_eq_some_iff.1 hl).1
    have e : toPso s (drainAt 2 s t i) = ⟨UInt8.ofNat t, true, bLoc s t 0⟩ := by
      unfold toPso
      rw [if_pos (show (drainAt 2 s t i).d = true from rfl)]
      show (⟨UInt8.ofNat t, true, bLoc s (UInt8.ofNat t).toNat 0⟩ : Pss) = _
      rw [hto]
    have hhere := hD.perHere
    rw [← h.per t ht] at hhere
    have hlen := h.many t ht
    obtain ⟨j, hj1, hj2⟩ : ∃ j, j < manyB z t ∧ bLoc z t j = bLoc s t 0 := by
      have hm : (bLoc s t 0, bVal s t 0) ∈ perL (bufL z t) (bLoc s t 0) := by rw [hhere]; simp
      obtain ⟨j, hj⟩ := List.mem_iff_getElem?.1 (List.mem_filter.1 hm).1
      rw [buf_get] at hj
      split at hj
      · rename_i hl
        exact ⟨j, hl, (congrArg Prod.fst (Option.some.inj hj))⟩
      · cases hj
    obtain ⟨hD0, hq0⟩ := drainOf h.rz ht hj1
    have hl3 : (drainAt 3 z t j).l = bLoc s t 0 := hj2
    rw [hl3] at hD0 hq0
    have hq : bLoc z t (drainI 3 z t (bLoc s t 0)) = bLoc s t 0 := (hq0 rfl).trans hj2
    have e3 : stepM q 3 z ⟨UInt8.ofNat t, true, bLoc s t 0⟩ = drainR z t (drainI 3 z t (bLoc s t 0)) := by
      unfold stepM
      rw [if_pos rfl]
      show drainP 3 z (UInt8.ofNat t).toNat _ = _
      rw [hto]
      rfl
    rw [e, e3]
    generalize drainI 3 z t (bLoc s t 0) = b at hD0 hq
    have hmv : (⟨UInt8.ofNat t, true, bLoc s t 0⟩ : Pss) = drainAt 3 z t b := by unfold drainAt; rw [if_pos rfl, hq]
    refine ⟨?_, hD.right, hD0.right, fun k hk => ?_, fun u hu => ?_, fun u hu k => ?_⟩
    · rw [hmv]
      refine mem_drainT ?_ hD0.lt _ htl
      rcases Nat.eq_zero_or_pos b with e0 | e0
      · exact .inl e0
      · exact .inr ⟨rfl, fun e1 => (hD0.fst (b - 1) (by omega)).2 e1.symm⟩
    · have hv : bVal z t b = bVal s t 0 := by
        have h1 := hD0.perHere
        rw [hq, hhere] at h1
        exact (congrArg Prod.snd (List.cons.inj h1).1).symm
      rcases Nat.lt_or_ge k 36 with h36 | h36
      · rw [hD.low h36, hD0.low h36]; exact h.low k hk
      · obtain ⟨k', rfl⟩ : ∃ k', k = 36 + k' := ⟨k - 36, by omega⟩
        rw [drain_mem hD.lt (by omega), drain_mem hD0.lt (by omega), hq, hv, h.low _ hk]
    · by_cases e1 : u = t
      · subst e1
        rw [drain_many hD.lt hD.loc6, drain_many hD0.lt hD0.loc6, hlen]
      · rw [(drain_far hD.lt hD.loc6 hD.n12 ht hu e1).1, (drain_far hD0.lt hD0.loc6 hD0.n12 ht hu e1).1]; exact h.many u hu
    · by_cases e1 : u = t
      · subst e1
        by_cases e2 : bLoc s u 0 = k
        · subst e2
          have h1 := hD0.perHere
          have h2 := hD.perHere
          rw [hq, h.per u ht, h2] at h1
          exact (List.cons.inj h1).2.symm
        · rw [hD.perElse e2, hD0.perElse (by rw [hq]; exact e2)]; exact h.per u hu k
      · rw [hD.bufKeep hu e1, hD0.bufKeep hu e1]; exact h.per u hu k
theorem weak_start {q : Prg} (hp : rightErr q = 0) : SimW q (startP q) (startP q) :=
  ⟨(start_rightM hp (by decide)).1, (start_rightM hp (by decide)).1, fun _ _ => rfl, fun _ _ => rfl, fun _ _ _ => rfl⟩
theorem weak_end {q : Prg} {s z : By} (h : SimW q s z) (he : movesM q 2 s = []) : movesM q 3 z = [] ∧ same 38 (finalP z) (finalP s) = true := by
  obtain ⟨h1, h2⟩ := over_of h.r he
  have hV4 := (valid h.r.prog).thr4
  refine ⟨List.eq_nil_iff_forall_not_mem.2 fun y hy => ?_, same_iff.2 fun i hi => ?_⟩
  · obtain ⟨t, htl, hmv⟩ := mem_movesN hy
    rcases hmv with ⟨_, hen⟩ | ⟨i, hi, _⟩
    · obtain ⟨l, x, hl, hx, _⟩ := enabledM_at hen
      have := h2 t l htl hl
      have h3 : pcP z t = pcP s t := pcP_eq (h.low _ (by omega))
      have h4 := (List.getElem?_eq_some_iff.1 hx).1
      unfold pcP at h3 this
      omega
    · rw [h.many t (by omega), h1 t (by omega)] at hi; omega
  · unfold finalP
    split
    · exact h.low _ (by omega)
    · exact h.low _ (by omega)
end Go.Proofs.YtbgnapmaimkpkaaGreatDoor
