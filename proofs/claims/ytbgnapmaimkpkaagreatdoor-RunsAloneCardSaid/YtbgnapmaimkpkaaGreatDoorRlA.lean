/-
  Plain Lean: a program with one thread comes to one outcome alone, on every machine. Conditions: none.
-/
import Derived.Test.YtbgnapmaimkpkaaGreatDoorRnT
import Derived.Test.YtbgnapmaimkpkaaGreatDoorBfT1
set_option linter.unusedSimpArgs false
set_option linter.unusedVariables false
namespace Go.Proofs.YtbgnapmaimkpkaaGreatDoor

structure SimO (p : Prg) (m : UInt8) (s z : By) : Prop where
  r : RightM p m s
  b : Bare p z
  low : ∀ i, i < 36 → s i = z i
  seen : ∀ loc : UInt8, loc.toNat < 6 → seenP s 0 loc = z (36 + loc.toNat)
theorem ExecOf.bare {p : Prg} {m : UInt8} {s : By} {t : Nat} {l : List Ins} {x : Ins} (h : ExecOf p m s t l x) (h4 : x.op = 4 ∨ x.op = 5 ∨ x.op = 6) : manyB s t = 0 := by
  have hr := h.ready
  unfold readyI at hr
  rw [if_pos h4, beq_iff_eq] at hr
  unfold manyB
  rw [hr]; rfl
theorem writes_bare {p : Prg} {m : UInt8} {s : By} {t : Nat} {l : List Ins} {x : Ins} (h : ExecOf p m s t l x) (hw : writesM m x) : manyB s t = 0 := by
  rcases hw with hw | hw
  · rcases Nat.eq_zero_or_pos (manyB s t) with h0 | h0
    · exact h0
    · exact absurd hw.2 ((h.r.many h.t4).2 (by omega)).1
  · exact h.bare hw
theorem loc_of {k : Nat} (hk : k < 6) : ∃ loc : UInt8, loc.toNat = k ∧ loc.toNat < 6 := ⟨UInt8.ofNat k, by rw [UInt8.toNat_ofNat']; omega, by rw [UInt8.toNat_ofNat']; omega⟩
theorem alone_thr {p : Prg} {m : UInt8} {s z : By} {l : List Ins} {x : Ins} (h : SimO p m s z) (hE : ExecOf p m s 0 l x) {k : Nat} (hk : k < 9) : execT x s 0 k = thrP x (cut z (0 * 9)) (z (36 + x.loc.toNat)) k := by
  have hc : ∀ k, k < 9 → cut s (0 * 9) k = cut z (0 * 9) k := fun k hk => by
    show s (0 * 9 + k) = z (0 * 9 + k)
    exact h.low _ (by omega)
  rw [← thrP_congr hc k hk]
  unfold execT
  by_cases h1 : x.op = 1
  · have hL : isLocal x = false := by simp [isLocal, h1]
    rw [if_pos h1, h.seen x.loc (hE.loc6 hL)]
    unfold thrP
    rw [if_neg (by rw [hL]; decide)]
  · rw [if_neg h1]
    by_cases h2 : x.op = 2
    · have hL : isLocal x = false := by simp [isLocal, h2]
      rw [if_pos h2]
      unfold thrP
      rw [if_neg (by rw [hL]; decide)]
      unfold farP
      rw [if_pos h2]
      rfl
    · rw [if_neg h2]
      by_cases h4 : x.op = 4 ∨ x.op = 5 ∨ x.op = 6
      · have hL : isLocal x = false := by rcases h4 with h | h | h <;> simp [isLocal, h]
        rw [if_pos h4, ← h.seen x.loc (hE.loc6 hL), seen_mem (hE.bare h4)]
        unfold thrP
        rw [if_neg (by rw [hL]; decide)]
      · rw [if_neg h4]
        have hL : isLocal x = true := by
          rcases hE.op with h | h | h | h | h | h | h | h
          · exact absurd h h1
          · exact absurd h h2
          · simp [isLocal, h]
          · exact absurd (.inl h) h4
          · exact absurd (.inr (.inl h)) h4
          · exact absurd (.inr (.inr h)) h4
          · simp [isLocal, h]
          · simp [isLocal, h]
        unfold thrP
        rw [if_pos hL]
theorem alone_seen {p : Prg} {m : UInt8} {s z : By} {l : List Ins} {x : Ins} (h : SimO p m s z) (hE : ExecOf p m s 0 l x) {loc : UInt8} (hl : loc.toNat < 6) : seenP (execP m x s 0) 0 loc = moveP x z 0 (36 + loc.toNat) := by
  have hc : ∀ k, k < 9 → cut s (0 * 9) k = cut z (0 * 9) k := fun k hk => by
    show s (0 * 9 + k) = z (0 * 9 + k)
    exact h.low _ (by omega)
  rw [moveP_at, if_neg (by omega)]
  by_cases hb : buffers m x
  · have hL := hE.notLocal (.inr hb)
    rw [hE.seenOwn hb hl]
    by_cases e : x.loc = loc
    · rw [if_pos e, if_pos ⟨hL, by rw [e]⟩]
      unfold hasP
      rw [if_pos (.inl hb.1)]
      exact valA_congr hc
    · rw [if_neg e, if_neg (fun hh => e (UInt8.toNat_inj.1 (by omega)))]
      exact h.seen loc hl
  · obtain ⟨h1, h2⟩ := hE.still hb 0
    by_cases hw : writesM m x
    · have h0 := writes_bare hE hw
      have hL := hE.notLocal (.inl hw)
      rw [seen_mem (h1.trans h0), hE.mem hl]
      by_cases e : loc.toNat = x.loc.toNat
      · rw [if_pos ⟨hw, e⟩, if_pos ⟨hL, by omega⟩, hasP_congr hc, ← h.seen x.loc (hE.loc6 hL), seen_mem h0]
      · rw [if_neg (fun hh => e hh.2), if_neg (fun hh => e (by omega)), ← h.seen loc hl, seen_mem h0]
    · have e1 : seenP (execP m x s 0) 0 loc = seenP s 0 loc := by
        unfold seenP
        rw [h1]
        exact seenN_congr (by rw [hE.mem hl, if_neg (fun hh => hw hh.1)]) _ (fun i _ => h2 i)
      rw [e1, h.seen loc hl]
      by_cases e : isLocal x = false ∧ 36 + loc.toNat = 36 + x.loc.toNat
      · have h1 : x.op = 1 := by
          rcases hE.op with h | h | h | h | h | h | h | h
          · exact h
          · by_cases h3 : m = 1
            · exact absurd (.inl ⟨h, h3⟩) hw
            · exact absurd ⟨h, h3⟩ hb
          · have := e.1; simp [isLocal, h] at this
          · exact absurd (.inr (.inl h)) hw
          · exact absurd (.inr (.inr (.inl h))) hw
          · exact absurd (.inr (.inr (.inr h))) hw
          · have := e.1; simp [isLocal, h] at this
          · have := e.1; simp [isLocal, h] at this
        rw [if_pos e, hasP_loadM h1, e.2]
      · rw [if_neg e]
theorem alone_step {p : Prg} {m : UInt8} {s z : By} {x : Pss} (h : SimO p m s z) (h1 : p.threads.length = 1) (hx : x ∈ movesM p m s) : SimO p m (stepM p m s x) z ∨ (0 ∈ enabledP p z ∧ SimO p m (stepM p m s x) (stepP p z 0)) := by
  have hw := went h.r hx
  have hr2 := hw.right
  generalize stepM p m s x = s' at hw hr2
  cases hw with
  | @exec t l i hE hn =>
    have ht : t = 0 := by
      have := (List.getElem?_eq_some_iff.1 hE.hl).1
      omega
    subst ht
    have hpc : pcP z 0 = pcP s 0 := by unfold pcP; rw [h.low _ (by omega)]
    have hx2 : l[pcP z 0]? = some i := by rw [hpc]; exact hE.hx
    have hen : 0 ∈ enabledP p z := enabled_mem hE.hl hx2
    have hst : stepP p z 0 = moveP i z 0 := stepP_at hE.hl hx2
    refine .inr ⟨hen, ⟨hr2, h.b.step hen, fun k hk => ?_, fun loc hl => ?_⟩⟩
    · rw [hst, hE.low (by omega), moveP_at]
      by_cases h9 : 0 * 9 ≤ k ∧ k < 0 * 9 + 9
      · rw [if_pos h9, if_pos h9]
        exact alone_thr h hE (by omega)
      · rw [if_neg h9, if_neg h9, if_neg (fun hh => by omega), if_neg (fun hh => by omega)]
        exact h.low k hk
    · rw [hst]
      exact alone_seen h hE hl
  | @drain t i hD hi he =>
    have ht : t = 0 := by
      obtain ⟨_, l, hl, _⟩ := (hD.r.many hD.t4).2 (by have := hD.lt; omega)
      have := (List.getElem?_eq_some_iff.1 hl).1
      omega
    subst ht
    exact .inl ⟨hr2, h.b, fun k hk => (hD.low hk).trans (h.low k hk), fun loc hl => (hD.seen hl).trans (h.seen loc hl)⟩
theorem alone_start {p : Prg} {m : UInt8} (hp : rightErr p = 0) (hm : knownM m = true) : SimO p m (startP p) (startP p) := by
  obtain ⟨hr, h0⟩ := start_rightM hp hm
  exact ⟨hr, bare_start hp, fun _ _ => rfl, fun _ _ => seen_mem (h0 0 (by decide))⟩
theorem alone_run {p : Prg} {m : UInt8} {x : By} (h1 : p.threads.length = 1) : ∀ {r : List Pss} {s z : By}, SimO p m s z → RunM p m s r x → ∃ q y, RunA p z q y ∧ SimO p m x y
  | [], s, z, h, e => by
    have e : x = s := e
    subst e
    exact ⟨[], z, rfl, h⟩
  | y :: r, s, z, h, e => by
    rcases alone_step h h1 e.1 with h2 | ⟨h3, h2⟩
    · exact alone_run h1 h2 e.2
    · obtain ⟨q, w, h4, h5⟩ := alone_run h1 h2 e.2
      exact ⟨0 :: q, w, ⟨h3, h4⟩, h5⟩
theorem alone_end {p : Prg} {m : UInt8} {s z : By} (h : SimO p m s z) (he : movesM p m s = []) : enabledP p z = [] ∧ same 38 (finalP z) (finalP s) = true := by
  obtain ⟨h1, h2⟩ := over_of h.r he
  have hV4 := (valid h.r.prog).thr4
  refine ⟨?_, same_iff.2 fun i hi => ?_⟩
  · refine List.filter_eq_nil_iff.2 fun t htm => ?_
    have htl := List.mem_range.1 htm
    obtain ⟨l, hl⟩ : ∃ l, p.threads[t]? = some l := ⟨_, List.getElem?_eq_getElem htl⟩
    have h3 := h2 t l htl hl
    unfold mayP
    rw [hl]
    unfold pcP at h3
    rw [h.low _ (by omega)] at h3
    simp [h3]
  · unfold finalP
    split
    · exact (h.low _ (by omega)).symm
    · obtain ⟨loc, e, hl⟩ := loc_of (show i - 32 < 6 by omega)
      rw [← e, ← h.seen loc hl, seen_mem (h1 0 (by decide))]
theorem alone_one {p : Prg} (h1 : p.threads.length = 1) {y y' : By} : ∀ {q q' : List Nat} {s : By}, RunA p s q y → RunA p s q' y' → enabledP p y = [] → enabledP p y' = [] → y = y'
  | [], [], s, h, h', _, _ => by
    have h : y = s := h
    have h' : y' = s := h'
    rw [h, h']
  | [], t :: _, s, h, h', e, _ => by
    have h : y = s := h
    subst h
    have h2 : t ∈ enabledP p y := h'.1
    rw [e] at h2
    cases h2
  | t :: _, [], s, h, h', _, e => by
    have h' : y' = s := h'
    subst h'
    have h2 : t ∈ enabledP p y' := h.1
    rw [e] at h2
    cases h2
  | t :: q, u :: q', s, h, h', e, e' => by
    have hz : ∀ {k : Nat}, k ∈ enabledP p s → k = 0 := fun hk => by
      have := List.mem_range.1 (List.mem_filter.1 hk).1
      omega
    obtain rfl := hz h.1
    obtain rfl := hz h'.1
    exact alone_one h1 h.2 h'.2 e e'
theorem runA_of {p : Prg} {z : By} : ∀ {r : List Nat} {ix : List UInt8} {s : By}, Runs p s r ix z → RunA p s r z
  | [], [], _, h => h
  | _ :: _, _ :: _, _, h => ⟨List.mem_of_getElem? h.1, runA_of h.2⟩
  | [], _ :: _, _, h => h.elim
  | _ :: _, [], _, h => h.elim
theorem alone_out {p : Prg} {m : UInt8} {x : List UInt8} (hp : rightErr p = 0) (hm : knownM m = true) (h1 : p.threads.length = 1) (picks : List UInt8) : OutM p m x ↔ x = toL 38 (playF p picks) := by
  obtain ⟨r, ix, z, e, hr, hz⟩ := runs_of_play hp picks 48 (startP p) [] (mu_start hp _)
  have eF : playF p picks = finalP z := by
    unfold playF playR
    rw [if_pos hp, e]
  rw [eF]
  have hra := runA_of hr
  constructor
  · rintro ⟨r2, s, h2, h3, rfl⟩
    obtain ⟨q, y, h4, h5⟩ := alone_run h1 (alone_start hp hm) h2
    obtain ⟨h6, h7⟩ := alone_end h5 h3
    have := alone_one h1 h4 hra h6 hz
    subst this
    exact toL_eq.2 (same_iff.2 fun i hi => ((same_iff.1 h7) i hi).symm)
  · rintro rfl
    have h0 := bare_start hp
    obtain ⟨q, hq⟩ := bare_run hm h0 hra
    exact ⟨q, z, hq, bare_end hm (h0.run hra) hz, rfl⟩
end Go.Proofs.YtbgnapmaimkpkaaGreatDoor
