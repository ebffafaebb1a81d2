/-
  Plain Lean: the outcomes of the machines beside each other. Conditions: none.
-/
import Derived.Test.YtbgnapmaimkpkaaGreatDoorRnS1
import Derived.Test.YtbgnapmaimkpkaaGreatDoorBfZ
import Derived.Test.YtbgnapmaimkpkaaGreatDoorBfK
import Derived.Test.YtbgnapmaimkpkaaGreatDoorBfX
set_option linter.unusedSimpArgs false
set_option linter.unusedVariables false
namespace Go.Proofs.YtbgnapmaimkpkaaGreatDoor

def RunA (p : Prg) : By → List Nat → By → Prop
  | s, [], z => z = s
  | s, t :: r, z => t ∈ enabledP p s ∧ RunA p (stepP p s t) r z
structure Bare (p : Prg) (s : By) : Prop where
  r : rightS p s = true
  t : Tidy s
theorem Bare.step {p : Prg} {s : By} {t : Nat} (h : Bare p s) (ht : t ∈ enabledP p s) : Bare p (stepP p s t) := by
  obtain ⟨l, x, hst⟩ := stepOf (right_of h.r) ht
  exact ⟨hst.right h.r, fun i hi => (hst.rest (right_of h.r) (by omega)).trans (h.t i hi)⟩
theorem bare_start {p : Prg} (h : rightErr p = 0) : Bare p (startP p) := ⟨start_right h, start_tidy h⟩
theorem Bare.run {p : Prg} {z : By} : ∀ {r : List Nat} {s : By}, Bare p s → RunA p s r z → Bare p z
  | [], s, h, e => by
    have e : z = s := e
    subst e; exact h
  | _ :: _, _, h, e => Bare.run (h.step e.1) e.2
theorem bare_moves {p : Prg} {m : UInt8} {s : By} {t : Nat} (hm : knownM m = true) (h : Bare p s) (ht : t ∈ enabledP p s) : ∃ r, RunM p m s r (stepP p s t) := by
  have hP := plainOf h.r hm ht
  obtain ⟨l, x, hE, hn, h1, h2⟩ := hP.instr
  have hz := (h.step ht).t
  by_cases hb : buffers m x
  · obtain ⟨a1, a2, a3⟩ := exec_drain hE hP.z hb
    have hw := went hP.r hP.mem
    have hr2 := hw.right
    have ht2 := hw.tidy h.t
    rw [h1] at hr2 ht2
    have hd0 : 0 < manyB (execP m x s t) t := by rw [a1]; omega
    have hmem := mem_drain0 hd0 (p := p) (m := m) p.threads.length hP.tl
    have hw2 := went hr2 hmem
    have hto := ofNat_to hP.t4
    have hI : drainI m (execP m x s t) t (drainAt m (execP m x s t) t 0).l = 0 := by
      have := (drainOf hr2 hP.t4 hd0).1.lt
      omega
    have e : stepM p m (execP m x s t) (drainAt m (execP m x s t) t 0) = stepP p s t := by
      refine (tidy_eq (hw2.tidy ht2) hz).1 (same_iff.2 fun i hi => ?_)
      unfold stepM
      rw [if_pos (show (drainAt m (execP m x s t) t 0).d = true from rfl)]
      show drainP m (execP m x s t) (UInt8.ofNat t).toNat _ i = _
      rw [hto]
      unfold drainP
      rw [hI, a3 i hi, h2]
    exact ⟨[⟨UInt8.ofNat t, false, 0⟩, drainAt m (execP m x s t) t 0], hP.mem, by rw [h1]; exact ⟨hmem, e.symm⟩⟩
  · refine ⟨[⟨UInt8.ofNat t, false, 0⟩], hP.mem, ?_⟩
    show stepP p s t = stepM p m s ⟨UInt8.ofNat t, false, 0⟩
    rw [h1, h2]
    funext i
    exact (exec_plain hE hP.z hb i).symm
theorem RunM.append {p : Prg} {m : UInt8} {y z : By} {q : List Pss} : ∀ {r : List Pss} {s : By}, RunM p m s r y → RunM p m y q z → RunM p m s (r ++ q) z
  | [], s, h, e => by
    have h : y = s := h
    subst h; exact e
  | _ :: _, _, h, e => ⟨h.1, RunM.append h.2 e⟩
theorem bare_run {p : Prg} {m : UInt8} {z : By} (hm : knownM m = true) : ∀ {r : List Nat} {s : By}, Bare p s → RunA p s r z → ∃ q, RunM p m s q z
  | [], s, _, e => ⟨[], e⟩
  | _ :: _, _, h, e => by
    obtain ⟨q1, h1⟩ := bare_moves hm h e.1
    obtain ⟨q2, h2⟩ := bare_run hm (h.step e.1) e.2
    exact ⟨q1 ++ q2, h1.append h2⟩
theorem bare_end {p : Prg} {m : UInt8} {s : By} (hm : knownM m = true) (h : Bare p s) (he : enabledP p s = []) : movesM p m s = [] := by
  obtain ⟨hr, hz⟩ := rightM_of h.r hm
  have hV4 := (valid hr.prog).thr4
  unfold movesM
  rw [moves_sc hz m _ hV4]
  have : (List.range p.threads.length).filter (mayP p s) = [] := he
  rw [this]; rfl
theorem sc_run {p : Prg} {z : By} : ∀ {r : List Pss} {s : By}, Bare p s → RunM p 1 s r z → ∃ q, RunA p s q z
  | [], s, _, e => ⟨[], e⟩
  | x :: r, s, h, e => by
    have hm : knownM 1 = true := by decide
    obtain ⟨hr, hz⟩ := rightM_of h.r hm
    have hV4 := (valid hr.prog).thr4
    have hx := e.1
    unfold movesM at hx
    rw [moves_sc hz 1 _ hV4] at hx
    obtain ⟨t, ht, rfl⟩ := List.mem_map.1 hx
    have hP := plainOf h.r hm ht
    obtain ⟨l, i, hE, hn, h1, h2⟩ := hP.instr
    have hb : ¬ buffers 1 i := fun hh => hh.2 rfl
    have e1 : stepM p 1 s ⟨UInt8.ofNat t, false, 0⟩ = stepP p s t := by
      rw [h1, h2]
      funext k
      exact exec_plain hE hP.z hb k
    have e2 := e.2
    rw [e1] at e2
    obtain ⟨q, hq⟩ := sc_run (h.step ht) e2
    exact ⟨t :: q, ht, hq⟩
theorem sc_end {p : Prg} {s : By} (h : Bare p s) (he : movesM p 1 s = []) : enabledP p s = [] := by
  obtain ⟨hr, hz⟩ := rightM_of h.r (show knownM 1 = true by decide)
  have hV4 := (valid hr.prog).thr4
  unfold movesM at he
  rw [moves_sc hz 1 _ hV4] at he
  exact List.map_eq_nil_iff.1 he
theorem out_sc {p : Prg} {m : UInt8} {x : List UInt8} (hp : rightErr p = 0) (hm : knownM m = true) (h : OutM p 1 x) : OutM p m x := by
  obtain ⟨r, z, h1, h2, h3⟩ := h
  have h0 := bare_start hp
  obtain ⟨q, hq⟩ := sc_run h0 h1
  have hz := h0.run hq
  obtain ⟨r2, hr2⟩ := bare_run hm h0 hq
  exact ⟨r2, z, hr2, bare_end hm hz (sc_end hz h2), h3⟩
theorem weak_run {q : Prg} {x : By} (hF : NoStores q) : ∀ {r : List Pss} {s z : By}, SimW q s z → RunM q 2 s r x → ∃ r' y, RunM q 3 z r' y ∧ SimW q x y
  | [], s, z, h, e => by
    have e : x = s := e
    subst e
    exact ⟨[], z, rfl, h⟩
  | y :: r, s, z, h, e => by
    obtain ⟨h1, h2⟩ := weak_step hF h e.1
    obtain ⟨r', w, h3, h4⟩ := weak_run hF h2 e.2
    exact ⟨_ :: r', w, ⟨h1, h3⟩, h4⟩
theorem out_weak {p : Prg} {x : List UInt8} (hp : rightErr p = 0) (hF : NoStores p) (h : OutM p 2 x) : OutM p 3 x := by
  obtain ⟨r, z, h1, h2, rfl⟩ := h
  obtain ⟨r', y, h3, h4⟩ := weak_run hF (weak_start hp) h1
  obtain ⟨h5, h6⟩ := weak_end h4 h2
  exact ⟨r', y, h3, h5, toL_eq.2 (same_iff.2 fun i hi => ((same_iff.1 h6) i hi).symm)⟩
theorem fenced_run {q : Prg} {m : UInt8} {x : By} (hF : FencedP q) (hm : m ≠ 1) : ∀ {r : List Pss} {s z : By}, SimF q m s z → RunM q m s r x → ∃ r' y, RunA q z r' y ∧ SimF q m x y
  | [], s, z, h, e => by
    have e : x = s := e
    subst e
    exact ⟨[], z, rfl, h⟩
  | y :: r, s, z, h, e => by
    rcases sim_step hF hm h e.1 with ⟨_, h2⟩ | ⟨_, h1, h2⟩
    · exact fenced_run hF hm h2 e.2
    · obtain ⟨r', w, h3, h4⟩ := fenced_run hF hm h2 e.2
      exact ⟨_ :: r', w, ⟨h1, h3⟩, h4⟩
theorem out_fenced {q : Prg} {m : UInt8} {x : List UInt8} (hp : rightErr q = 0) (hF : FencedP q) (hm : knownM m = true) : OutM q m x ↔ OutM q 1 x := by
  refine ⟨fun h => ?_, out_sc hp hm⟩
  by_cases h1 : m = 1
  · subst h1; exact h
  · obtain ⟨r, z, h2, h3, rfl⟩ := h
    obtain ⟨r', y, h4, h5⟩ := fenced_run hF h1 (sim_start hp hm) h2
    obtain ⟨h6, h7⟩ := sim_end h5 h3
    have h0 := bare_start hp
    obtain ⟨r2, hr2⟩ := bare_run (m := 1) (by decide) h0 h4
    exact ⟨r2, y, hr2, bare_end (by decide) (h0.run h4) h6, toL_eq.2 (same_iff.2 fun i hi => ((same_iff.1 h7) i hi).symm)⟩
end Go.Proofs.YtbgnapmaimkpkaaGreatDoor
