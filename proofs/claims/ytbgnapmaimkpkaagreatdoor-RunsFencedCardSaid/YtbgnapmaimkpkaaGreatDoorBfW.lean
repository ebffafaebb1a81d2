/-
  Plain Lean: runs of a machine with store buffers. Conditions: none.
-/
import Derived.Test.YtbgnapmaimkpkaaGreatDoorBfV
set_option linter.unusedSimpArgs false
set_option linter.unusedVariables false
namespace Go.Proofs.YtbgnapmaimkpkaaGreatDoor

def RunM (p : Prg) (m : UInt8) : By → List Pss → By → Prop
  | s, [], z => z = s
  | s, x :: r, z => x ∈ movesM p m s ∧ RunM p m (stepM p m s x) r z
theorem pickM_mem {picks : List UInt8} {n : Nat} {l : List Pss} (h : l ≠ []) : pickM picks n l ∈ l := by
  have hpos : 0 < l.length := List.length_pos_iff.2 h
  have key : ∀ q, q < l.length → l.getD q ⟨0, false, 0⟩ ∈ l := fun q hq => by
    rw [List.getD_eq_getElem?_getD, List.getElem?_eq_getElem hq]
    exact List.getElem_mem hq
  unfold pickM
  refine key _ ?_
  split
  · exact Nat.mod_lt _ hpos
  · exact hpos
theorem runM_of_play {p : Prg} {m : UInt8} (picks : List UInt8) : ∀ (f : Nat) (s : By) (run0 : List Pss), RightM p m s → nu p s ≤ f →
    ∃ r z, playM p m picks f s run0 = (z, run0 ++ r) ∧ RunM p m s r z ∧ movesM p m z = []
  | 0, s, run0, hr, h => by
    have he : movesM p m s = [] := by
      cases hq : movesM p m s with
      | nil => rfl
      | cons k r => have := (went hr (x := k) (by rw [hq]; simp)).nu; omega
    exact ⟨[], s, by rw [playM_end he]; simp, rfl, he⟩
  | f + 1, s, run0, hr, h => by
    by_cases he : movesM p m s = []
    · exact ⟨[], s, by rw [playM_end he]; simp, rfl, he⟩
    · have hmem := pickM_mem (picks := picks) (n := run0.length) he
      have hw := went hr hmem
      have hnu := hw.nu
      obtain ⟨r, z, h1, h2, h3⟩ := runM_of_play picks f (stepM p m s (pickM picks run0.length (movesM p m s))) (run0 ++ [pickM picks run0.length (movesM p m s)]) hw.right (by omega)
      exact ⟨_ :: r, z, by rw [playM_step he rfl, h1]; simp, ⟨hmem, h2⟩, h3⟩
theorem RunM.nu {p : Prg} {m : UInt8} {z : By} : ∀ {r : List Pss} {s : By}, RightM p m s → RunM p m s r z → r.length + nu p z ≤ nu p s
  | [], s, _, h => by
    have h : z = s := h
    subst h; simp
  | x :: r, s, hr, h => by
    have hw := went hr h.1
    have := RunM.nu hw.right h.2
    have := hw.nu
    simp only [List.length_cons]
    omega
theorem RunM.right {p : Prg} {m : UInt8} {z : By} : ∀ {r : List Pss} {s : By}, RightM p m s → RunM p m s r z → RightM p m z
  | [], s, hr, h => by
    have h : z = s := h
    subst h; exact hr
  | x :: r, s, hr, h => RunM.right (went hr h.1).right h.2
theorem RunM.nil {p : Prg} {m : UInt8} {s z : By} (h : RunM p m s [] z) : z = s := h
theorem RunM.uncons {p : Prg} {m : UInt8} {s z : By} {x : Pss} {r : List Pss} (h : RunM p m s (x :: r) z) : x ∈ movesM p m s ∧ RunM p m (stepM p m s x) r z := h
theorem play_runs {p : Prg} {m : UInt8} (hp : rightErr p = 0) (hm : knownM m = true) (picks : List UInt8) : ∃ r z, playFM p m picks = finalP z ∧ playOM p m picks = r ∧ playEM p m = 0 ∧ RunM p m (startP p) r z ∧ movesM p m z = [] ∧ RightM p m (startP p) ∧ RightM p m z ∧ r.length ≤ 96 ∧ r.length + nu p z ≤ nu p (startP p) := by
  have hok : okM p m := ⟨hp, hm⟩
  obtain ⟨hr, h0⟩ := start_rightM hp hm
  obtain ⟨r, z, h1, h2, h3⟩ := runM_of_play picks 96 (startP p) [] hr (nu_start hp hm)
  rw [List.nil_append] at h1
  have hn := RunM.nu hr h2
  have := nu_start hp hm
  exact ⟨r, z, by rw [playFM, if_pos hok, playRM, h1], by rw [playOM, if_pos hok, playRM, h1], if_pos hok, h2, h3, hr, h2.right hr, by omega, hn⟩
def goesP (l : List Pss) (t : Nat) : Bool := l.any fun y => y.t.toNat == t && !y.d
def drainsP (l : List Pss) (t : Nat) : Bool := l.any fun y => y.t.toNat == t && y.d
theorem goes_iff {p : Prg} {m : UInt8} {s : By} {t : Nat} (hr : RightM p m s) (ht : t < p.threads.length) : goesP (movesM p m s) t = enabledM p m s t := by
  have hV4 := (valid hr.prog).thr4
  rw [Bool.eq_iff_iff, goesP, List.any_eq_true]
  constructor
  · rintro ⟨y, hy, h⟩
    obtain ⟨u, hul, hmv⟩ := mem_movesN hy
    have hto := ofNat_to (t := u) (by omega)
    rcases hmv with ⟨rfl, hen⟩ | ⟨i, hi, rfl⟩
    · simp only [Bool.and_eq_true, beq_iff_eq] at h
      rw [hto] at h
      rw [← h.1]; exact hen
    · simp [drainAt] at h
  · intro h
    refine ⟨⟨UInt8.ofNat t, false, 0⟩, mem_exec h _ ht, ?_⟩
    have hto := ofNat_to (t := t) (by omega)
    simp [hto]
theorem drains_iff {p : Prg} {m : UInt8} {s : By} {t : Nat} (hr : RightM p m s) (ht : t < p.threads.length) : drainsP (movesM p m s) t = decide (0 < manyB s t) := by
  have hV4 := (valid hr.prog).thr4
  rw [Bool.eq_iff_iff, drainsP, List.any_eq_true, decide_eq_true_eq]
  constructor
  · rintro ⟨y, hy, h⟩
    obtain ⟨u, hul, hmv⟩ := mem_movesN hy
    have hto := ofNat_to (t := u) (by omega)
    rcases hmv with ⟨rfl, hen⟩ | ⟨i, hi, rfl⟩
    · simp at h
    · simp only [drainAt, Bool.and_eq_true, beq_iff_eq] at h
      rw [hto] at h
      rw [← h.1]; omega
  · intro h
    refine ⟨drainAt m s t 0, mem_drain0 h _ ht, ?_⟩
    have hto := ofNat_to (t := t) (by omega)
    simp [drainAt, hto]
theorem over_of {p : Prg} {m : UInt8} {z : By} (hr : RightM p m z) (h : movesM p m z = []) : (∀ t, t < 4 → manyB z t = 0) ∧ ∀ t l, t < p.threads.length → p.threads[t]? = some l → pcP z t = l.length := by
  have hV4 := (valid hr.prog).thr4
  have h0 : ∀ t, t < p.threads.length → manyB z t = 0 := fun t ht => by
    have := drains_iff hr ht
    rw [h, drainsP, List.any_nil] at this
    have := of_decide_eq_false this.symm
    omega
  refine ⟨fun t ht => ?_, fun t l ht hl => ?_⟩
  · rcases Nat.lt_or_ge t p.threads.length with h1 | h1
    · exact h0 t h1
    · apply Decidable.byContradiction
      intro hne
      obtain ⟨_, l, hl, _⟩ := (hr.many ht).2 hne
      rw [List.getElem?_eq_none h1] at hl; cases hl
  · have he := goes_iff hr ht
    rw [h, goesP, List.any_nil] at he
    have hpc := hr.pc (by omega) hl
    rcases Nat.eq_or_lt_of_le hpc with e | e
    · exact e
    · exfalso
      obtain ⟨x, hx⟩ : ∃ x, l[(z (t * 9)).toNat]? = some x := ⟨_, List.getElem?_eq_getElem e⟩
      have hn : nextI p z t = some x := by unfold nextI; rw [hl]; exact hx
      have h0t : (z (138 + t) == 0) = true := by
       have h0 := h0 t ht
       unfold manyB at h0
       rw [beq_iff_eq]; exact UInt8.toNat_inj.1 h0
      have : enabledM p m z t = true := by
        unfold enabledM
        rw [hn]
        show readyI x m z t = true
        unfold readyI
        rw [h0t]
        split
        · rfl
        · split
          · exact Bool.or_true _
          · rfl
      rw [this] at he; cases he
end Go.Proofs.YtbgnapmaimkpkaaGreatDoor
