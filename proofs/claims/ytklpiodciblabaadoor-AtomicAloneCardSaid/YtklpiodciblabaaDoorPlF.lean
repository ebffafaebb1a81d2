/-
  WALK2. The law AtomicAlone: any program reduced to one of its threads. Conditions: the program and the two tables lie in memory.
-/
import Derived.Test.YtklpiodciblabaaDoorPlE
set_option linter.unusedSimpArgs false
set_option linter.unusedVariables false
namespace Go.Proofs.YtklpiodciblabaaDoor
open Go.RowKit
set_option maxRecDepth 100000
/-- One thread alone. -/
def oneT (p : Prg) (l : List Ins) : Prg := { p with threads := [l], cond := .mk 0 0 0 0 [] }
theorem one_right {p : Prg} {k : Nat} {l : List Ins} (h : rightErr p = 0) (hk : p.threads[k]? = some l) : rightErr (oneT p l) = 0 := by
  have hm := List.mem_of_getElem? hk
  unfold rightErr
  have : ∀ i, i < 6 → demandK (oneT p l) i = true := fun i hi => by
    have h0 := right_demand h i hi
    match i, hi, h0 with
    | 0, _, h0 => exact h0
    | 1, _, h0 => exact h0
    | 2, _, h0 =>
      show threadsShort (oneT p l) = true
      have h0 : threadsShort p = true := h0
      simp only [threadsShort, Bool.and_eq_true, decide_eq_true_eq, List.all_eq_true] at h0 ⊢
      refine ⟨⟨Nat.le_refl 1, (show 1 ≤ 4 by decide)⟩, fun t ht => ?_⟩
      obtain rfl : t = l := List.mem_singleton.1 ht
      exact h0.2 t hm
    | 3, _, h0 =>
      show threadsOk (oneT p l) = true
      have h0 : threadsOk p = true := h0
      simp only [threadsOk, List.all_eq_true] at h0 ⊢
      intro t ht
      obtain rfl : t = l := List.mem_singleton.1 ht
      exact h0 t hm
    | 4, _, h0 => exact h0
    | 5, _, _ => rfl
  simp [rightFrom, this]
theorem one_at {w0 w : World} {rs : List Res} (H : Own w0 none w rs) (i : Nat) {b : Nat} {T : TypeId} {cs : List Value} {p : Prg} {LA IA TA BT : Option Addr} {LC IC TC h CT : Nat} {ccs : List Value} {l : List Ins} (hi : rs[i]? = some (.blk b [.slice BT l.length CT] T)) (hp : ProgIn w0 cs p LA LC IA IC TA TC h ccs) (h2 : RowsAt w0 BT 10 (l.map Ins.cells)) (h3 : l.length ≤ 9223372036854775807) :
    ProgAt w [.string p.name, .slice LA p.locs.length LC, .slice IA p.init.length IC, .slice (some ⟨b, 0, none⟩) 1 1, Go.Proofs.YtklpiodciblabaaDoor.b8 p.ask, Go.Proofs.YtklpiodciblabaaDoor.b8 0, Go.Proofs.YtklpiodciblabaaDoor.b8 0, Go.Proofs.YtklpiodciblabaaDoor.b8 0, Go.Proofs.YtklpiodciblabaaDoor.b8 0, .slice none 0 0] (oneT p l) :=
  ⟨LA, LC, IA, IC, some ⟨b, 0, none⟩, 1, 1, _, rfl, hp.name, RowsAt.own hp.locs H, hp.locsN, hp.locsC, hp.locsS, RowsAt.own hp.init H, hp.initN, fun j t ht => by
    obtain rfl : j = 0 := by
      have : j < 1 := (List.getElem?_eq_some_iff.1 ht).1
      omega
    obtain rfl : l = t := Option.some.inj ht
    exact ⟨b, 0, BT, CT, rfl, H.cell i hi rfl, RowsAt.own h2 H, h3⟩, (show 1 ≤ 9223372036854775807 by decide), none, 0, rfl, (show 0 ≤ 9223372036854775807 by decide), fun j kid hk => by simp at hk⟩
/-- A thread of a valid program is a valid thread of six locations. -/
theorem thread_six {p : Prg} {k : Nat} {l : List Ins} (h : rightErr p = 0) (hk : p.threads[k]? = some l) : threadOk 6 l = true := by
  have hV := valid h
  have h3 : threadsOk p = true := right_demand h 3 (by omega)
  simp only [threadsOk, List.all_eq_true] at h3
  have h4 := h3 l (List.mem_of_getElem? hk)
  simp only [threadOk, Bool.and_eq_true, decide_eq_true_eq] at h4 ⊢
  have h6 := hV.locs6
  refine ⟨h4.1, ?_⟩
  have key : ∀ (n : Nat) (q : List Ins) (i : Nat), insesOk (p.locs.length : Int) n i q = true → insesOk 6 n i q = true := by
    intro n q
    induction q with
    | nil => intro i _; rfl
    | cons x q ih =>
      intro i hi
      simp only [insesOk, Bool.and_eq_true] at hi ⊢
      refine ⟨?_, ih _ hi.2⟩
      have hx := hi.1
      unfold insOk at hx ⊢
      rw [List.all_eq_true] at hx ⊢
      intro j hj
      have hj2 := hx j hj
      match j, hj2 with
      | 0, h | 1, h | 2, h | 4, h | 5, h | 6, h | 7, h => exact h
      | 3, h =>
        simp only [condK, Bool.or_eq_true, decide_eq_true_eq] at h ⊢
        rcases h with h | h
        · exact .inl h
        · exact .inr (by omega)
      | j + 8, _ => rfl
  exact key _ _ _ h4.2
def memOf (p : Prg) : By := lay zb 0 (min p.init.length 6) (ofL p.init)
/-- All that is known of the thread alone. -/
structure AloneR (p : Prg) (l : List Ins) (vs : List UInt8) (z : RunP) : Prop where
  run : Alone (memOf p) l zRun vs z
  regs : ∀ d, d < 8 → z.regs d = playF (oneT p l) [] d
  mem : ∀ k, k < 6 → memL (memOf p) (evsP z) k = playF (oneT p l) [] (32 + k)
  order : (playO (oneT p l) []).length ≤ l.length
theorem alone_r {p : Prg} {l : List Ins} {k : Nat} (h : rightErr p = 0) (hk : p.threads[k]? = some l) : ∃ vs z, AloneR p l vs z := by
  have hq := one_right h hk
  have hl := thread_six h hk
  have hmu := mu_start hq (startP (oneT p l))
  obtain ⟨r, ix, z, h1, h2, h3⟩ := runs_of_play hq [] 48 (startP (oneT p l)) [] hmu
  have hs := start_at hq
  have h0 : SimA (memOf p) (startP (oneT p l)) zRun := by
    refine ⟨?_, fun d hd => ?_, fun i hi => ?_⟩
    · rw [hs, if_neg (by omega)]; rfl
    · rw [hs, if_neg (by omega)]; rfl
    · show startP p (36 + i) = lay zb 0 (min p.init.length 6) (ofL p.init) i
      unfold startP lay
      by_cases hc : i < min p.init.length 6
      · rw [if_pos (by omega), if_pos (by omega), show 36 + i - 36 = i by omega, Nat.sub_zero]
      · rw [if_neg (by omega), if_neg (by omega)]; rfl
  obtain ⟨vs, r', hA, hz⟩ := alone_of hq rfl hl h3 h2 h0
  have e1 : playF (oneT p l) [] = finalP z := by
    unfold playF playR
    rw [if_pos hq, h1]
  have e2 : playO (oneT p l) [] = r := by
    unfold playO playR
    rw [if_pos hq, h1]; rfl
  refine ⟨vs, r', hA, fun d hd => ?_, fun i hi => ?_, ?_⟩
  · rw [e1, ← hz.regs d hd]
    unfold finalP
    rw [if_pos (by omega)]
    congr 1
    omega
  · rw [e1, ← hz.mem i hi]
    unfold finalP
    rw [if_neg (by omega)]
    congr 1
    omega
  · rw [e2]
    have h5 := Runs.mu hq h2
    rw [mu_sum hq] at h5
    have h6 : sumL (oneT p l).threads = l.length := by show sumL [l] = _; simp [sumL]
    omega
/-- What Follow answers to the first j reads. -/
def Qv (n : Nat) (z : RunP) (j : Nat) : FR := if j < n then ⟨zPathP, true, 0⟩ else ⟨runPath z, false, 0⟩
theorem qv_err (n : Nat) (z : RunP) (j : Nat) : (Qv n z j).err = 0 := by unfold Qv; split <;> rfl
theorem qv_more (n : Nat) (z : RunP) (j : Nat) : (Qv n z j).more = decide (j < n) := by
  unfold Qv
  split
  next h => exact (decide_eq_true h).symm
  next h => exact (decide_eq_false h).symm
theorem qv_end {n : Nat} {z : RunP} {j : Nat} (h : ¬ j < n) : Qv n z j = ⟨runPath z, false, 0⟩ := by unfold Qv; rw [if_neg h]
theorem follow_v {m0 : By} {l : List Ins} {vs : List UInt8} {z : RunP} (hl : threadOk 6 l = true) (h : Alone m0 l zRun vs z) (j : Nat) (hj : j ≤ vs.length) : followR l (vs.take j) = Qv vs.length z j := by
  unfold Qv
  by_cases hc : j < vs.length
  · rw [if_pos hc]
    obtain ⟨W, x, hW⟩ := h.atRead j hc
    refine followR_ok (q := .wants) hl ?_
    show goP l _ zRun = .wants
    have := hW.go []
    rw [List.append_nil] at this
    rw [this]
    exact go_wait hW.ins hW.reads
  · rw [if_neg hc, List.take_of_length_le (by omega)]
    exact followR_ok (q := .done z) hl h.done
theorem same_true {n : Nat} {a b : By} (h : ∀ i, i < n → a i = b i) : same n a b = true := same_iff.2 h
end Go.Proofs.YtklpiodciblabaaDoor
