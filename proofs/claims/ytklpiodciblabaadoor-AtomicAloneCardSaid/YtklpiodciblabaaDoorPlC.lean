/-
  Plain Lean: a run of layer 13 with one thread is the thread's run alone. Conditions: none.
-/
import Derived.Test.YtklpiodciblabaaDoorPlB
set_option linter.unusedSimpArgs false
set_option linter.unusedVariables false
namespace Go.Proofs.YtklpiodciblabaaDoor
set_option maxRecDepth 100000
/-- A state of layer 13 beside a path's run. -/
structure SimA (m0 : By) (s : By) (r : RunP) : Prop where
  pc : (s 0).toNat = r.pc
  regs : ∀ d, d < 8 → s (1 + d) = r.regs d
  mem : ∀ k, k < 6 → s (36 + k) = memL m0 (evsP r) k
theorem valA_eq {m0 s : By} {r : RunP} {x : Ins} (h : SimA m0 s r) (hx : InR x) : valA x (cut s 0) = argV x.aR x.aN r := by
  unfold valA worthP argV
  cases hr : x.aR with
  | true =>
    have h8 := hx.a hr
    simp only [if_true, h8]
    show s (0 + (1 + x.aN.toNat)) = _
    rw [Nat.zero_add]
    exact h.regs _ h8
  | false => simp
theorem valB_eq {m0 s : By} {r : RunP} {x : Ins} (h : SimA m0 s r) (hx : InR x) : valB x (cut s 0) = argV x.bR x.bN r := by
  unfold valB worthP argV
  cases hr : x.bR with
  | true =>
    have h8 := hx.b hr
    simp only [if_true, h8]
    show s (0 + (1 + x.bN.toNat)) = _
    rw [Nat.zero_add]
    exact h.regs _ h8
  | false => simp
theorem cut0 (s : By) (i : Nat) : cut s 0 i = s i := by unfold cut; rw [Nat.zero_add]
theorem skip_fn {fn a b : UInt8} (h : fn = 4 ∨ fn = 5 ∨ fn = 6) : skipsP fn a b = skpF fn a b := by
  unfold skipsP skpF
  rcases h with h | h | h <;> rw [h] <;> rfl
theorem move_fn {fn a b : UInt8} (h : fn = 1 ∨ fn = 2 ∨ fn = 3) : movedP fn a b = movF fn a b := by
  unfold movedP movF
  rcases h with h | h | h <;> rw [h] <;> rfl
/-- The functions that an instruction may name. -/
theorem thr_fn {l : List Ins} (h : threadOk 6 l = true) {k : Nat} {x : Ins} (hk : l[k]? = some x) : (x.op = 3 → x.fn = 1 ∨ x.fn = 2 ∨ x.fn = 3) ∧ (x.op = 8 → x.fn = 4 ∨ x.fn = 5 ∨ x.fn = 6) := by
  simp only [threadOk, Bool.and_eq_true, decide_eq_true_eq] at h
  have hI := inses_at h.2 hk
  have c6 : fnOk x.op x.fn = true := ins_cond hI 6 (by decide)
  unfold fnOk at c6
  constructor
  · intro ho
    rw [if_pos ho] at c6
    simp only [Bool.or_eq_true, beq_iff_eq] at c6
    rcases c6 with (h | h) | h <;> simp [h]
  · intro ho
    rw [ho, if_neg (by decide), if_pos rfl] at c6
    simp only [Bool.or_eq_true, beq_iff_eq] at c6
    rcases c6 with (h | h) | h <;> simp [h]
theorem memL_new {x : Ins} {l : List Ins} {m0 s : By} {r : RunP} (h : SimA m0 s r) (hx : InR x) (ho : x.op = 1 ∨ x.op = 2 ∨ x.op = 3 ∨ x.op = 4 ∨ x.op = 5 ∨ x.op = 6 ∨ x.op = 7 ∨ x.op = 8) (hloc : x.loc.toNat < 6) (k : Nat) (hk : k < 6) :
    (if isLocal x = false ∧ 36 + k = 36 + x.loc.toNat then hasP x (cut s 0) (s (36 + x.loc.toNat)) else s (36 + k)) = memL m0 (evsP (execE x (s (36 + x.loc.toNat)) r)) k := by
  have hm := h.mem k hk
  have hml := h.mem _ hloc
  have ha := valA_eq h hx
  have hb := valB_eq h hx
  rw [evs_exec, memL_append]
  generalize memL m0 (evsP r) = M at hm hml ⊢
  have key : ∀ v : UInt8, put M x.loc.toNat v k = if k = x.loc.toNat then v else M k := fun v => rfl
  rcases ho with h1 | h1 | h1 | h1 | h1 | h1 | h1 | h1
  · have e : newE x (s (36 + x.loc.toNat)) r = [⟨1, x.loc, s (36 + x.loc.toNat), x.mode, UInt8.ofNat r.pc, UInt8.ofNat r.many⟩] := by unfold newE; rw [if_pos h1]
    rw [e]
    show _ = M k
    unfold hasP
    rw [h1]
    split
    next hc => rw [if_neg (by decide), if_neg (by decide), if_neg (by decide), ← hm, hc.2]
    next hc => exact hm
  · have e : newE x (s (36 + x.loc.toNat)) r = [⟨2, x.loc, argV x.aR x.aN r, x.mode, UInt8.ofNat r.pc, UInt8.ofNat r.many⟩] := by unfold newE; rw [h1]; rfl
    rw [e]
    show _ = put M x.loc.toNat (argV x.aR x.aN r) k
    rw [key]
    have hL : isLocal x = false := by simp [isLocal, h1]
    by_cases hk2 : k = x.loc.toNat
    · rw [if_pos hk2, if_pos ⟨hL, by omega⟩]; unfold hasP; rw [if_pos (.inl h1), ha]
    · rw [if_neg hk2, if_neg (fun hh => hk2 (by omega))]; exact hm
  · have e : newE x (s (36 + x.loc.toNat)) r = [] := by unfold newE; rw [h1]; rfl
    rw [e]
    have hL : isLocal x = true := by simp [isLocal, h1]
    rw [if_neg (fun hh => by rw [hL] at hh; exact Bool.noConfusion hh.1)]; exact hm
  · have e : newE x (s (36 + x.loc.toNat)) r = [⟨1, x.loc, s (36 + x.loc.toNat), 3, UInt8.ofNat r.pc, UInt8.ofNat r.many⟩, ⟨2, x.loc, argV x.aR x.aN r, 3, UInt8.ofNat r.pc, UInt8.ofNat (r.many + 1)⟩] := by unfold newE; rw [h1]; rfl
    rw [e]
    show _ = put M x.loc.toNat (argV x.aR x.aN r) k
    rw [key]
    have hL : isLocal x = false := by simp [isLocal, h1]
    by_cases hk2 : k = x.loc.toNat
    · rw [if_pos hk2, if_pos ⟨hL, by omega⟩]; unfold hasP; rw [if_pos (.inr h1), ha]
    · rw [if_neg hk2, if_neg (fun hh => hk2 (by omega))]; exact hm
  · have e : newE x (s (36 + x.loc.toNat)) r = [⟨1, x.loc, s (36 + x.loc.toNat), 3, UInt8.ofNat r.pc, UInt8.ofNat r.many⟩, ⟨2, x.loc, s (36 + x.loc.toNat) + argV x.aR x.aN r, 3, UInt8.ofNat r.pc, UInt8.ofNat (r.many + 1)⟩] := by unfold newE; rw [h1]; rfl
    rw [e]
    show _ = put M x.loc.toNat (s (36 + x.loc.toNat) + argV x.aR x.aN r) k
    rw [key]
    have hL : isLocal x = false := by simp [isLocal, h1]
    by_cases hk2 : k = x.loc.toNat
    · rw [if_pos hk2, if_pos ⟨hL, by omega⟩]; unfold hasP; rw [h1, if_neg (by decide), if_pos rfl, ha]
    · rw [if_neg hk2, if_neg (fun hh => hk2 (by omega))]; exact hm
  · have hL : isLocal x = false := by simp [isLocal, h1]
    by_cases hv : s (36 + x.loc.toNat) ≠ argV x.aR x.aN r
    · have e : newE x (s (36 + x.loc.toNat)) r = [⟨1, x.loc, s (36 + x.loc.toNat), 3, UInt8.ofNat r.pc, UInt8.ofNat r.many⟩] := by
        unfold newE
        rw [h1]
        exact if_pos hv
      rw [e]
      show _ = M k
      split
      next hc => unfold hasP; rw [h1, if_neg (by decide), if_neg (by decide), if_pos rfl, ha, if_neg hv, ← hm, hc.2]
      next hc => exact hm
    · have e : newE x (s (36 + x.loc.toNat)) r = [⟨1, x.loc, s (36 + x.loc.toNat), 3, UInt8.ofNat r.pc, UInt8.ofNat r.many⟩, ⟨2, x.loc, argV x.bR x.bN r, 3, UInt8.ofNat r.pc, UInt8.ofNat (r.many + 1)⟩] := by
        unfold newE
        rw [h1]
        exact if_neg hv
      rw [e]
      show _ = put M x.loc.toNat (argV x.bR x.bN r) k
      rw [key]
      by_cases hk2 : k = x.loc.toNat
      · rw [if_pos hk2, if_pos ⟨hL, by omega⟩]; unfold hasP; rw [h1, if_neg (by decide), if_neg (by decide), if_pos rfl, ha, hb, if_pos (Decidable.not_not.1 hv)]
      · rw [if_neg hk2, if_neg (fun hh => hk2 (by omega))]; exact hm
  · have e : newE x (s (36 + x.loc.toNat)) r = [⟨3, 0, 0, x.mode, UInt8.ofNat r.pc, UInt8.ofNat r.many⟩] := by unfold newE; rw [h1]; rfl
    rw [e]
    have hL : isLocal x = true := by simp [isLocal, h1]
    show _ = M k
    rw [if_neg (fun hh => by rw [hL] at hh; exact Bool.noConfusion hh.1)]; exact hm
  · have e : newE x (s (36 + x.loc.toNat)) r = [] := by unfold newE; rw [h1]; rfl
    rw [e]
    have hL : isLocal x = true := by simp [isLocal, h1]
    show _ = M k
    rw [if_neg (fun hh => by rw [hL] at hh; exact Bool.noConfusion hh.1)]; exact hm
theorem regs_new {x : Ins} {m0 s : By} {r : RunP} (h : SimA m0 s r) (hx : InR x) (ho : x.op = 1 ∨ x.op = 2 ∨ x.op = 3 ∨ x.op = 4 ∨ x.op = 5 ∨ x.op = 6 ∨ x.op = 7 ∨ x.op = 8) (hfn : x.op = 3 → x.fn = 1 ∨ x.fn = 2 ∨ x.fn = 3) (d : Nat) (hd : d < 8) (v : UInt8) :
    thrP x (cut s 0) v (1 + d) = newRegs x v r d := by
  have ha := valA_eq h hx
  have hb := valB_eq h hx
  have hr : cut s 0 (1 + d) = r.regs d := by rw [cut0]; exact h.regs d hd
  have h0 : ∀ (t : By) (q : UInt8), put t 0 q (1 + d) = t (1 + d) := fun t q => by unfold put; rw [if_neg (by omega)]
  have hw : ∀ q : UInt8, withP (cut s 0) x.dst q (1 + d) = put r.regs x.dst.toNat q d := fun q => by
    unfold withP
    rw [if_pos hx.d]
    unfold put
    by_cases hdd : d = x.dst.toNat
    · rw [if_pos hdd, if_pos (by omega)]
    · rw [if_neg hdd, if_neg (by omega)]; exact hr
  have far : isLocal x = false → x.op ≠ 2 → thrP x (cut s 0) v (1 + d) = put r.regs x.dst.toNat v d := fun hL h2 => by
    unfold thrP farP
    rw [if_neg (by rw [hL]; exact Bool.noConfusion), if_neg h2, h0]
    exact hw v
  unfold newRegs
  rcases ho with h1 | h1 | h1 | h1 | h1 | h1 | h1 | h1
  · rw [if_pos (.inl h1)]; exact far (by simp [isLocal, h1]) (by rw [h1]; decide)
  · rw [if_neg (by rw [h1]; decide), if_neg (by rw [h1]; decide)]
    unfold thrP farP
    have hL : isLocal x = false := by simp [isLocal, h1]
    rw [if_neg (by rw [hL]; exact Bool.noConfusion), if_pos h1, h0]
    exact hr
  · rw [if_neg (by rw [h1]; decide), if_pos h1]
    unfold thrP localP
    have hL : isLocal x = true := by simp [isLocal, h1]
    rw [if_pos hL, if_pos h1, h0, hw, ha, hb, move_fn (hfn h1)]
  · rw [if_pos (.inr (.inl h1))]; exact far (by simp [isLocal, h1]) (by rw [h1]; decide)
  · rw [if_pos (.inr (.inr (.inl h1)))]; exact far (by simp [isLocal, h1]) (by rw [h1]; decide)
  · rw [if_pos (.inr (.inr (.inr h1)))]; exact far (by simp [isLocal, h1]) (by rw [h1]; decide)
  · rw [if_neg (by rw [h1]; decide), if_neg (by rw [h1]; decide)]
    unfold thrP localP
    have hL : isLocal x = true := by simp [isLocal, h1]
    rw [if_pos hL, if_neg (by rw [h1]; decide), if_neg (by rw [h1]; decide), if_pos h1, h0]
    exact hr
  · rw [if_neg (by rw [h1]; decide), if_neg (by rw [h1]; decide)]
    unfold thrP localP
    have hL : isLocal x = true := by simp [isLocal, h1]
    rw [if_pos hL, if_neg (by rw [h1]; decide), if_pos h1, h0]
    exact hr
theorem sim_step {p : Prg} {m0 s z : By} {r : RunP} {l : List Ins} {x : Ins} (h : SimA m0 s r) (hS : StepOf p s z 0 l x) (hl : threadOk 6 l = true) : l[r.pc]? = some x ∧ SimA m0 z (execE x (s (36 + x.loc.toNat)) r) := by
  have hx : l[r.pc]? = some x := by
    have := hS.hx
    unfold pcP at this
    rw [Nat.zero_mul] at this
    rw [← h.pc]
    exact this
  have hT := thr_at hl hx
  have h12 := thr_len hl
  have hp := (List.getElem?_eq_some_iff.1 hx).1
  have ho := op_cases x.op (by rw [Bool.and_eq_true]; exact ⟨decide_eq_true (UInt8.le_iff_toNat_le.2 hT.op.1), decide_eq_true (UInt8.le_iff_toNat_le.2 hT.op.2)⟩)
  have hF := thr_fn hl hx
  have ha := valA_eq h hT.inr
  have hb := valB_eq h hT.inr
  have ec : cut s (0 * 9) = cut s 0 := by rw [Nat.zero_mul]
  refine ⟨hx, ?_, fun d hd => ?_, fun k hk => ?_⟩
  · rw [hS.at' 0, if_pos (by omega), ec, thrP_pc, pc_exec]
    unfold newPc
    rw [cut0, ha, hb]
    have h1 : (1 : UInt8).toNat = 1 := rfl
    have hs := hT.skip
    have hpc := h.pc
    by_cases h8 : x.op = 8
    · rw [skip_fn (hF.2 h8)]
      by_cases hc : x.op = 8 ∧ skpF x.fn (argV x.aR x.aN r) (argV x.bR x.bN r) = true
      · rw [if_pos hc, if_pos hc, UInt8.toNat_add, UInt8.toNat_add, h1]; omega
      · rw [if_neg hc, if_neg hc, if_pos hT.op, UInt8.toNat_add, h1]; omega
    · rw [if_neg (fun hh => h8 hh.1), if_neg (fun hh => h8 hh.1), if_pos hT.op, UInt8.toNat_add, h1]; omega
  · rw [hS.at' (1 + d), if_pos (by omega), ec, show 1 + d - 0 * 9 = 1 + d by omega, regs_new h hT.inr ho hF.1 d hd, regs_exec]
  · rw [hS.at' (36 + k), if_neg (by omega), ec]
    exact memL_new (l := l) h hT.inr ho hT.loc k hk
theorem exec_any_val {x : Ins} (h : readsB x.op = false) (v : UInt8) (r : RunP) : execE x v r = execE x 0 r := by
  have h1 : x.op ≠ 1 := fun e => by rw [e] at h; cases h
  have h4 : x.op ≠ 4 := fun e => by rw [e] at h; cases h
  have h5 : x.op ≠ 5 := fun e => by rw [e] at h; cases h
  have h6 : x.op ≠ 6 := fun e => by rw [e] at h; cases h
  have e : ∀ v, effE x v r = effE x 0 r := fun v => by
    unfold effE
    simp only [h1, h4, h5, h6, if_false]
  unfold execE
  rw [e v]
theorem alone_of {p : Prg} {m0 z : By} {l : List Ins} (hp : rightErr p = 0) (hT : p.threads = [l]) (hl : threadOk 6 l = true) (hz : enabledP p z = []) : ∀ {ts : List Nat} {ix : List UInt8} {s : By} {r : RunP}, Runs p s ts ix z → SimA m0 s r → ∃ vs r', Alone m0 l r vs r' ∧ SimA m0 z r'
  | [], [], s, r, h, hs => by
    have h : z = s := h
    subst h
    refine ⟨[], r, .stop ?_, hs⟩
    rcases Nat.lt_or_ge r.pc l.length with hlt | hge
    · exfalso
      have : 0 ∈ enabledP p z := by
        unfold enabledP mayP
        rw [hT]
        refine List.mem_filter.2 ⟨List.mem_range.2 Nat.zero_lt_one, ?_⟩
        show decide ((z (0 * 9)).toNat < l.length) = true
        rw [Nat.zero_mul]
        exact decide_eq_true (by rw [hs.pc]; exact hlt)
      rw [hz] at this
      cases this
    · exact List.getElem?_eq_none hge
  | t :: ts, i :: ix, s, r, h, hs => by
    have hm := List.mem_of_getElem? h.1
    obtain ⟨l', x, hS⟩ := stepOf hp hm
    have ht : t = 0 := by
      have := (List.getElem?_eq_some_iff.1 hS.hl).1
      rw [hT] at this
      have : t < 1 := this
      omega
    subst ht
    have hl' : l = l' := by
      have := hS.hl
      rw [hT] at this
      exact Option.some.inj this
    subst hl'
    obtain ⟨hx, hs'⟩ := sim_step hs hS hl
    obtain ⟨vs, r', hA, hz'⟩ := alone_of hp hT hl hz (ts := ts) (ix := ix) h.2 hs'
    have hv := hs.mem _ (thr_at hl hx).loc
    cases hr : readsB x.op with
    | true => rw [hv] at hA; exact ⟨_, r', .read hx hr hA, hz'⟩
    | false => rw [exec_any_val hr] at hA; exact ⟨_, r', .pass hx hr hA, hz'⟩
  | [], _ :: _, _, _, h, _ => h.elim
  | _ :: _, [], _, _, h, _ => h.elim
end Go.Proofs.YtklpiodciblabaaDoor
