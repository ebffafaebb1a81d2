/-
  Plain Lean: a thread that runs alone, beside its path. Conditions: none.
-/
import Derived.Test.YtklpiodciblabaaDoorPlA
set_option linter.unusedSimpArgs false
set_option linter.unusedVariables false
namespace Go.Proofs.YtklpiodciblabaaDoor
set_option maxRecDepth 100000
def wrEv (m : By) (e : Ev) : By := if e.kind = 2 then put m e.loc.toNat e.val else m
/-- Memory behind events. -/
def memL (m : By) (evs : List Ev) : By := evs.foldl wrEv m
def rdL (evs : List Ev) : List UInt8 := (evs.filter (fun e => e.kind == 1)).map (fun e => e.val)
theorem memL_append (m : By) (a b : List Ev) : memL m (a ++ b) = memL (memL m a) b := List.foldl_append
theorem rdL_append (a b : List Ev) : rdL (a ++ b) = rdL a ++ rdL b := by unfold rdL; rw [List.filter_append, List.map_append]
/-- The run of a thread alone from memory m0 on: what its reads return, and where it ends. -/
inductive Alone (m0 : By) (l : List Ins) : RunP → List UInt8 → RunP → Prop where
  | stop {r : RunP} : l[r.pc]? = none → Alone m0 l r [] r
  | read {r z : RunP} {x : Ins} {vs : List UInt8} : l[r.pc]? = some x → readsB x.op = true → Alone m0 l (execE x (memL m0 (evsP r) x.loc.toNat) r) vs z → Alone m0 l r (memL m0 (evsP r) x.loc.toNat :: vs) z
  | pass {r z : RunP} {x : Ins} {vs : List UInt8} : l[r.pc]? = some x → readsB x.op = false → Alone m0 l (execE x 0 r) vs z → Alone m0 l r vs z
theorem go_pass {l : List Ins} {r : RunP} {x : Ins} (hx : l[r.pc]? = some x) (hr : readsB x.op = false) (vs : List UInt8) : goP l vs r = goP l vs (execE x 0 r) := by
  cases vs with
  | nil => unfold goP; rw [proceed_step hx hr]
  | cons v vs => unfold goP; rw [proceed_step hx hr]
theorem ins_at {l : List Ins} {r : RunP} {x : Ins} (hx : l[r.pc]? = some x) : insAt l r = x := by unfold insAt; rw [hx]; rfl
theorem go_read {l : List Ins} {r : RunP} {x : Ins} (hx : l[r.pc]? = some x) (hr : readsB x.op = true) (v : UInt8) (vs : List UInt8) : goP l (v :: vs) r = goP l vs (execE x v r) := by
  have hw : wantsP l r = true := (wants_of hx).trans hr
  have e : proceedP l r = r := proceed_stop (.inl hw)
  rw [go_on (by rw [e]; exact hw), e, ins_at hx]
theorem go_wait {l : List Ins} {r : RunP} {x : Ins} (hx : l[r.pc]? = some x) (hr : readsB x.op = true) : goP l [] r = .wants := by
  have hw : wantsP l r = true := (wants_of hx).trans hr
  have e : proceedP l r = r := proceed_stop (.inl hw)
  exact go_wants (by rw [e]; exact hw)
theorem go_stop {l : List Ins} {r : RunP} (hx : l[r.pc]? = none) : goP l [] r = .done r := by
  have e : proceedP l r = r := proceed_stop (.inr hx)
  rw [go_done (by rw [e]; exact wants_end hx), e]
theorem Alone.done {m0 : By} {l : List Ins} {r z : RunP} {vs : List UInt8} (h : Alone m0 l r vs z) : goP l vs r = .done z := by
  induction h with
  | stop hx => exact go_stop hx
  | read hx hr _ ih => rw [go_read hx hr]; exact ih
  | pass hx hr _ ih => rw [go_pass hx hr]; exact ih
theorem reads_or {op : UInt8} (h : readsB op = true) : op = 1 ∨ op = 4 ∨ op = 5 ∨ op = 6 := by
  unfold readsB at h
  simp only [Bool.or_eq_true, beq_iff_eq] at h
  rcases h with ((h | h) | h) | h
  · exact .inl h
  · exact .inr (.inl h)
  · exact .inr (.inr (.inl h))
  · exact .inr (.inr (.inr h))
theorem new_reads {x : Ins} (h : readsB x.op = true) (v : UInt8) (r : RunP) : ∃ e rest, newE x v r = e :: rest ∧ e.kind = 1 ∧ e.loc = x.loc ∧ e.val = v ∧ (∀ e' ∈ rest, e'.kind = 2 ∧ e'.loc = x.loc) := by
  unfold newE
  rcases reads_or h with h | h | h | h
  · rw [if_pos h]; exact ⟨_, _, rfl, rfl, rfl, rfl, fun _ h => by simp at h⟩
  · rw [h]; exact ⟨_, _, rfl, rfl, rfl, rfl, fun e he => by obtain rfl := List.mem_singleton.1 he; exact ⟨rfl, rfl⟩⟩
  · rw [h]; exact ⟨_, _, rfl, rfl, rfl, rfl, fun e he => by obtain rfl := List.mem_singleton.1 he; exact ⟨rfl, rfl⟩⟩
  · rw [h]
    by_cases hv : v ≠ argV x.aR x.aN r
    · exact ⟨⟨1, x.loc, v, 3, UInt8.ofNat r.pc, UInt8.ofNat r.many⟩, [], if_pos hv, rfl, rfl, rfl, fun _ h => by simp at h⟩
    · exact ⟨⟨1, x.loc, v, 3, UInt8.ofNat r.pc, UInt8.ofNat r.many⟩, [⟨2, x.loc, argV x.bR x.bN r, 3, UInt8.ofNat r.pc, UInt8.ofNat (r.many + 1)⟩], if_neg hv, rfl, rfl, rfl, fun e he => by obtain rfl := List.mem_singleton.1 he; exact ⟨rfl, rfl⟩⟩
theorem new_pass {x : Ins} (h : readsB x.op = false) (v : UInt8) (r : RunP) : ∀ e ∈ newE x v r, e.kind ≠ 1 ∧ (e.loc = x.loc ∨ e.loc = 0) := by
  have h1 : x.op ≠ 1 := fun e => by rw [e] at h; cases h
  have h4 : x.op ≠ 4 := fun e => by rw [e] at h; cases h
  have h5 : x.op ≠ 5 := fun e => by rw [e] at h; cases h
  have h6 : x.op ≠ 6 := fun e => by rw [e] at h; cases h
  intro e he
  unfold newE at he
  simp only [h1, h4, h5, h6, if_false] at he
  split at he
  · obtain rfl := List.mem_singleton.1 he; exact ⟨(show (2 : UInt8) ≠ 1 by decide), .inl rfl⟩
  · split at he
    · simp at he
    · split at he
      · obtain rfl := List.mem_singleton.1 he; exact ⟨(show (3 : UInt8) ≠ 1 by decide), .inr rfl⟩
      · simp at he
theorem rdL_none {evs : List Ev} (h : ∀ e ∈ evs, e.kind ≠ 1) : rdL evs = [] := by
  unfold rdL
  rw [List.filter_eq_nil_iff.2 fun e he => by simpa using h e he]
  rfl
theorem rd_pass {x : Ins} (h : readsB x.op = false) (v : UInt8) (r : RunP) : rdL (evsP (execE x v r)) = rdL (evsP r) := by
  have h0 : rdL (newE x v r) = [] := rdL_none fun e he => (new_pass h v r e he).1
  rw [evs_exec, rdL_append, h0, List.append_nil]
theorem rd_read {x : Ins} (h : readsB x.op = true) (v : UInt8) (r : RunP) : rdL (evsP (execE x v r)) = rdL (evsP r) ++ [v] := by
  obtain ⟨e, rest, he, h1, _, h3, h4⟩ := new_reads h v r
  have h0 : rdL rest = [] := rdL_none fun e' he' => by rw [(h4 e' he').1]; decide
  rw [evs_exec, rdL_append, he, show e :: rest = [e] ++ rest from rfl, rdL_append, h0, List.append_nil]
  congr 1
  unfold rdL
  rw [List.filter_cons_of_pos (by simpa using h1)]
  show [e.val] = [v]
  rw [h3]
/-- All events' locations exist. -/
def LocOk (evs : List Ev) : Prop := ∀ e ∈ evs, e.loc.toNat < 6
theorem loc_exec {l : List Ins} {r : RunP} {x : Ins} (v : UInt8) (hl : threadOk 6 l = true) (hx : l[r.pc]? = some x) (h : LocOk (evsP r)) : LocOk (evsP (execE x v r)) := fun e he => by
  have h6 := (thr_at hl hx).loc
  rw [evs_exec] at he
  rcases List.mem_append.1 he with he | he
  · exact h e he
  · cases hr : readsB x.op with
    | true =>
      obtain ⟨e1, rest, e2, _, h2, _, h4⟩ := new_reads hr v r
      rw [e2] at he
      rcases List.mem_cons.1 he with he | he
      · rw [he, h2]; exact h6
      · rw [(h4 e he).2]; exact h6
    | false =>
      rcases (new_pass hr v r e he).2 with e1 | e1
      · rw [e1]; exact h6
      · rw [e1]; decide
/-- Where the run stands ahead of its k-th read. -/
structure AtRead (m0 : By) (l : List Ins) (r : RunP) (vs : List UInt8) (k : Nat) (W : RunP) (x : Ins) : Prop where
  ins : l[W.pc]? = some x
  reads : readsB x.op = true
  go : ∀ more, goP l (vs.take k ++ more) r = goP l more W
  rd : rdL (evsP W) = rdL (evsP r) ++ vs.take k
  val : vs[k]? = some (memL m0 (evsP W) x.loc.toNat)
  loc : threadOk 6 l = true → LocOk (evsP r) → LocOk (evsP W)
theorem Alone.atRead {m0 : By} {l : List Ins} {r z : RunP} {vs : List UInt8} (h : Alone m0 l r vs z) : ∀ k, k < vs.length → ∃ W x, AtRead m0 l r vs k W x := by
  induction h with
  | stop hx => intro k hk; simp at hk
  | @read r z x vs hx hr _ ih =>
    intro k hk
    cases k with
    | zero => exact ⟨r, x, hx, hr, fun _ => rfl, by simp, rfl, fun _ h => h⟩
    | succ k =>
      obtain ⟨W, y, h⟩ := ih k (by simpa using hk)
      refine ⟨W, y, h.ins, h.reads, fun more => ?_, ?_, h.val, fun hl hh => h.loc hl (loc_exec _ hl hx hh)⟩
      · rw [List.take_succ_cons, List.cons_append, go_read hx hr]; exact h.go more
      · rw [h.rd, rd_read hr, List.take_succ_cons, List.append_assoc]; rfl
  | @pass r z x vs hx hr _ ih =>
    intro k hk
    obtain ⟨W, y, h⟩ := ih k hk
    refine ⟨W, y, h.ins, h.reads, fun more => ?_, ?_, h.val, fun hl hh => h.loc hl (loc_exec _ hl hx hh)⟩
    · rw [go_pass hx hr]; exact h.go more
    · rw [h.rd, rd_pass hr]
/-- Each read returns what memory holds there. -/
def GoodE (m0 : By) (evs : List Ev) : Prop := ∀ i e, evs[i]? = some e → e.kind = 1 → e.val = memL m0 (evs.take i) e.loc.toNat
theorem GoodE.append {m0 : By} {a b : List Ev} (ha : GoodE m0 a) (hb : GoodE (memL m0 a) b) : GoodE m0 (a ++ b) := fun i e hi hk => by
  rcases Nat.lt_or_ge i a.length with h | h
  · rw [List.getElem?_append_left h] at hi
    rw [List.take_append_of_le_length (by omega)]
    exact ha i e hi hk
  · rw [List.getElem?_append_right h] at hi
    rw [List.take_append, List.take_of_length_le h, memL_append]
    exact hb _ e hi hk
theorem Alone.good {m0 : By} {l : List Ins} {r z : RunP} {vs : List UInt8} (h : Alone m0 l r vs z) : GoodE m0 (evsP r) → GoodE m0 (evsP z) ∧ rdL (evsP z) = rdL (evsP r) ++ vs := by
  induction h with
  | stop hx => intro hg; exact ⟨hg, by simp⟩
  | @read r z x vs hx hr _ ih =>
    intro hg
    obtain ⟨e, rest, he, h1, h2, h3, h4⟩ := new_reads hr (memL m0 (evsP r) x.loc.toNat) r
    obtain ⟨g1, g2⟩ := ih (by
      rw [evs_exec, he]
      refine hg.append fun i e' hi hk => ?_
      cases i with
      | zero =>
        have : e = e' := Option.some.inj hi
        subst this
        rw [h3, h2]; rfl
      | succ i =>
        have := (h4 e' (List.mem_of_getElem? hi)).1
        rw [hk] at this
        cases this)
    refine ⟨g1, ?_⟩
    rw [g2, rd_read hr, List.append_assoc]; rfl
  | @pass r z x vs hx hr _ ih =>
    intro hg
    obtain ⟨g1, g2⟩ := ih (by
      rw [evs_exec]
      refine hg.append fun i e' hi hk => absurd hk (new_pass hr 0 r e' (List.mem_of_getElem? hi)).1)
    exact ⟨g1, by rw [g2, rd_pass hr]⟩
theorem Alone.loc {m0 : By} {l : List Ins} {r z : RunP} {vs : List UInt8} (hl : threadOk 6 l = true) (h : Alone m0 l r vs z) : LocOk (evsP r) → LocOk (evsP z) := by
  induction h with
  | stop hx => exact id
  | read hx hr _ ih => intro hg; exact ih (loc_exec _ hl hx hg)
  | pass hx hr _ ih => intro hg; exact ih (loc_exec _ hl hx hg)
theorem Alone.len {m0 : By} {l : List Ins} {r z : RunP} {vs : List UInt8} (h : Alone m0 l r vs z) : vs.length ≤ l.length - r.pc := by
  induction h with
  | stop hx => simp
  | @read r z x vs hx hr _ ih =>
    have := (List.getElem?_eq_some_iff.1 hx).1
    have := exec_pc x (memL m0 (evsP r) x.loc.toNat) r
    rw [List.length_cons]; omega
  | @pass r z x vs hx hr _ ih =>
    have := exec_pc x 0 r
    omega
/-- With zeros for the reads a run comes to its end. -/
theorem zero_run {l : List Ins} (hl : threadOk 6 l = true) : ∀ (n : Nat) (r : RunP), l.length - r.pc ≤ n → ∃ N z rest, N ≤ n ∧ goP l (List.replicate N 0) r = .done z ∧ (∀ k, k < N → goP l (List.replicate k 0) r = .wants) ∧ evsP z = evsP r ++ rest ∧ (LocOk (evsP r) → LocOk (evsP z))
  | n, r, h => by
    induction n generalizing r with
    | zero => exact ⟨0, r, [], Nat.le_refl _, go_stop (List.getElem?_eq_none (by omega)), fun k hk => by omega, by simp, id⟩
    | succ n ih =>
      cases hx : l[r.pc]? with
      | none => exact ⟨0, r, [], Nat.zero_le _, go_stop hx, fun k hk => by omega, by simp, id⟩
      | some x =>
        have hp := exec_pc x 0 r
        obtain ⟨N, z, rest, h0, h1, h2, h3, h4⟩ := ih (execE x 0 r) (by omega)
        rw [evs_exec, List.append_assoc] at h3
        have h5 : LocOk (evsP r) → LocOk (evsP z) := fun hh => h4 (loc_exec 0 hl hx hh)
        cases hr : readsB x.op with
        | true =>
          refine ⟨N + 1, z, _, by omega, ?_, fun k hk => ?_, h3, h5⟩
          · rw [List.replicate_succ, go_read hx hr]; exact h1
          · cases k with
            | zero => exact go_wait hx hr
            | succ k => rw [List.replicate_succ, go_read hx hr]; exact h2 k (by omega)
        | false =>
          refine ⟨N, z, _, by omega, ?_, fun k hk => ?_, h3, h5⟩
          · rw [go_pass hx hr]; exact h1
          · rw [go_pass hx hr]; exact h2 k hk
end Go.Proofs.YtklpiodciblabaaDoor
