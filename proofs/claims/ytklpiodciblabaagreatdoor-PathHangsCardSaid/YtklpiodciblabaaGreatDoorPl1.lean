/-
  Plain Lean: the events and registers behind an instruction of a path. Conditions: none.
-/
import Derived.Test.YtklpiodciblabaaGreatDoorPaI
import Derived.Test.YtklpiodciblabaaGreatDoorSqL
set_option linter.unusedSimpArgs false
set_option linter.unusedVariables false
namespace Go.Proofs.YtklpiodciblabaaGreatDoor
-- PlA
set_option maxRecDepth 100000
theorem evs_wReg (r : RunP) (d : Nat) (v : UInt8) : evsP (r.wReg d v) = evsP r := rfl
theorem evs_wDep (r : RunP) (d n : Nat) : evsP (r.wDep d n) = evsP r := rfl
theorem evs_wControl (r : RunP) (n : Nat) : evsP (r.wControl n) = evsP r := rfl
theorem evs_wPc (r : RunP) (n : Nat) : evsP (r.wPc n) = evsP r := rfl
theorem evs_wData (r : RunP) (d n : Nat) : evsP (r.wData d n) = evsP r := rfl
theorem evs_wCtrl (r : RunP) (d n : Nat) : evsP (r.wCtrl d n) = evsP r := rfl
theorem evs_wAtt (r : RunP) (d n : Nat) : evsP (r.wAtt d n) = evsP r := rfl
theorem evs_set (d v : UInt8) (n : Nat) (r : RunP) : evsP (setP d v n r) = evsP r := by unfold setP; rw [evs_wDep, evs_wReg]
theorem evs_put (r : RunP) (e : Ev) : evsP ((r.wEv r.many e).wMany (r.many + 1)) = evsP r ++ [e] := by
  unfold evsP RunP.wEv RunP.wMany
  show (List.range (r.many + 1)).map (putN r.ev r.many e) = _
  rw [List.range_succ, List.map_append, List.map_cons, List.map_nil]
  have h1 : putN r.ev r.many e r.many = e := by unfold putN; rw [if_pos rfl]
  have h2 : (List.range r.many).map (putN r.ev r.many e) = (List.range r.many).map r.ev := List.map_congr_left fun i hi => by
    have := List.mem_range.1 hi
    unfold putN
    rw [if_neg (by omega)]
  rw [h1, h2]
theorem evs_emit (kind loc val mode : UInt8) (n : Nat) (r : RunP) : evsP (emitP kind loc val mode n r) = evsP r ++ [⟨kind, loc, val, mode, UInt8.ofNat r.pc, UInt8.ofNat r.many⟩] := evs_put r _
theorem evs_exch (x : Ins) (old val : UInt8) (n : Nat) (r : RunP) : evsP (exchE x old val n r) = evsP r ++ [⟨1, x.loc, old, 3, UInt8.ofNat r.pc, UInt8.ofNat r.many⟩, ⟨2, x.loc, val, 3, UInt8.ofNat r.pc, UInt8.ofNat (r.many + 1)⟩] := by
  unfold exchE
  rw [evs_set, evs_wAtt, evs_emit, evs_emit, emit_pc, emit_many, List.append_assoc]
  rfl
def newE (x : Ins) (v : UInt8) (r : RunP) : List Ev :=
  if x.op = 1 then [⟨1, x.loc, v, x.mode, UInt8.ofNat r.pc, UInt8.ofNat r.many⟩]
  else if x.op = 2 then [⟨2, x.loc, argV x.aR x.aN r, x.mode, UInt8.ofNat r.pc, UInt8.ofNat r.many⟩]
  else if x.op = 3 then []
  else if x.op = 4 then [⟨1, x.loc, v, 3, UInt8.ofNat r.pc, UInt8.ofNat r.many⟩, ⟨2, x.loc, argV x.aR x.aN r, 3, UInt8.ofNat r.pc, UInt8.ofNat (r.many + 1)⟩]
  else if x.op = 5 then [⟨1, x.loc, v, 3, UInt8.ofNat r.pc, UInt8.ofNat r.many⟩, ⟨2, x.loc, v + argV x.aR x.aN r, 3, UInt8.ofNat r.pc, UInt8.ofNat (r.many + 1)⟩]
  else if x.op = 6 then (if v ≠ argV x.aR x.aN r then [⟨1, x.loc, v, 3, UInt8.ofNat r.pc, UInt8.ofNat r.many⟩] else [⟨1, x.loc, v, 3, UInt8.ofNat r.pc, UInt8.ofNat r.many⟩, ⟨2, x.loc, argV x.bR x.bN r, 3, UInt8.ofNat r.pc, UInt8.ofNat (r.many + 1)⟩])
  else if x.op = 7 then [⟨3, 0, 0, x.mode, UInt8.ofNat r.pc, UInt8.ofNat r.many⟩]
  else []
theorem evs_exec (x : Ins) (v : UInt8) (r : RunP) : evsP (execE x v r) = evsP r ++ newE x v r := by
  unfold execE
  rw [evs_wPc]
  unfold effE newE
  split
  · unfold loadE; rw [evs_set, evs_emit]
  · split
    · unfold storeE; rw [evs_emit]
    · split
      · unfold moveE'; rw [evs_set, List.append_nil]
      · split
        · unfold swapE; rw [evs_exch]
        · split
          · unfold fetchE; rw [evs_wData, evs_exch]
          · split
            · unfold casE
              split
              · rw [evs_set, evs_emit]
              · rw [evs_wCtrl, evs_exch]
            · split
              · unfold fenceE; rw [evs_emit]
              · unfold skipE
                split
                · rw [evs_wPc, evs_wControl, List.append_nil]
                · rw [evs_wControl, List.append_nil]
theorem wReg_regs (r : RunP) (d : Nat) (v : UInt8) : (r.wReg d v).regs = put r.regs d v := rfl
theorem wDep_regs (r : RunP) (d n : Nat) : (r.wDep d n).regs = r.regs := rfl
theorem wControl_regs (r : RunP) (n : Nat) : (r.wControl n).regs = r.regs := rfl
theorem wPc_regs (r : RunP) (n : Nat) : (r.wPc n).regs = r.regs := rfl
theorem wMany_regs (r : RunP) (n : Nat) : (r.wMany n).regs = r.regs := rfl
theorem wEv_regs (r : RunP) (k : Nat) (e : Ev) : (r.wEv k e).regs = r.regs := rfl
theorem wData_regs (r : RunP) (d n : Nat) : (r.wData d n).regs = r.regs := rfl
theorem wCtrl_regs (r : RunP) (d n : Nat) : (r.wCtrl d n).regs = r.regs := rfl
theorem wAtt_regs (r : RunP) (d n : Nat) : (r.wAtt d n).regs = r.regs := rfl
theorem set_regs (d v : UInt8) (n : Nat) (r : RunP) : (setP d v n r).regs = put r.regs d.toNat v := by unfold setP; rw [wDep_regs, wReg_regs]
theorem emit_regs (kind loc val mode : UInt8) (n : Nat) (r : RunP) : (emitP kind loc val mode n r).regs = r.regs := by unfold emitP; rw [wMany_regs, wCtrl_regs, wData_regs, wEv_regs]
theorem exch_regs (x : Ins) (old val : UInt8) (n : Nat) (r : RunP) : (exchE x old val n r).regs = put r.regs x.dst.toNat old := by unfold exchE; rw [set_regs, wAtt_regs, emit_regs, emit_regs]
def newRegs (x : Ins) (v : UInt8) (r : RunP) : By :=
  if x.op = 1 ∨ x.op = 4 ∨ x.op = 5 ∨ x.op = 6 then put r.regs x.dst.toNat v else if x.op = 3 then put r.regs x.dst.toNat (movF x.fn (argV x.aR x.aN r) (argV x.bR x.bN r)) else r.regs
theorem regs_exec (x : Ins) (v : UInt8) (r : RunP) : (execE x v r).regs = newRegs x v r := by
  unfold execE
  rw [wPc_regs]
  unfold effE newRegs
  split
  next h => rw [if_pos (.inl h)]; unfold loadE; rw [set_regs, emit_regs]
  next h1 =>
    split
    next h => rw [h, if_neg (by decide), if_neg (by decide)]; unfold storeE; rw [emit_regs]
    next h2 =>
      split
      next h => rw [if_neg (by rw [h]; decide)]; unfold moveE'; rw [set_regs]
      next h3 =>
        split
        next h => rw [if_pos (.inr (.inl h))]; unfold swapE; rw [exch_regs]
        next h4 =>
          split
          next h => rw [if_pos (.inr (.inr (.inl h)))]; unfold fetchE; rw [wData_regs, exch_regs]
          next h5 =>
            split
            next h =>
              rw [if_pos (.inr (.inr (.inr h)))]
              unfold casE
              split
              · rw [set_regs, emit_regs]
              · rw [wCtrl_regs, exch_regs]
            next h6 =>
              have h1456 : ¬ (x.op = 1 ∨ x.op = 4 ∨ x.op = 5 ∨ x.op = 6) := fun h => h.elim h1 (fun h => h.elim h4 (fun h => h.elim h5 h6))
              simp only [h1456, if_false]
              split
              · unfold fenceE; rw [emit_regs]
              · unfold skipE
                split
                · rw [wPc_regs, wControl_regs]
                · rw [wControl_regs]
-- PlB
set_option maxRecDepth 100000
def wrEv (m : By) (e : Ev) : By := if e.kind = 2 then put m e.loc.toNat e.val else m
def memL (m : By) (evs : List Ev) : By := evs.foldl wrEv m
def rdL (evs : List Ev) : List UInt8 := (evs.filter (fun e => e.kind == 1)).map (fun e => e.val)
theorem memL_append (m : By) (a b : List Ev) : memL m (a ++ b) = memL (memL m a) b := List.foldl_append
theorem rdL_append (a b : List Ev) : rdL (a ++ b) = rdL a ++ rdL b := by unfold rdL; rw [List.filter_append, List.map_append]
inductive Alone (m0 : By) (l : List Ins) : RunP → List UInt8 → RunP → Prop where
  | stop {r : RunP} : l[r.pc]? = none → Alone m0 l r [] r
  | read {r z : RunP} {x : Ins} {vs : List UInt8} : l[r.pc]? = some x → readsB x.op = true → Alone m0 l (execE x (memL m0 (evsP r) x.loc.toNat) r) vs z → Alone m0 l r (memL m0 (evsP r) x.loc.toNat :: vs) z
  | pass {r z : RunP} {x : Ins} {vs : List UInt8} : l[r.pc]? = some x → readsB x.op = false → Alone m0 l (execE x 0 r) vs z → Alone m0 l r vs z
theorem go_pass {l : List Ins} {r : RunP} {x : Ins} (hx : l[r.pc]? = some x) (hr : readsB x.op = false) (vs : List UInt8) : goP l vs r = goP l vs (execE x 0 r) := by
  cases vs with
  | nil => unfold goP; rw [proceed_step hx hr]
  | cons v vs => unfold goP; rw [proceed_step hx hr]
theorem ins_at {l : List Ins} {r : RunP} {x : Ins} (hx : l[r.pc]? = some x) : insAt l r = x := by unfold insAt; rw [hx]; rfl
theorem go_read {l : List Ins} {r : RunP} {x : Ins} (hx : l[r.pc]? = some x) (hr : readsB x.op = true) (v : UInt8) (vs : List UInt8) : goP l (v :: vs) r = goP l vs (execE x v r) := by
  have hw : wantsP l r = true := (wants_of hx).trans hr
  have e : proceedP l r = r := proceed_stop (.inl hw)
  rw [go_on (by rw [e]; exact hw), e, ins_at hx]
theorem go_wait {l : List Ins} {r : RunP} {x : Ins} (hx : l[r.pc]? = some x) (hr : readsB x.op = true) : goP l [] r = .wants := by
  have hw : wantsP l r = true := (wants_of hx).trans hr
  have e : proceedP l r = r := proceed_stop (.inl hw)
  exact go_wants (by rw [e]; exact hw)
theorem go_stop {l : List Ins} {r : RunP} (hx : l[r.pc]? = none) : goP l [] r = .done r := by
  have e : proceedP l r = r := proceed_stop (.inr hx)
  rw [go_done (by rw [e]; exact wants_end hx), e]
theorem Alone.done {m0 : By} {l : List Ins} {r z : RunP} {vs : List UInt8} (h : Alone m0 l r vs z) : goP l vs r = .done z := by
  induction h with
  | stop hx => exact go_stop hx
  | read hx hr _ ih => rw [go_read hx hr]; exact ih
  | pass hx hr _ ih => rw [go_pass hx hr]; exact ih
theorem reads_or {op : UInt8} (h : readsB op = true) : op = 1 ∨ op = 4 ∨ op = 5 ∨ op = 6 := by
  unfold readsB at h
  simp only [Bool.or_eq_true, beq_iff_eq] at h
  rcases h with ((h | h) | h) | h
  · exact .inl h
  · exact .inr (.inl h)
  · exact .inr (.inr (.inl h))
  · exact .inr (.inr (.inr h))
theorem new_reads {x : Ins} (h : readsB x.op = true) (v : UInt8) (r : RunP) : ∃ e rest, newE x v r = e :: rest ∧ e.kind = 1 ∧ e.loc = x.loc ∧ e.val = v ∧ (∀ e' ∈ rest, e'.kind = 2 ∧ e'.loc = x.loc) := by
  unfold newE
  rcases reads_or h with h | h | h | h
  · rw [if_pos h]; exact ⟨_, _, rfl, rfl, rfl, rfl, fun _ h => by simp at h⟩
  · rw [h]; exact ⟨_, _, rfl, rfl, rfl, rfl, fun e he => by obtain rfl := List.mem_singleton.1 he; exact ⟨rfl, rfl⟩⟩
  · rw [h]; exact ⟨_, _, rfl, rfl, rfl, rfl, fun e he => by obtain rfl := List.mem_singleton.1 he; exact ⟨rfl, rfl⟩⟩
  · rw [h]
    by_cases hv : v ≠ argV x.aR x.aN r
    · exact ⟨⟨1, x.loc, v, 3, UInt8.ofNat r.pc, UInt8.ofNat r.many⟩, [], if_pos hv, rfl, rfl, rfl, fun _ h => by simp at h⟩
    · exact ⟨⟨1, x.loc, v, 3, UInt8.ofNat r.pc, UInt8.ofNat r.many⟩, [⟨2, x.loc, argV x.bR x.bN r, 3, UInt8.ofNat r.pc, UInt8.ofNat (r.many + 1)⟩], if_neg hv, rfl, rfl, rfl, fun e he => by obtain rfl := List.mem_singleton.1 he; exact ⟨rfl, rfl⟩⟩
theorem new_pass {x : Ins} (h : readsB x.op = false) (v : UInt8) (r : RunP) : ∀ e ∈ newE x v r, e.kind ≠ 1 ∧ (e.loc = x.loc ∨ e.loc = 0) := by
  have h1 : x.op ≠ 1 := fun e => by rw [e] at h; cases h
  have h4 : x.op ≠ 4 := fun e => by rw [e] at h; cases h
  have h5 : x.op ≠ 5 := fun e => by rw [e] at h; cases h
  have h6 : x.op ≠ 6 := fun e => by rw [e] at h; cases h
  intro e he
  unfold newE at he
  simp only [h1, h4, h5, h6, if_false] at he
  split at he
  · obtain rfl := List.mem_singleton.1 he; exact ⟨(show (2 : UInt8) ≠ 1 by decide), .inl rfl⟩
  · split at he
    · simp at he
    · split at he
      · obtain rfl := List.mem_singleton.1 he; exact ⟨(show (3 : UInt8) ≠ 1 by decide), .inr rfl⟩
      · simp at he
theorem rdL_none {evs : List Ev} (h : ∀ e ∈ evs, e.kind ≠ 1) : rdL evs = [] := by
  unfold rdL
  rw [List.filter_eq_nil_iff.2 fun e he => by simpa using h e he]
  rfl
theorem rd_pass {x : Ins} (h : readsB x.op = false) (v : UInt8) (r : RunP) : rdL (evsP (execE x v r)) = rdL (evsP r) := by
  have h0 : rdL (newE x v r) = [] := rdL_none fun e he => (new_pass h v r e he).1
  rw [evs_exec, rdL_append, h0, List.append_nil]
theorem rd_read {x : Ins} (h : readsB x.op = true) (v : UInt8) (r : RunP) : rdL (evsP (execE x v r)) = rdL (evsP r) ++ [v] := by
  obtain ⟨e, rest, he, h1, _, h3, h4⟩ := new_reads h v r
  have h0 : rdL rest = [] := rdL_none fun e' he' => by rw [(h4 e' he').1]; decide
  rw [evs_exec, rdL_append, he, show e :: rest = [e] ++ rest from rfl, rdL_append, h0, List.append_nil]
  congr 1
  unfold rdL
  rw [List.filter_cons_of_pos (by simpa using h1)]
  show [e.val] = [v]
  rw [h3]
def LocOk (evs : List Ev) : Prop := ∀ e ∈ evs, e.loc.toNat < 6
theorem loc_exec {l : List Ins} {r : RunP} {x : Ins} (v : UInt8) (hl : threadOk 6 l = true) (hx : l[r.pc]? = some x) (h : LocOk (evsP r)) : LocOk (evsP (execE x v r)) := fun e he => by
  have h6 := (thr_at hl hx).loc
  rw [evs_exec] at he
  rcases List.mem_append.1 he with he | he
  · exact h e he
  · cases hr : readsB x.op with
    | true =>
      obtain ⟨e1, rest, e2, _, h2, _, h4⟩ := new_reads hr v r
      rw [e2] at he
      rcases List.mem_cons.1 he with he | he
      · rw [he, h2]; exact h6
      · rw [(h4 e he).2]; exact h6
    | false =>
      rcases (new_pass hr v r e he).2 with e1 | e1
      · rw [e1]; exact h6
      · rw [e1]; decide
def GoodE (m0 : By) (evs : List Ev) : Prop := ∀ i e, evs[i]? = some e → e.kind = 1 → e.val = memL m0 (evs.take i) e.loc.toNat
theorem GoodE.append {m0 : By} {a b : List Ev} (ha : GoodE m0 a) (hb : GoodE (memL m0 a) b) : GoodE m0 (a ++ b) := fun i e hi hk => by
  rcases Nat.lt_or_ge i a.length with h | h
  · rw [List.getElem?_append_left h] at hi
    rw [List.take_append_of_le_length (by omega)]
    exact ha i e hi hk
  · rw [List.getElem?_append_right h] at hi
    rw [List.take_append, List.take_of_length_le h, memL_append]
    exact hb _ e hi hk
theorem Alone.loc {m0 : By} {l : List Ins} {r z : RunP} {vs : List UInt8} (hl : threadOk 6 l = true) (h : Alone m0 l r vs z) : LocOk (evsP r) → LocOk (evsP z) := by
  induction h with
  | stop hx => exact id
  | read hx hr _ ih => intro hg; exact ih (loc_exec _ hl hx hg)
  | pass hx hr _ ih => intro hg; exact ih (loc_exec _ hl hx hg)
theorem Alone.len {m0 : By} {l : List Ins} {r z : RunP} {vs : List UInt8} (h : Alone m0 l r vs z) : vs.length ≤ l.length - r.pc := by
  induction h with
  | stop hx => simp
  | @read r z x vs hx hr _ ih =>
    have := (List.getElem?_eq_some_iff.1 hx).1
    have := exec_pc x (memL m0 (evsP r) x.loc.toNat) r
    rw [List.length_cons]; omega
  | @pass r z x vs hx hr _ ih =>
    have := exec_pc x 0 r
    omega
-- SqN
set_option maxRecDepth 100000
inductive Path8 (l : List Ins) : RunP → List UInt8 → RunP → Prop where
  | stop {r : RunP} : l[r.pc]? = none → Path8 l r [] r
  | read {r z : RunP} {x : Ins} {v : UInt8} {vs : List UInt8} : l[r.pc]? = some x → readsB x.op = true → Path8 l (execE x v r) vs z → Path8 l r (v :: vs) z
  | pass {r z : RunP} {x : Ins} {vs : List UInt8} : l[r.pc]? = some x → readsB x.op = false → Path8 l (execE x 0 r) vs z → Path8 l r vs z
theorem go_over {l : List Ins} {r : RunP} (hx : l[r.pc]? = none) (v : UInt8) (vs : List UInt8) : goP l (v :: vs) r = .many := by
  have e : proceedP l r = r := proceed_stop (.inr hx)
  exact go_many (by rw [e]; exact wants_end hx)
theorem Path8.go {l : List Ins} {r z : RunP} {vs : List UInt8} (h : Path8 l r vs z) : goP l vs r = .done z := by
  induction h with
  | stop hx => exact go_stop hx
  | read hx hr _ ih => rw [go_read hx hr]; exact ih
  | pass hx hr _ ih => rw [go_pass hx hr]; exact ih
theorem path_of {l : List Ins} : ∀ (n : Nat) (r : RunP) (vs : List UInt8) (z : RunP), l.length - r.pc ≤ n → goP l vs r = .done z → Path8 l r vs z := by
  intro n
  induction n with
  | zero =>
    intro r vs z hn h
    have hx : l[r.pc]? = none := List.getElem?_eq_none (by omega)
    cases vs with
    | nil => rw [go_stop hx] at h; cases h; exact .stop hx
    | cons v vs => rw [go_over hx] at h; cases h
  | succ n ih =>
    intro r vs z hn h
    cases hx : l[r.pc]? with
    | none =>
      cases vs with
      | nil => rw [go_stop hx] at h; cases h; exact .stop hx
      | cons v vs => rw [go_over hx] at h; cases h
    | some x =>
      have hp := (List.getElem?_eq_some_iff.1 hx).1
      cases hr : readsB x.op with
      | false =>
        rw [go_pass hx hr] at h
        exact .pass hx hr (ih _ _ _ (by have := exec_pc x 0 r; omega) h)
      | true =>
        cases vs with
        | nil => rw [go_wait hx hr] at h; cases h
        | cons v vs =>
          rw [go_read hx hr] at h
          exact .read hx hr (ih _ _ _ (by have := exec_pc x v r; omega) h)
theorem Path8.less {l : List Ins} {r z : RunP} {vs : List UInt8} (h : Path8 l r vs z) : ∀ k, k < vs.length → goP l (vs.take k) r = .wants := by
  induction h with
  | stop hx => intro k hk; simp at hk
  | read hx hr _ ih =>
    intro k hk
    cases k with
    | zero => rw [List.take_zero]; exact go_wait hx hr
    | succ k => rw [List.take_succ_cons, go_read hx hr]; exact ih k (by simpa using hk)
  | pass hx hr _ ih => intro k hk; rw [go_pass hx hr]; exact ih k hk
theorem Path8.more {l : List Ins} {r z : RunP} {vs : List UInt8} (h : Path8 l r vs z) (v : UInt8) (ws : List UInt8) : goP l (vs ++ v :: ws) r = .many := by
  induction h with
  | stop hx => exact go_over hx v ws
  | read hx hr _ ih => rw [List.cons_append, go_read hx hr]; exact ih
  | pass hx hr _ ih => rw [go_pass hx hr]; exact ih
theorem Path8.rd {l : List Ins} {r z : RunP} {vs : List UInt8} (h : Path8 l r vs z) : rdL (evsP z) = rdL (evsP r) ++ vs := by
  induction h with
  | stop hx => simp
  | read hx hr _ ih => rw [ih, rd_read hr, List.append_assoc]; rfl
  | pass hx hr _ ih => rw [ih, rd_pass hr]
theorem Path8.inv {l : List Ins} {r z : RunP} {vs : List UInt8} (hl : threadOk 6 l = true) (h : Path8 l r vs z) : InvR l r → InvR l z := by
  induction h with
  | stop hx => exact id
  | read hx hr _ ih => intro hi; exact ih (exec_inv _ hi hl hx)
  | pass hx hr _ ih => intro hi; exact ih (exec_inv _ hi hl hx)
theorem path_ex {l : List Ins} : ∀ (n : Nat) (r : RunP) (ws : List UInt8), l.length - r.pc ≤ n → n ≤ ws.length → ∃ k z, k ≤ n ∧ Path8 l r (ws.take k) z := by
  intro n
  induction n with
  | zero =>
    intro r ws hn _
    exact ⟨0, r, Nat.le_refl _, by rw [List.take_zero]; exact .stop (List.getElem?_eq_none (by omega))⟩
  | succ n ih =>
    intro r ws hn hw
    cases hx : l[r.pc]? with
    | none => exact ⟨0, r, Nat.zero_le _, by rw [List.take_zero]; exact .stop hx⟩
    | some x =>
      have hp := (List.getElem?_eq_some_iff.1 hx).1
      cases hr : readsB x.op with
      | false =>
        obtain ⟨k, z, hk, h⟩ := ih (execE x 0 r) ws (by have := exec_pc x 0 r; omega) (by omega)
        exact ⟨k, z, by omega, .pass hx hr h⟩
      | true =>
        cases ws with
        | nil => simp at hw
        | cons v ws =>
          obtain ⟨k, z, hk, h⟩ := ih (execE x v r) ws (by have := exec_pc x v r; omega) (by simpa using hw)
          exact ⟨k + 1, z, by omega, by rw [List.take_succ_cons]; exact .read hx hr h⟩
structure Done8 (l : List Ins) (reads : List UInt8) (z : RunP) : Prop where
  path : Path8 l zRun reads z
  fol : followR l reads = ⟨runPath z, false, 0⟩
theorem Done8.of {l : List Ins} {reads : List UInt8} {z : RunP} (hl : threadOk 6 l = true) (h : Path8 l zRun reads z) : Done8 l reads z := ⟨h, fol_doneQ hl h.go⟩
  where fol_doneQ {l : List Ins} {reads : List UInt8} {r : RunP} (hl : threadOk 6 l = true) (h : followP l reads = .done r) : followR l reads = ⟨runPath r, false, 0⟩ := by rw [followR_ok hl h]; rfl
theorem Done8.reads {l : List Ins} {reads : List UInt8} {z : RunP} (h : Done8 l reads z) : readsL (followR l reads).path.evs = reads := by
  rw [h.fol]
  have e := h.path.rd
  have : rdL (evsP zRun) = [] := rfl
  rw [this, List.nil_append] at e
  exact e
theorem fol_three {l : List Ins} (hl : threadOk 6 l = true) (reads : List UInt8) : (∃ z, Done8 l reads z) ∨ followR l reads = ⟨zPathP, true, 0⟩ ∨ followR l reads = ⟨zPathP, false, 5⟩ := by
  cases h : followP l reads with
  | wants => exact .inr (.inl (by rw [followR_ok hl h]; rfl))
  | many => exact .inr (.inr (by rw [followR_ok hl h]; rfl))
  | done z => exact .inl ⟨z, .of hl (path_of l.length zRun reads z (by omega) h)⟩
theorem done_of {l : List Ins} (hl : threadOk 6 l = true) {reads : List UInt8} (he : (followR l reads).err = 0) (hm : (followR l reads).more = false) : ∃ z, Done8 l reads z := by
  rcases fol_three hl reads with h | h | h
  · exact h
  · rw [h] at hm; cases hm
  · rw [h] at he; cases he
theorem Done8.less {l : List Ins} {reads : List UInt8} {z : RunP} (hl : threadOk 6 l = true) (h : Done8 l reads z) {k : Nat} (hk : k < reads.length) : followR l (reads.take k) = ⟨zPathP, true, 0⟩ := by
  rw [followR_ok hl (h.path.less k hk)]; rfl
theorem Done8.more {l : List Ins} {reads : List UInt8} {z : RunP} (hl : threadOk 6 l = true) (h : Done8 l reads z) (v : UInt8) : followR l (reads ++ [v]) = ⟨zPathP, false, 5⟩ := by
  rw [followR_ok hl (h.path.more v [])]; rfl
theorem small_run {l : List Ins} {r : RunP} (hl : threadOk 6 l = true) (h : InvR l r) : smallP (runPath r) = true := by
  have hm : r.many ≤ 24 := by have := h.many; have := h.pc; have := thr_len hl; omega
  have hp : ∀ f : Nat → Nat, (∀ k, f k < 4294967296) → (pairsP f r.many).length ≤ 1000000000000 := fun f hf => by
    have := pairsP_len hf r.many
    have h2 : 4294967296 * r.many ≤ 4294967296 * 24 := Nat.mul_le_mul_left _ hm
    omega
  simp only [smallP, Bool.and_eq_true, decide_eq_true_eq]
  refine ⟨⟨⟨?_, hp _ h.sets.data⟩, hp _ h.sets.ctrl⟩, hp _ h.sets.att⟩
  show (evsP r).length ≤ 1000000
  rw [evs_len]; omega
theorem small_fol (l : List Ins) (reads : List UInt8) : smallP (followR l reads).path = true := by
  cases hl : threadOk 6 l with
  | false => rw [followR_bad hl]; rfl
  | true =>
    rcases fol_three hl reads with ⟨z, hz⟩ | h | h
    · rw [hz.fol]; exact small_run hl (hz.path.inv hl (inv_zero l))
    · rw [h]; rfl
    · rw [h]; rfl
def zPl : PlP := ⟨zPathP, none, 0, none, 0, none, 0, none, 0⟩
end Go.Proofs.YtklpiodciblabaaGreatDoor
