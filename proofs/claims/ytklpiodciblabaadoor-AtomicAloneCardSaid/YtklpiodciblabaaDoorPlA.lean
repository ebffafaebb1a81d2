/-
  Plain Lean: the events and registers behind an instruction of a path. Conditions: none.
-/
import Derived.Test.YtklpiodciblabaaDoorPaI
set_option linter.unusedSimpArgs false
set_option linter.unusedVariables false
namespace Go.Proofs.YtklpiodciblabaaDoor
set_option maxRecDepth 100000
theorem evs_wReg (r : RunP) (d : Nat) (v : UInt8) : evsP (r.wReg d v) = evsP r := rfl
theorem evs_wDep (r : RunP) (d n : Nat) : evsP (r.wDep d n) = evsP r := rfl
theorem evs_wControl (r : RunP) (n : Nat) : evsP (r.wControl n) = evsP r := rfl
theorem evs_wPc (r : RunP) (n : Nat) : evsP (r.wPc n) = evsP r := rfl
theorem evs_wData (r : RunP) (d n : Nat) : evsP (r.wData d n) = evsP r := rfl
theorem evs_wCtrl (r : RunP) (d n : Nat) : evsP (r.wCtrl d n) = evsP r := rfl
theorem evs_wAtt (r : RunP) (d n : Nat) : evsP (r.wAtt d n) = evsP r := rfl
theorem evs_set (d v : UInt8) (n : Nat) (r : RunP) : evsP (setP d v n r) = evsP r := by unfold setP; rw [evs_wDep, evs_wReg]
theorem evs_put (r : RunP) (e : Ev) : evsP ((r.wEv r.many e).wMany (r.many + 1)) = evsP r ++ [e] := by
  unfold evsP RunP.wEv RunP.wMany
  show (List.range (r.many + 1)).map (putN r.ev r.many e) = _
  rw [List.range_succ, List.map_append, List.map_cons, List.map_nil]
  have h1 : putN r.ev r.many e r.many = e := by unfold putN; rw [if_pos rfl]
  have h2 : (List.range r.many).map (putN r.ev r.many e) = (List.range r.many).map r.ev := List.map_congr_left fun i hi => by
    have := List.mem_range.1 hi
    unfold putN
    rw [if_neg (by omega)]
  rw [h1, h2]
theorem evs_emit (kind loc val mode : UInt8) (n : Nat) (r : RunP) : evsP (emitP kind loc val mode n r) = evsP r ++ [⟨kind, loc, val, mode, UInt8.ofNat r.pc, UInt8.ofNat r.many⟩] := evs_put r _
theorem evs_exch (x : Ins) (old val : UInt8) (n : Nat) (r : RunP) : evsP (exchE x old val n r) = evsP r ++ [⟨1, x.loc, old, 3, UInt8.ofNat r.pc, UInt8.ofNat r.many⟩, ⟨2, x.loc, val, 3, UInt8.ofNat r.pc, UInt8.ofNat (r.many + 1)⟩] := by
  unfold exchE
  rw [evs_set, evs_wAtt, evs_emit, evs_emit, emit_pc, emit_many, List.append_assoc]
  rfl
/-- The events that an instruction adds. -/
def newE (x : Ins) (v : UInt8) (r : RunP) : List Ev :=
  if x.op = 1 then [⟨1, x.loc, v, x.mode, UInt8.ofNat r.pc, UInt8.ofNat r.many⟩]
  else if x.op = 2 then [⟨2, x.loc, argV x.aR x.aN r, x.mode, UInt8.ofNat r.pc, UInt8.ofNat r.many⟩]
  else if x.op = 3 then []
  else if x.op = 4 then [⟨1, x.loc, v, 3, UInt8.ofNat r.pc, UInt8.ofNat r.many⟩, ⟨2, x.loc, argV x.aR x.aN r, 3, UInt8.ofNat r.pc, UInt8.ofNat (r.many + 1)⟩]
  else if x.op = 5 then [⟨1, x.loc, v, 3, UInt8.ofNat r.pc, UInt8.ofNat r.many⟩, ⟨2, x.loc, v + argV x.aR x.aN r, 3, UInt8.ofNat r.pc, UInt8.ofNat (r.many + 1)⟩]
  else if x.op = 6 then (if v ≠ argV x.aR x.aN r then [⟨1, x.loc, v, 3, UInt8.ofNat r.pc, UInt8.ofNat r.many⟩] else [⟨1, x.loc, v, 3, UInt8.ofNat r.pc, UInt8.ofNat r.many⟩, ⟨2, x.loc, argV x.bR x.bN r, 3, UInt8.ofNat r.pc, UInt8.ofNat (r.many + 1)⟩])
  else if x.op = 7 then [⟨3, 0, 0, x.mode, UInt8.ofNat r.pc, UInt8.ofNat r.many⟩]
  else []
theorem evs_exec (x : Ins) (v : UInt8) (r : RunP) : evsP (execE x v r) = evsP r ++ newE x v r := by
  unfold execE
  rw [evs_wPc]
  unfold effE newE
  split
  · unfold loadE; rw [evs_set, evs_emit]
  · split
    · unfold storeE; rw [evs_emit]
    · split
      · unfold moveE'; rw [evs_set, List.append_nil]
      · split
        · unfold swapE; rw [evs_exch]
        · split
          · unfold fetchE; rw [evs_wData, evs_exch]
          · split
            · unfold casE
              split
              · rw [evs_set, evs_emit]
              · rw [evs_wCtrl, evs_exch]
            · split
              · unfold fenceE; rw [evs_emit]
              · unfold skipE
                split
                · rw [evs_wPc, evs_wControl, List.append_nil]
                · rw [evs_wControl, List.append_nil]
theorem wReg_regs (r : RunP) (d : Nat) (v : UInt8) : (r.wReg d v).regs = put r.regs d v := rfl
theorem wDep_regs (r : RunP) (d n : Nat) : (r.wDep d n).regs = r.regs := rfl
theorem wControl_regs (r : RunP) (n : Nat) : (r.wControl n).regs = r.regs := rfl
theorem wPc_regs (r : RunP) (n : Nat) : (r.wPc n).regs = r.regs := rfl
theorem wMany_regs (r : RunP) (n : Nat) : (r.wMany n).regs = r.regs := rfl
theorem wEv_regs (r : RunP) (k : Nat) (e : Ev) : (r.wEv k e).regs = r.regs := rfl
theorem wData_regs (r : RunP) (d n : Nat) : (r.wData d n).regs = r.regs := rfl
theorem wCtrl_regs (r : RunP) (d n : Nat) : (r.wCtrl d n).regs = r.regs := rfl
theorem wAtt_regs (r : RunP) (d n : Nat) : (r.wAtt d n).regs = r.regs := rfl
theorem set_regs (d v : UInt8) (n : Nat) (r : RunP) : (setP d v n r).regs = put r.regs d.toNat v := by unfold setP; rw [wDep_regs, wReg_regs]
theorem emit_regs (kind loc val mode : UInt8) (n : Nat) (r : RunP) : (emitP kind loc val mode n r).regs = r.regs := by unfold emitP; rw [wMany_regs, wCtrl_regs, wData_regs, wEv_regs]
theorem exch_regs (x : Ins) (old val : UInt8) (n : Nat) (r : RunP) : (exchE x old val n r).regs = put r.regs x.dst.toNat old := by unfold exchE; rw [set_regs, wAtt_regs, emit_regs, emit_regs]
/-- The registers behind an instruction. -/
def newRegs (x : Ins) (v : UInt8) (r : RunP) : By :=
  if x.op = 1 ∨ x.op = 4 ∨ x.op = 5 ∨ x.op = 6 then put r.regs x.dst.toNat v else if x.op = 3 then put r.regs x.dst.toNat (movF x.fn (argV x.aR x.aN r) (argV x.bR x.bN r)) else r.regs
theorem regs_exec (x : Ins) (v : UInt8) (r : RunP) : (execE x v r).regs = newRegs x v r := by
  unfold execE
  rw [wPc_regs]
  unfold effE newRegs
  split
  next h => rw [if_pos (.inl h)]; unfold loadE; rw [set_regs, emit_regs]
  next h1 =>
    split
    next h => rw [h, if_neg (by decide), if_neg (by decide)]; unfold storeE; rw [emit_regs]
    next h2 =>
      split
      next h => rw [if_neg (by rw [h]; decide)]; unfold moveE'; rw [set_regs]
      next h3 =>
        split
        next h => rw [if_pos (.inr (.inl h))]; unfold swapE; rw [exch_regs]
        next h4 =>
          split
          next h => rw [if_pos (.inr (.inr (.inl h)))]; unfold fetchE; rw [wData_regs, exch_regs]
          next h5 =>
            split
            next h =>
              rw [if_pos (.inr (.inr (.inr h)))]
              unfold casE
              split
              · rw [set_regs, emit_regs]
              · rw [wCtrl_regs, exch_regs]
            next h6 =>
              have h1456 : ¬ (x.op = 1 ∨ x.op = 4 ∨ x.op = 5 ∨ x.op = 6) := fun h => h.elim h1 (fun h => h.elim h4 (fun h => h.elim h5 h6))
              simp only [h1456, if_false]
              split
              · unfold fenceE; rw [emit_regs]
              · unfold skipE
                split
                · rw [wPc_regs, wControl_regs]
                · rw [wControl_regs]
theorem pc_exec (x : Ins) (v : UInt8) (r : RunP) : (execE x v r).pc = if x.op = 8 ∧ skpF x.fn (argV x.aR x.aN r) (argV x.bR x.bN r) = true then r.pc + x.skip.toNat + 1 else if 1 ≤ x.op.toNat ∧ x.op.toNat ≤ 8 then r.pc + 1 else (execE x v r).pc := by
  have key : ∀ y : RunP, (y.wPc (y.pc + 1)).pc = y.pc + 1 := fun y => rfl
  unfold execE
  rw [key]
  by_cases h8 : x.op = 8
  · have e : effE x v r = skipE x r := by unfold effE; rw [h8]; rfl
    rw [e]
    unfold skipE
    by_cases hs : skpF x.fn (argV x.aR x.aN r) (argV x.bR x.bN r) = true
    · rw [if_pos hs, if_pos ⟨h8, hs⟩, wPc_pc]
    · rw [if_neg hs, if_neg (fun h => hs h.2), h8, if_pos (by decide), wControl_pc]
  · rw [if_neg (fun h => h8 h.1)]
    by_cases ho : 1 ≤ x.op.toNat ∧ x.op.toNat ≤ 8
    · rw [if_pos ho]
      refine congrArg (· + 1) ?_
      unfold effE
      split
      · exact load_pc x v r
      · split
        · exact store_pc x r
        · split
          · exact move_pc x r
          · split
            · exact swap_pc x v r
            · split
              · exact fetch_pc x v r
              · split
                · exact cas_pc x v r
                · split
                  · exact fence_pc x r
                  · next h1 h2 h3 h4 h5 h6 h7 =>
                    exfalso
                    rcases op_cases x.op (by rw [Bool.and_eq_true]; exact ⟨decide_eq_true (UInt8.le_iff_toNat_le.2 ho.1), decide_eq_true (UInt8.le_iff_toNat_le.2 ho.2)⟩) with h | h | h | h | h | h | h | h
                    · exact h1 h
                    · exact h2 h
                    · exact h3 h
                    · exact h4 h
                    · exact h5 h
                    · exact h6 h
                    · exact h7 h
                    · exact h8 h
    · rw [if_neg ho]
end Go.Proofs.YtklpiodciblabaaDoor
