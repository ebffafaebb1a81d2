/-
  Plain Lean: what a thread's run keeps; proceed and Follow as plain functions. Conditions: none.
-/
import Derived.Test.YtklpiodciblabaaGreatDoorPaC
set_option linter.unusedSimpArgs false
set_option linter.unusedVariables false
namespace Go.Proofs.YtklpiodciblabaaGreatDoor
set_option maxRecDepth 100000
theorem lt32_0 : (0 : Nat) < 4294967296 := by decide
theorem SetsOk.reg {r : RunP} (h : SetsOk r) (d : Nat) (v : UInt8) : SetsOk (r.wReg d v) := ⟨h.deps, h.control, h.data, h.ctrl, h.att⟩
theorem putN_lt {f : Nat → Nat} {j n : Nat} (h : ∀ k, f k < 4294967296) (hn : n < 4294967296) (k : Nat) : putN f j n k < 4294967296 := by
  unfold putN
  split
  · exact hn
  · exact h k
theorem SetsOk.dep {r : RunP} (h : SetsOk r) (d : Nat) {n : Nat} (hn : n < 4294967296) : SetsOk (r.wDep d n) :=
  ⟨fun k hk => by
    show putN r.deps d n k < _
    unfold putN
    split
    · exact hn
    · exact h.deps k hk, h.control, h.data, h.ctrl, h.att⟩
theorem SetsOk.ctl {r : RunP} (h : SetsOk r) {n : Nat} (hn : n < 4294967296) : SetsOk (r.wControl n) := ⟨h.deps, hn, h.data, h.ctrl, h.att⟩
theorem SetsOk.many {r : RunP} (h : SetsOk r) (n : Nat) : SetsOk (r.wMany n) := ⟨h.deps, h.control, h.data, h.ctrl, h.att⟩
theorem SetsOk.ev {r : RunP} (h : SetsOk r) (k : Nat) (e : Ev) : SetsOk (r.wEv k e) := ⟨h.deps, h.control, h.data, h.ctrl, h.att⟩
theorem SetsOk.pc {r : RunP} (h : SetsOk r) (n : Nat) : SetsOk (r.wPc n) := ⟨h.deps, h.control, h.data, h.ctrl, h.att⟩
theorem SetsOk.dat {r : RunP} (h : SetsOk r) (k : Nat) {n : Nat} (hn : n < 4294967296) : SetsOk (r.wData k n) := ⟨h.deps, h.control, putN_lt h.data hn, h.ctrl, h.att⟩
theorem SetsOk.ctr {r : RunP} (h : SetsOk r) (k : Nat) {n : Nat} (hn : n < 4294967296) : SetsOk (r.wCtrl k n) := ⟨h.deps, h.control, h.data, putN_lt h.ctrl hn, h.att⟩
theorem SetsOk.atw {r : RunP} (h : SetsOk r) (k : Nat) {n : Nat} (hn : n < 4294967296) : SetsOk (r.wAtt k n) := ⟨h.deps, h.control, h.data, h.ctrl, putN_lt h.att hn⟩
theorem SetsOk.setP {r : RunP} (h : SetsOk r) (d v : UInt8) {n : Nat} (hn : n < 4294967296) : SetsOk (setP d v n r) := (h.reg _ _).dep _ hn
theorem SetsOk.emit {r : RunP} (h : SetsOk r) (kind loc val mode : UInt8) {n : Nat} (hn : n < 4294967296) : SetsOk (emitP kind loc val mode n r) :=
  (((h.ev _ _).dat _ hn).ctr _ h.control).many _
theorem wReg_many (r : RunP) (d : Nat) (v : UInt8) : (r.wReg d v).many = r.many := rfl
theorem wDep_many (r : RunP) (d n : Nat) : (r.wDep d n).many = r.many := rfl
theorem wControl_many (r : RunP) (n : Nat) : (r.wControl n).many = r.many := rfl
theorem wMany_many (r : RunP) (n : Nat) : (r.wMany n).many = n := rfl
theorem wPc_many (r : RunP) (n : Nat) : (r.wPc n).many = r.many := rfl
theorem wData_many (r : RunP) (d n : Nat) : (r.wData d n).many = r.many := rfl
theorem wCtrl_many (r : RunP) (d n : Nat) : (r.wCtrl d n).many = r.many := rfl
theorem wAtt_many (r : RunP) (d n : Nat) : (r.wAtt d n).many = r.many := rfl
theorem set_many' (d v : UInt8) (n : Nat) (r : RunP) : (setP d v n r).many = r.many := by unfold setP; rw [wDep_many, wReg_many]
theorem emit_many (kind loc val mode : UInt8) (n : Nat) (r : RunP) : (emitP kind loc val mode n r).many = r.many + 1 := by unfold emitP; rw [wMany_many]
theorem exch_many (x : Ins) (old val : UInt8) (n : Nat) (r : RunP) : (exchE x old val n r).many = r.many + 2 := by unfold exchE; rw [set_many', wAtt_many, emit_many, emit_many]
theorem SetsOk.exch {r : RunP} (h : SetsOk r) (hm : r.many < 24) (x : Ins) (old val : UInt8) {n : Nat} (hn : n < 4294967296) : SetsOk (exchE x old val n r) :=
  (((h.emit 1 x.loc old 3 lt32_0).emit 2 x.loc val 3 hn).atw _ (bit_lt hm)).setP _ _ (bit_lt hm)
theorem skip_many (x : Ins) (r : RunP) : (skipE x r).many = r.many := by
  unfold skipE
  split
  · rw [wPc_many, wControl_many]
  · rw [wControl_many]
theorem cas_many (x : Ins) (v : UInt8) (r : RunP) : r.many + 1 ≤ (casE x v r).many ∧ (casE x v r).many ≤ r.many + 2 := by
  unfold casE
  split
  · rw [set_many', emit_many]; omega
  · rw [wCtrl_many, exch_many]; omega
theorem eff_many (x : Ins) (v : UInt8) (r : RunP) : (effE x v r).many ≤ r.many + 2 := by
  have key : ∀ (n k : Nat), n = r.many + k → k ≤ 2 → n ≤ r.many + 2 := fun n k h1 h2 => by omega
  unfold effE
  split
  · exact key _ 1 (by unfold loadE; rw [set_many', emit_many]) (by decide)
  · split
    · exact key _ 1 (by unfold storeE; rw [emit_many]) (by decide)
    · split
      · exact key _ 0 (by unfold moveE'; rw [set_many']; rfl) (by decide)
      · split
        · exact key _ 2 (by unfold swapE; rw [exch_many]) (by decide)
        · split
          · exact key _ 2 (by unfold fetchE; rw [wData_many, exch_many]) (by decide)
          · split
            · exact (cas_many x v r).2
            · split
              · exact key _ 1 (by unfold fenceE; rw [emit_many]) (by decide)
              · exact key _ 0 (skip_many x r) (by decide)
theorem eff_sets {x : Ins} (v : UInt8) {r : RunP} (hx : InR x) (h : SetsOk r) (hm : r.many + 1 < 24) : SetsOk (effE x v r) := by
  have ha := h.arg x.aR hx.a
  have hb := h.arg x.bR hx.b
  have hab := or_lt ha hb
  have hm' : r.many < 24 := by omega
  unfold effE
  split
  · exact (h.emit 1 x.loc v x.mode lt32_0).setP _ _ (bit_lt hm')
  · split
    · exact h.emit _ _ _ _ ha
    · split
      · exact h.setP _ _ hab
      · split
        · exact h.exch hm' _ _ _ ha
        · split
          · have h2 := h.exch hm' x v (v + argV x.aR x.aN r) ha
            exact h2.dat _ (or_lt (h2.data _) (h2.att _))
          · split
            · unfold casE
              split
              · exact (h.emit 1 x.loc v 3 lt32_0).setP _ _ (bit_lt hm')
              · have h2 := h.exch hm' x v (argV x.bR x.bN r) hb
                exact h2.ctr _ (or_lt (h2.ctrl _) (or_lt (h2.att _) ha))
            · split
              · exact h.emit _ _ _ _ lt32_0
              · unfold skipE
                split
                · exact (h.ctl (or_lt h.control hab)).pc _
                · exact h.ctl (or_lt h.control hab)
structure ThrAt (l : List Ins) (k : Nat) (x : Ins) : Prop where
  inr : InR x
  op : 1 ≤ x.op.toNat ∧ x.op.toNat ≤ 8
  skip : k + 1 + x.skip.toNat ≤ l.length
  loc : x.loc.toNat < 6
theorem thr_len {l : List Ins} (h : threadOk 6 l = true) : l.length ≤ 12 := by
  simp only [threadOk, Bool.and_eq_true, decide_eq_true_eq] at h
  exact h.1
theorem arg_of {r : Bool} {n : UInt8} (h : argOk r n = true) (hr : r = true) : n.toNat < 8 := by
  unfold argOk at h
  rw [hr] at h
  exact UInt8.lt_iff_toNat_lt.1 (of_decide_eq_true h)
theorem thr_at {l : List Ins} (h : threadOk 6 l = true) {k : Nat} {x : Ins} (hk : l[k]? = some x) : ThrAt l k x := by
  have hl := (List.getElem?_eq_some_iff.1 hk).1
  simp only [threadOk, Bool.and_eq_true, decide_eq_true_eq] at h
  have hI := inses_at h.2 hk
  have c0 : (decide (1 ≤ x.op) && decide (x.op ≤ 8)) = true := ins_cond hI 0 (by decide)
  have c1 : (x == x.needed) = true := ins_cond hI 1 (by decide)
  have c2 : decide (x.dst < 8) = true := ins_cond hI 2 (by decide)
  have c3 : (!hasB x.op 2 || decide ((x.loc.toNat : Int) < 6)) = true := ins_cond hI 3 (by decide)
  have c4 : (argOk x.aR x.aN && argOk x.bR x.bN) = true := ins_cond hI 4 (by decide)
  have c7 : (!hasB x.op 64 || (decide (1 ≤ x.skip) && decide ((x.skip.toNat : Int) ≤ (l.length : Int) - 1 - ((0 + k : Nat) : Int)))) = true := ins_cond hI 7 (by decide)
  have e : x = x.needed := beq_iff_eq.1 c1
  rw [Bool.and_eq_true] at c0 c4
  have o1 := UInt8.le_iff_toNat_le.1 (of_decide_eq_true c0.1)
  have o2 := UInt8.le_iff_toNat_le.1 (of_decide_eq_true c0.2)
  refine ⟨⟨UInt8.lt_iff_toNat_lt.1 (of_decide_eq_true c2), arg_of c4.1, arg_of c4.2⟩, ⟨o1, o2⟩, ?_, ?_⟩
  · cases hb : hasB x.op 64 with
    | true =>
      rw [hb, Bool.not_true, Bool.false_or, Bool.and_eq_true] at c7
      have := of_decide_eq_true c7.2
      omega
    | false =>
      have : x.skip = 0 := by
        have h1 : x.skip = x.needed.skip := congrArg Ins.skip e
        have h2 : x.needed.skip = bif hasB x.op 64 then x.skip else 0 := rfl
        rw [h1, h2, hb]; rfl
      rw [this]
      show k + 1 + 0 ≤ _
      omega
  · cases hb : hasB x.op 2 with
    | true =>
      rw [hb, Bool.not_true, Bool.false_or] at c3
      have := of_decide_eq_true c3
      omega
    | false =>
      have : x.loc = 0 := by
        have h1 : x.loc = x.needed.loc := congrArg Ins.loc e
        have h2 : x.needed.loc = bif hasB x.op 2 then x.loc else 0 := rfl
        rw [h1, h2, hb]; rfl
      rw [this]
      decide
structure InvR (l : List Ins) (r : RunP) : Prop where
  pc : r.pc ≤ l.length
  many : r.many ≤ 2 * r.pc
  sets : SetsOk r
theorem inv_zero (l : List Ins) : InvR l zRun := ⟨Nat.zero_le _, Nat.zero_le _, ⟨fun _ _ => lt32_0, lt32_0, fun _ => lt32_0, fun _ => lt32_0, fun _ => lt32_0⟩⟩
theorem InvR.ok {l : List Ins} {r : RunP} (h : InvR l r) (hl : threadOk 6 l = true) (hp : r.pc < l.length) : RunOk r := by
  have := thr_len hl
  have := h.many
  exact ⟨h.sets, by omega, by omega⟩
theorem exec_pc (x : Ins) (v : UInt8) (r : RunP) : r.pc + 1 ≤ (execE x v r).pc ∧ (execE x v r).pc ≤ r.pc + 1 + x.skip.toNat := by
  have := eff_pc x v r
  unfold execE
  rw [wPc_pc]
  omega
theorem exec_inv {l : List Ins} {r : RunP} {x : Ins} (v : UInt8) (h : InvR l r) (hl : threadOk 6 l = true) (hx : l[r.pc]? = some x) : InvR l (execE x v r) := by
  have hp := (List.getElem?_eq_some_iff.1 hx).1
  have hT := thr_at hl hx
  have hk := h.ok hl hp
  have h1 := exec_pc x v r
  have h2 := eff_many x v r
  have h3 := hT.skip
  have h4 := h.many
  refine ⟨by omega, ?_, (eff_sets v hT.inr h.sets hk.many).pc _⟩
  have : (execE x v r).many = (effE x v r).many := by unfold execE; rw [wPc_many]
  omega
def readsB (op : UInt8) : Bool := op == 1 || op == 4 || op == 5 || op == 6
def proceedF (l : List Ins) : Nat → RunP → RunP
  | 0, r => r
  | n + 1, r => match l[r.pc]? with
    | some x => if readsB x.op = true then r else proceedF l n (execE x 0 r)
    | none => r
def proceedP (l : List Ins) (r : RunP) : RunP := proceedF l (l.length - r.pc) r
def wantsP (l : List Ins) (r : RunP) : Bool := match l[r.pc]? with
  | some x => readsB x.op
  | none => false
theorem proceedF_stop {l : List Ins} {r : RunP} (h : wantsP l r = true ∨ l[r.pc]? = none) : ∀ n, proceedF l n r = r
  | 0 => rfl
  | n + 1 => by
    unfold proceedF
    rcases h with h | h
    · unfold wantsP at h
      cases hx : l[r.pc]? with
      | none => rfl
      | some x =>
        rw [hx] at h
        show (if readsB x.op = true then r else _) = r
        rw [if_pos h]
    · rw [h]
theorem proceedF_more {l : List Ins} : ∀ (n : Nat) (r : RunP), l.length - r.pc ≤ n → proceedF l n r = proceedP l r
  | n, r, h => by
    induction n using Nat.strongRecOn generalizing r with
    | _ n ih =>
      cases hx : l[r.pc]? with
      | none => rw [proceedF_stop (.inr hx)]; unfold proceedP; rw [proceedF_stop (.inr hx)]
      | some x =>
        have hp := (List.getElem?_eq_some_iff.1 hx).1
        obtain ⟨m, hm⟩ : ∃ m, l.length - r.pc = m + 1 := ⟨l.length - r.pc - 1, by omega⟩
        obtain ⟨k, rfl⟩ : ∃ k, n = k + 1 := ⟨n - 1, by omega⟩
        cases hr : readsB x.op with
        | true =>
          have hw : wantsP l r = true := by unfold wantsP; rw [hx]; exact hr
          rw [proceedF_stop (.inl hw)]; unfold proceedP; rw [proceedF_stop (.inl hw)]
        | false =>
          have e1 : ∀ j, proceedF l (j + 1) r = proceedF l j (execE x 0 r) := fun j => by
            show (match l[r.pc]? with | some x => if readsB x.op = true then r else proceedF l j (execE x 0 r) | none => r) = _
            rw [hx]
            show (if readsB x.op = true then r else proceedF l j (execE x 0 r)) = _
            rw [if_neg (by rw [hr]; exact Bool.noConfusion)]
          have hpc := exec_pc x 0 r
          unfold proceedP
          rw [hm, e1 k, e1 m, ih k (by omega) _ (by omega), ih m (by omega) _ (by omega)]
theorem proceed_step {l : List Ins} {r : RunP} {x : Ins} (hx : l[r.pc]? = some x) (hr : readsB x.op = false) : proceedP l r = proceedP l (execE x 0 r) := by
  have hp := (List.getElem?_eq_some_iff.1 hx).1
  have hpc := exec_pc x 0 r
  obtain ⟨m, hm⟩ : ∃ m, l.length - r.pc = m + 1 := ⟨l.length - r.pc - 1, by omega⟩
  rw [← proceedF_more m (execE x 0 r) (by omega)]
  unfold proceedP
  rw [hm]
  show (match l[r.pc]? with | some x => if readsB x.op = true then r else proceedF l m (execE x 0 r) | none => r) = _
  rw [hx]
  show (if readsB x.op = true then r else proceedF l m (execE x 0 r)) = _
  rw [if_neg (by rw [hr]; exact Bool.noConfusion)]
theorem proceed_stop {l : List Ins} {r : RunP} (h : wantsP l r = true ∨ l[r.pc]? = none) : proceedP l r = r := proceedF_stop h _
theorem proceed_ind {l : List Ins} {M : RunP → Prop} (hs : ∀ r x, M r → l[r.pc]? = some x → readsB x.op = false → M (execE x 0 r)) : ∀ (n : Nat) (r : RunP), M r → M (proceedF l n r)
  | 0, _, h => h
  | n + 1, r, h => by
    unfold proceedF
    cases hx : l[r.pc]? with
    | none => exact h
    | some x =>
      show M (if readsB x.op = true then r else proceedF l n (execE x 0 r))
      cases hr : readsB x.op with
      | true => rw [if_pos rfl]; exact h
      | false => rw [if_neg Bool.noConfusion]; exact proceed_ind hs n _ (hs r x h hx hr)
theorem proceed_inv {l : List Ins} {r : RunP} (hl : threadOk 6 l = true) (h : InvR l r) : InvR l (proceedP l r) := proceed_ind (fun _ _ h hx _ => exec_inv 0 h hl hx) _ r h
inductive Fol where
  | wants : Fol
  | many : Fol
  | done (r : RunP) : Fol
def insAt (l : List Ins) (r : RunP) : Ins := (l[r.pc]?).getD ⟨0, 0, 0, false, 0, false, 0, 0, 0, 0⟩
def goP (l : List Ins) : List UInt8 → RunP → Fol
  | [], r => if wantsP l (proceedP l r) = true then .wants else .done (proceedP l r)
  | v :: vs, r => if wantsP l (proceedP l r) = true then goP l vs (execE (insAt l (proceedP l r)) v (proceedP l r)) else .many
def followP (l : List Ins) (reads : List UInt8) : Fol := goP l reads zRun
theorem wants_ins {l : List Ins} {r : RunP} (h : wantsP l r = true) : l[r.pc]? = some (insAt l r) ∧ readsB (insAt l r).op = true := by
  unfold wantsP at h
  unfold insAt
  cases hx : l[r.pc]? with
  | none => rw [hx] at h; exact Bool.noConfusion h
  | some x => rw [hx] at h; exact ⟨rfl, h⟩
end Go.Proofs.YtklpiodciblabaaGreatDoor
