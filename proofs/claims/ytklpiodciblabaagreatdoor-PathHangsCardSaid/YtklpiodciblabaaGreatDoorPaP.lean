/-
  Plain Lean: a run of a thread as package path keeps it (places: 0 the Pc, 1 registers, 9 what they hang on, 17 control, 18 the number of events, 19 events of 7 cells, 187 data, 211 control, 235 attached), and what executes an instruction. Conditions: none.
-/
import Derived.Test.YtklpiodciblabaaGreatDoorAtK
set_option linter.unusedSimpArgs false
set_option linter.unusedVariables false
namespace Go.Proofs.YtklpiodciblabaaGreatDoor
set_option maxRecDepth 100000

structure Ev where
  kind : UInt8
  loc : UInt8
  val : UInt8
  mode : UInt8
  ins : UInt8
  pos : UInt8
def Ev.cells (e : Ev) : List Value := [.int .i64 0, b8 e.kind, b8 e.loc, b8 e.val, b8 e.mode, b8 e.ins, b8 e.pos]
def Ev.cell (e : Ev) (i : Nat) : Value := if i = 0 then .int .i64 0 else if i = 1 then b8 e.kind else if i = 2 then b8 e.loc else if i = 3 then b8 e.val else if i = 4 then b8 e.mode else if i = 5 then b8 e.ins else b8 e.pos
def zEv : Ev := ⟨0, 0, 0, 0, 0, 0⟩
def putN {α : Type} (f : Nat → α) (j : Nat) (v : α) : Nat → α := fun i => if i = j then v else f i
structure RunP where
  pc : Nat
  regs : By
  deps : Nat → Nat
  control : Nat
  many : Nat
  ev : Nat → Ev
  data : Nat → Nat
  ctrl : Nat → Nat
  att : Nat → Nat
def u32 (n : Nat) : Value := .int .u32 (n : Int)
def RunP.cell (r : RunP) (i : Nat) : Value :=
  if i < 1 then .int .i64 (r.pc : Int) else if i < 9 then b8 (r.regs (i - 1)) else if i < 17 then u32 (r.deps (i - 9)) else if i < 18 then u32 r.control else if i < 19 then .int .i64 (r.many : Int)
  else if i < 187 then (r.ev ((i - 19) / 7)).cell ((i - 19) % 7) else if i < 211 then u32 (r.data (i - 187)) else if i < 235 then u32 (r.ctrl (i - 211)) else u32 (r.att (i - 235))
def RunP.cells (r : RunP) : List Value := (List.range 259).map r.cell
def zRun : RunP := ⟨0, zb, fun _ => 0, 0, 0, fun _ => zEv, fun _ => 0, fun _ => 0, fun _ => 0⟩
def RunP.wPc (r : RunP) (n : Nat) : RunP := { r with pc := n }
def RunP.wReg (r : RunP) (d : Nat) (v : UInt8) : RunP := { r with regs := put r.regs d v }
def RunP.wDep (r : RunP) (d : Nat) (n : Nat) : RunP := { r with deps := putN r.deps d n }
def RunP.wControl (r : RunP) (n : Nat) : RunP := { r with control := n }
def RunP.wMany (r : RunP) (n : Nat) : RunP := { r with many := n }
def RunP.wEv (r : RunP) (k : Nat) (e : Ev) : RunP := { r with ev := putN r.ev k e }
def RunP.wData (r : RunP) (k : Nat) (n : Nat) : RunP := { r with data := putN r.data k n }
def RunP.wCtrl (r : RunP) (k : Nat) (n : Nat) : RunP := { r with ctrl := putN r.ctrl k n }
def RunP.wAtt (r : RunP) (k : Nat) (n : Nat) : RunP := { r with att := putN r.att k n }
theorem RunP.len (r : RunP) : r.cells.length = 259 := by simp [RunP.cells]
theorem RunP.get (r : RunP) {i : Nat} (h : i < 259) : r.cells[i]? = some (r.cell i) := by
  unfold RunP.cells
  rw [List.getElem?_map, List.getElem?_range h]; rfl
theorem RunP.set_of (r r' : RunP) {j : Nat} {v : Value} (h : ∀ i, i < 259 → r'.cell i = if i = j then v else r.cell i) : r.cells.set j v = r'.cells := by
  refine List.ext_getElem? fun i => ?_
  rcases Nat.lt_or_ge i 259 with hi | hi
  · rw [r'.get hi, h i hi, List.getElem?_set]
    by_cases e : j = i
    · subst e
      rw [if_pos rfl, if_pos rfl, if_pos (by rw [r.len]; exact hi)]
    · rw [if_neg e, if_neg (Ne.symm e), r.get hi]
  · rw [List.getElem?_eq_none (by rw [List.length_set, r.len]; exact hi), List.getElem?_eq_none (by rw [r'.len]; exact hi)]
theorem set_pc (r : RunP) (n : Nat) : r.cells.set 0 (.int .i64 (n : Int)) = (r.wPc n).cells := r.set_of _ fun i hi => by
  unfold RunP.wPc
  unfold RunP.cell
  by_cases e : i = 0
  · subst e; rfl
  · have h1 : ¬ i < 1 := by omega
    rw [if_neg e]
    simp only [h1, if_false]
theorem set_reg (r : RunP) {d : Nat} (hd : d < 8) (v : UInt8) : r.cells.set (1 + d) (b8 v) = (r.wReg d v).cells := r.set_of _ fun i hi => by
  unfold RunP.wReg
  unfold RunP.cell
  by_cases e : i = 1 + d
  · subst e
    rw [if_pos rfl, if_neg (by omega), if_pos (by omega), show 1 + d - 1 = d by omega]
    show b8 (put r.regs d v d) = _
    unfold put; rw [if_pos rfl]
  · rw [if_neg e]
    by_cases h1 : i < 1
    · rw [if_pos h1, if_pos h1]
    · rw [if_neg h1, if_neg h1]
      by_cases h2 : i < 9
      · rw [if_pos h2, if_pos h2]
        show b8 (put r.regs d v (i - 1)) = _
        unfold put; rw [if_neg (by omega)]
      · rw [if_neg h2, if_neg h2]
theorem set_dep (r : RunP) {d : Nat} (hd : d < 8) (n : Nat) : r.cells.set (9 + d) (u32 n) = (r.wDep d n).cells := r.set_of _ fun i hi => by
  unfold RunP.wDep
  unfold RunP.cell
  by_cases e : i = 9 + d
  · subst e
    rw [if_pos rfl, if_neg (by omega), if_neg (by omega), if_pos (by omega), show 9 + d - 9 = d by omega]
    show u32 (putN r.deps d n d) = _
    unfold putN; rw [if_pos rfl]
  · rw [if_neg e]
    by_cases h1 : i < 9
    · by_cases h0 : i < 1
      · rw [if_pos h0, if_pos h0]
      · rw [if_neg h0, if_neg h0, if_pos h1, if_pos h1]
    · rw [if_neg (by omega), if_neg h1, if_neg (by omega : ¬ i < 1), if_neg h1]
      by_cases h2 : i < 17
      · rw [if_pos h2, if_pos h2]
        show u32 (putN r.deps d n (i - 9)) = _
        unfold putN; rw [if_neg (by omega)]
      · rw [if_neg h2, if_neg h2]
theorem set_control (r : RunP) (n : Nat) : r.cells.set 17 (u32 n) = (r.wControl n).cells := r.set_of _ fun i hi => by
  unfold RunP.wControl
  unfold RunP.cell
  by_cases e : i = 17
  · subst e; rfl
  · rw [if_neg e]
    by_cases h1 : i < 17
    · simp only [h1, if_true]
    · have h2 : ¬ i < 18 := by omega
      have h3 : ¬ i < 1 := by omega
      have h4 : ¬ i < 9 := by omega
      simp only [h1, h2, h3, h4, if_false]
theorem set_many (r : RunP) (n : Nat) : r.cells.set 18 (.int .i64 (n : Int)) = (r.wMany n).cells := r.set_of _ fun i hi => by
  unfold RunP.wMany
  unfold RunP.cell
  by_cases e : i = 18
  · subst e; rfl
  · rw [if_neg e]
    by_cases h1 : i < 18
    · simp only [h1, if_true]
    · have h2 : ¬ i < 19 := by omega
      have h3 : ¬ i < 1 := by omega
      have h4 : ¬ i < 9 := by omega
      have h5 : ¬ i < 17 := by omega
      simp only [h1, h2, h3, h4, h5, if_false]
theorem cell_hi (r : RunP) {i : Nat} (h : 19 ≤ i) : r.cell i = if i < 187 then (r.ev ((i - 19) / 7)).cell ((i - 19) % 7) else if i < 211 then u32 (r.data (i - 187)) else if i < 235 then u32 (r.ctrl (i - 211)) else u32 (r.att (i - 235)) := by
  unfold RunP.cell
  rw [if_neg (by omega), if_neg (by omega), if_neg (by omega), if_neg (by omega), if_neg (by omega)]
theorem cell_lo (r r' : RunP) (h1 : r'.pc = r.pc) (h2 : r'.regs = r.regs) (h3 : r'.deps = r.deps) (h4 : r'.control = r.control) (h5 : r'.many = r.many) {i : Nat} (h : i < 19) : r'.cell i = r.cell i := by
  unfold RunP.cell
  rw [h1, h2, h3, h4, h5]
  simp only [h, if_true]
theorem set_data (r : RunP) {k : Nat} (hk : k < 24) (n : Nat) : r.cells.set (187 + k) (u32 n) = (r.wData k n).cells := r.set_of _ fun i hi => by
  unfold RunP.wData
  rcases Nat.lt_or_ge i 19 with h | h
  · rw [if_neg (by omega)]; exact cell_lo r { r with data := putN r.data k n } rfl rfl rfl rfl rfl h
  · rw [cell_hi _ h, cell_hi _ h]
    by_cases e : i = 187 + k
    · subst e
      rw [if_pos rfl, if_neg (by omega), if_pos (by omega), show 187 + k - 187 = k by omega]
      show u32 (putN r.data k n k) = _
      unfold putN; rw [if_pos rfl]
    · rw [if_neg e]
      by_cases h1 : i < 187
      · rw [if_pos h1, if_pos h1]
      · rw [if_neg h1, if_neg h1]
        by_cases h2 : i < 211
        · rw [if_pos h2, if_pos h2]
          show u32 (putN r.data k n (i - 187)) = _
          unfold putN; rw [if_neg (by omega)]
        · rw [if_neg h2, if_neg h2]
theorem set_ctrl (r : RunP) {k : Nat} (hk : k < 24) (n : Nat) : r.cells.set (211 + k) (u32 n) = (r.wCtrl k n).cells := r.set_of _ fun i hi => by
  unfold RunP.wCtrl
  rcases Nat.lt_or_ge i 19 with h | h
  · rw [if_neg (by omega)]; exact cell_lo r { r with ctrl := putN r.ctrl k n } rfl rfl rfl rfl rfl h
  · rw [cell_hi _ h, cell_hi _ h]
    by_cases e : i = 211 + k
    · subst e
      rw [if_pos rfl, if_neg (by omega), if_neg (by omega), if_pos (by omega), show 211 + k - 211 = k by omega]
      show u32 (putN r.ctrl k n k) = _
      unfold putN; rw [if_pos rfl]
    · rw [if_neg e]
      by_cases h1 : i < 187
      · rw [if_pos h1, if_pos h1]
      · rw [if_neg h1, if_neg h1]
        by_cases h2 : i < 211
        · rw [if_pos h2, if_pos h2]
        · rw [if_neg h2, if_neg h2]
          by_cases h3 : i < 235
          · rw [if_pos h3, if_pos h3]
            show u32 (putN r.ctrl k n (i - 211)) = _
            unfold putN; rw [if_neg (by omega)]
          · rw [if_neg h3, if_neg h3]
theorem set_att (r : RunP) {k : Nat} (hk : k < 24) (n : Nat) : r.cells.set (235 + k) (u32 n) = (r.wAtt k n).cells := r.set_of _ fun i hi => by
  unfold RunP.wAtt
  rcases Nat.lt_or_ge i 19 with h | h
  · rw [if_neg (by omega)]; exact cell_lo r { r with att := putN r.att k n } rfl rfl rfl rfl rfl h
  · rw [cell_hi _ h, cell_hi _ h]
    by_cases e : i = 235 + k
    · subst e
      rw [if_pos rfl, if_neg (by omega), if_neg (by omega), if_neg (by omega), show 235 + k - 235 = k by omega]
      show u32 (putN r.att k n k) = _
      unfold putN; rw [if_pos rfl]
    · rw [if_neg e]
      by_cases h1 : i < 187
      · rw [if_pos h1, if_pos h1]
      · rw [if_neg h1, if_neg h1]
        by_cases h2 : i < 211
        · rw [if_pos h2, if_pos h2]
        · rw [if_neg h2, if_neg h2]
          by_cases h3 : i < 235
          · rw [if_pos h3, if_pos h3]
          · rw [if_neg h3, if_neg h3]
            show u32 (putN r.att k n (i - 235)) = _
            unfold putN; rw [if_neg (by omega)]
theorem Ev.cells_at (e : Ev) {i : Nat} (h : i < 7) : e.cells[i]? = some (e.cell i) := by
  match i, h with
  | 0, _ | 1, _ | 2, _ | 3, _ | 4, _ | 5, _ | 6, _ => rfl
theorem set_ev (r : RunP) {k : Nat} (hk : k < 24) (e : Ev) : splice r.cells (19 + k * 7) e.cells = (r.wEv k e).cells := by
  unfold RunP.wEv
  have hl : e.cells.length = 7 := rfl
  refine List.ext_getElem? fun i => ?_
  rcases Nat.lt_or_ge i 259 with hi | hi
  · have hL : 19 + k * 7 + e.cells.length ≤ r.cells.length := by rw [hl, r.len]; omega
    rw [RunP.get _ hi, splice_get _ _ _ _ hL, hl]
    rcases Nat.lt_or_ge i 19 with h | h
    · rw [if_neg (by omega), r.get hi]
      exact congrArg some (cell_lo r { r with ev := putN r.ev k e } rfl rfl rfl rfl rfl h).symm
    · by_cases hc : 19 + k * 7 ≤ i ∧ i < 19 + k * 7 + 7
      · rw [if_pos hc, e.cells_at (by omega), cell_hi _ h, if_pos (by omega)]
        show _ = some ((putN r.ev k e ((i - 19) / 7)).cell ((i - 19) % 7))
        rw [show (i - 19) / 7 = k by omega, show (i - 19) % 7 = i - (19 + k * 7) by omega]
        unfold putN; rw [if_pos rfl]
      · rw [if_neg hc, r.get hi, cell_hi _ h, cell_hi _ h]
        by_cases h1 : i < 187
        · rw [if_pos h1, if_pos h1]
          show _ = some ((putN r.ev k e ((i - 19) / 7)).cell ((i - 19) % 7))
          unfold putN; rw [if_neg (by omega)]
        · rw [if_neg h1, if_neg h1]
  · rw [List.getElem?_eq_none (by rw [splice_length, RunP.len]; exact hi), List.getElem?_eq_none (by rw [RunP.len]; exact hi)]
def argV (isR : Bool) (n : UInt8) (r : RunP) : UInt8 := if isR = true then r.regs n.toNat else n
def argD (isR : Bool) (n : UInt8) (r : RunP) : Nat := if isR = true then r.deps n.toNat else 0
def setP (d v : UInt8) (n : Nat) (r : RunP) : RunP := (r.wReg d.toNat v).wDep d.toNat n
def emitP (kind loc val mode : UInt8) (n : Nat) (r : RunP) : RunP :=
  (((r.wEv r.many ⟨kind, loc, val, mode, UInt8.ofNat r.pc, UInt8.ofNat r.many⟩).wData r.many n).wCtrl r.many r.control).wMany (r.many + 1)
def bitN (k : Nat) : Nat := 2 ^ k
def loadE (x : Ins) (v : UInt8) (r : RunP) : RunP := setP x.dst v (bitN r.many) (emitP 1 x.loc v x.mode 0 r)
def storeE (x : Ins) (r : RunP) : RunP := emitP 2 x.loc (argV x.aR x.aN r) x.mode (argD x.aR x.aN r) r
def movF (fn a b : UInt8) : UInt8 := if fn = 1 then a + b else if fn = 2 then a - b else a ^^^ b
def moveE' (x : Ins) (r : RunP) : RunP := setP x.dst (movF x.fn (argV x.aR x.aN r) (argV x.bR x.bN r)) (argD x.aR x.aN r ||| argD x.bR x.bN r) r
def exchE (x : Ins) (old val : UInt8) (n : Nat) (r : RunP) : RunP :=
  setP x.dst old (bitN r.many) ((emitP 2 x.loc val 3 n (emitP 1 x.loc old 3 0 r)).wAtt (r.many + 1) (bitN r.many))
def swapE (x : Ins) (v : UInt8) (r : RunP) : RunP := exchE x v (argV x.aR x.aN r) (argD x.aR x.aN r) r
def fetchE (x : Ins) (v : UInt8) (r : RunP) : RunP :=
  (exchE x v (v + argV x.aR x.aN r) (argD x.aR x.aN r) r).wData (r.many + 1) ((exchE x v (v + argV x.aR x.aN r) (argD x.aR x.aN r) r).data (r.many + 1) ||| (exchE x v (v + argV x.aR x.aN r) (argD x.aR x.aN r) r).att (r.many + 1))
def casE (x : Ins) (v : UInt8) (r : RunP) : RunP :=
  if v ≠ argV x.aR x.aN r then setP x.dst v (bitN r.many) (emitP 1 x.loc v 3 0 r)
  else (exchE x v (argV x.bR x.bN r) (argD x.bR x.bN r) r).wCtrl (r.many + 1) ((exchE x v (argV x.bR x.bN r) (argD x.bR x.bN r) r).ctrl (r.many + 1) ||| ((exchE x v (argV x.bR x.bN r) (argD x.bR x.bN r) r).att (r.many + 1) ||| argD x.aR x.aN r))
def fenceE (x : Ins) (r : RunP) : RunP := emitP 3 0 0 x.mode 0 r
def skpF (fn a b : UInt8) : Bool := if fn = 4 then a == b else if fn = 5 then a != b else decide (a < b)
def skipE (x : Ins) (r : RunP) : RunP :=
  if skpF x.fn (argV x.aR x.aN r) (argV x.bR x.bN r) = true then (r.wControl (r.control ||| (argD x.aR x.aN r ||| argD x.bR x.bN r))).wPc (r.pc + x.skip.toNat) else r.wControl (r.control ||| (argD x.aR x.aN r ||| argD x.bR x.bN r))
def effE (x : Ins) (v : UInt8) (r : RunP) : RunP :=
  if x.op = 1 then loadE x v r else if x.op = 2 then storeE x r else if x.op = 3 then moveE' x r else if x.op = 4 then swapE x v r else if x.op = 5 then fetchE x v r else if x.op = 6 then casE x v r else if x.op = 7 then fenceE x r else skipE x r
def execE (x : Ins) (v : UInt8) (r : RunP) : RunP := (effE x v r).wPc ((effE x v r).pc + 1)
end Go.Proofs.YtklpiodciblabaaGreatDoor
