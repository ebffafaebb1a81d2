/-
  Plain Lean: instructions, and when an instruction and a thread are valid. Nothing of the program. Conditions: none.
 
  Package check: argRight, has, needed, modeRight, fnRight. Conditions: the spot lies in memory; block 0 holds the table of needs.
 
  Package check: needed, modeRight, fnRight, conditions. Conditions: the spot lies in memory; block 0 holds the table of needs.
 
  Package check: the conditions of an instruction, as closures. Conditions: the spot lies in memory; block 0 holds the table of needs.
 
  Package check: Thread. Conditions: the slice holds instructions; block 0 holds the table of needs.
 
  Plain Lean: conditions and when one is valid; how one lies in memory. Conditions: none.
 
  Package check: condRight, Cond. Conditions: the condition lies in memory.
 
  slices.Index and slices.Contains of strings. Conditions: the slice holds the strings.
 
  Plain Lean: programs, and how one lies in memory. Conditions: none.
 
  Package check: the demands on a program that read no names. Conditions: the program lies in memory; block 0 holds the table of needs.
-/
import Derived.Test.YtmfdpnjgljlkbaaDoorVcK
set_option linter.unusedSimpArgs false
set_option linter.unusedVariables false
namespace Go.Proofs.YtmfdpnjgljlkbaaDoor

/-- An instruction's fields. -/
structure Ins where
  op : UInt8
  dst : UInt8
  loc : UInt8
  aR : Bool
  aN : UInt8
  bR : Bool
  bN : UInt8
  fn : UInt8
  mode : UInt8
  skip : UInt8
deriving DecidableEq
def Ins.cells (x : Ins) : List Value := [b8 x.op, b8 x.dst, b8 x.loc, .bool x.aR, b8 x.aN, .bool x.bR, b8 x.bN, b8 x.fn, b8 x.mode, b8 x.skip]
/-- The bits of the fields that an operation needs. -/
def needOf (op : UInt8) : UInt8 := if op = 1 then 35 else if op = 2 then 38 else if op = 3 then 29 else if op = 4 then 7 else if op = 5 then 7 else if op = 6 then 15 else if op = 7 then 32 else if op = 8 then 92 else 0
def hasB (op f : UInt8) : Bool := (needOf op &&& f) != 0
def Ins.needed (x : Ins) : Ins where
  op := x.op
  dst := bif hasB x.op 1 then x.dst else 0
  loc := bif hasB x.op 2 then x.loc else 0
  aR := bif hasB x.op 4 then x.aR else false
  aN := bif hasB x.op 4 then x.aN else 0
  bR := bif hasB x.op 8 then x.bR else false
  bN := bif hasB x.op 8 then x.bN else 0
  fn := bif hasB x.op 16 then x.fn else 0
  mode := bif hasB x.op 32 then x.mode else 0
  skip := bif hasB x.op 64 then x.skip else 0
def argOk (r : Bool) (n : UInt8) : Bool := !r || decide (n < 8)
def modeOk (op mode : UInt8) : Bool := if op = 1 then mode == 0 || mode == 1 else if op = 2 then mode == 0 || mode == 2 else if op = 7 then mode == 3 || mode == 4 || mode == 5 else true
def fnOk (op fn : UInt8) : Bool := if op = 3 then fn == 1 || fn == 2 || fn == 3 else if op = 8 then fn == 4 || fn == 5 || fn == 6 else true
/-- The k-th condition of an instruction's validity. -/
def condK (x : Ins) (locs after : Int) : Nat → Bool
  | 0 => decide (1 ≤ x.op) && decide (x.op ≤ 8)
  | 1 => x == x.needed
  | 2 => decide (x.dst < 8)
  | 3 => !hasB x.op 2 || decide ((x.loc.toNat : Int) < locs)
  | 4 => argOk x.aR x.aN && argOk x.bR x.bN
  | 5 => modeOk x.op x.mode
  | 6 => fnOk x.op x.fn
  | 7 => !hasB x.op 64 || (decide (1 ≤ x.skip) && decide ((x.skip.toNat : Int) ≤ after))
  | _ => true
def insOk (x : Ins) (locs after : Int) : Bool := (List.range 8).all (condK x locs after)
/-- A thread's instructions, from number i of n on. -/
def insesOk (locs : Int) (n : Nat) : Nat → List Ins → Bool
  | _, [] => true
  | i, x :: r => insOk x locs ((n : Int) - 1 - i) && insesOk locs n (i + 1) r
def threadOk (locs : Int) (l : List Ins) : Bool := decide (l.length ≤ 12) && insesOk locs l.length 0 l
end Go.Proofs.YtmfdpnjgljlkbaaDoor

namespace Go.Proofs.YtmfdpnjgljlkbaaDoor
open Go.RowKit

theorem retB {a b : Bool} (h : a = b) : (Ending.returned (.bool a) : Ending) = .returned (.bool b) := by rw [h]
/-- The spot. -/
def SpotAt (w : World) (B : Nat) (x : Ins) (locs after : Int) : Prop := w.rangeAt B 0 (x.cells ++ [.int .i64 locs, .int .i64 after])
/-- The table of needs, in the block of its variable. -/
def NeedsAt (w : World) : Prop := ∀ i : UInt8, i < 9 → w.cell? ⟨0, i.toNat, none⟩ = some (b8 (needOf i))
theorem NeedsAt.at {w : World} (h : NeedsAt w) (op : UInt8) (ho : op < 9) : w.cell? ⟨0, 0 + op.toNat * 1, none⟩ = some (b8 (needOf op)) := by
  rw [Nat.zero_add, Nat.mul_one]; exact h op ho

theorem argRight_any (r : Bool) (n : UInt8) (w0 : World) : Calls Tryd.prog 60 #[.agg #[.bool r, b8 n]] w0 fun e w' => e = .returned (.bool (argOk r n)) ∧ Below w0.heap.size w0 w' := by
  have H := Own.start w0 none
  refine enterF Tryd.func60 rfl Tryd.ntmps60 rfl (fun a F => ?_)
  refine cSeq (fun K1 hK1 => ?_)
  refine cReg ?_
  refine sBx H F rfl rfl rfl ?_
  clear F a H; intro b1 a w F H
  refine sAs F rfl rfl rfl ?_;clear F a;intro a F
  refine sNil ?_
  refine hK1 _ _ ?_; clear hK1
  refine cSeq (fun K2 hK2 => ?_)
  refine cReg ?_
  refine sFa (f := 0) (k := 0) Tryd.underlying48 rfl Tryd.sizeOf4 rfl rfl F rfl rfl rfl ?_;clear F a;intro a F
  refine sLd Tryd.isAgg4 F rfl rfl rfl (H.cell 0 rfl rfl) ?_;clear F a;intro a F
  refine sNot F rfl rfl rfl ?_;clear F a;intro a F
  refine sMv F rfl rfl rfl ?_;clear F a;intro a F
  refine F.split 6 rfl ?_ ?_ <;> (clear F; intro h6 F)
  ·
   replace h6 := notT h6
   refine sSk F rfl rfl ?_;clear F a;intro a F
   refine sSk F rfl rfl ?_;clear F a;intro a F
   refine sSk F rfl rfl ?_;clear F a;intro a F
   refine sPk F rfl rfl rfl rfl ?_;clear F a;intro a F
   refine sAs F rfl rfl rfl ?_;clear F a;intro a F
   refine sNil ?_
   refine hK2 _ _ ?_; clear hK2
   refine wp_ret ?_
   refine bRet Tryd.results60 F rfl ?_
   exact ⟨retB (by simp_all [argOk]), H.below⟩
  replace h6 := notF h6
  refine sFa (f := 1) (k := 1) Tryd.underlying48 rfl Tryd.sizeOf5 rfl rfl F rfl rfl rfl ?_;clear F a;intro a F
  refine sLd Tryd.isAgg5 F rfl rfl rfl (H.cell 0 rfl rfl) ?_;clear F a;intro a F
  refine sBin F rfl rfl rfl rfl (bLssB (y := 8)) ?_;clear F a;intro a F
  refine sPk F rfl rfl rfl rfl ?_;clear F a;intro a F
  refine sAs F rfl rfl rfl ?_;clear F a;intro a F
  refine sNil ?_
  refine hK2 _ _ ?_; clear hK2
  refine wp_ret ?_
  refine bRet Tryd.results60 F rfl ?_
  exact ⟨retB (by simp_all [argOk]), H.below⟩

theorem has_any (B : Nat) (x : Ins) (locs after : Int) (f : UInt8) (w0 : World) (hS : SpotAt w0 B x locs after) (hN : NeedsAt w0) (ho : x.op < 9) :
    Calls Tryd.prog 58 #[.pointer (some ⟨B, 0, none⟩), b8 f] w0 fun e w' => e = .returned (.bool (hasB x.op f)) ∧ Below w0.heap.size w0 w' := by
  have H := Own.start w0 none
  have hop : x.op.toNat < 9 := ho
  refine enterF Tryd.func58 rfl Tryd.ntmps58 rfl (fun a F => ?_)
  refine cSeq (fun K1 hK1 => ?_)
  refine cReg ?_
  refine sAs F rfl rfl rfl ?_;clear F a;intro a F
  refine sNil ?_
  refine hK1 _ _ ?_; clear hK1
  refine cSeq (fun K2 hK2 => ?_)
  refine cReg ?_
  refine sMv F rfl rfl rfl ?_;clear F a;intro a F
  refine sNc F rfl rfl rfl ?_;clear F a;intro a F
  refine sFa (f := 0) (k := 0) Tryd.underlying72 rfl Tryd.sizeOf50 rfl rfl F rfl rfl rfl ?_;clear F a;intro a F
  refine sFa (f := 0) (k := 0) Tryd.underlying50 rfl Tryd.sizeOf5 rfl rfl F rfl rfl rfl ?_;clear F a;intro a F
  refine sLd Tryd.isAgg5 F rfl rfl rfl (H.arg (hS 0 _ rfl)) ?_;clear F a;intro a F
  refine sIa Tryd.underlying95 Tryd.sizeOf5 F rfl rfl rfl rfl ?_ ?_
  focus exact hop
  clear F a; intro a F
  refine sLd Tryd.isAgg5 F rfl rfl rfl (H.arg (hN.at _ ho)) ?_;clear F a;intro a F
  refine sMv F rfl rfl rfl ?_;clear F a;intro a F
  refine sBin F rfl rfl rfl rfl (bAndB) ?_;clear F a;intro a F
  refine sBin F rfl rfl rfl rfl (bNeqB (y := 0)) ?_;clear F a;intro a F
  refine sAs F rfl rfl rfl ?_;clear F a;intro a F
  refine sNil ?_
  refine hK2 _ _ ?_; clear hK2
  refine wp_ret ?_
  refine bRet Tryd.results58 F rfl ?_
  exact ⟨rfl, H.below⟩
end Go.Proofs.YtmfdpnjgljlkbaaDoor

namespace Go.Proofs.YtmfdpnjgljlkbaaDoor
open Go.RowKit

/-- Two instructions against each other. -/
theorem bInsEq {t : TypeId} {x' y' : Operand} {x y : Ins} (ht : t = 50) : BinR Tryd.prog .eql t x' y' (.agg x.cells.toArray) (.agg y.cells.toArray) (.bool (x == y)) := fun w => by
  subst ht
  simp [Ins.cells, go_sem, Tryd.underlying50]
  obtain ⟨x0, x1, x2, x3, x4, x5, x6, x7, x8, x9⟩ := x
  obtain ⟨y0, y1, y2, y3, y4, y5, y6, y7, y8, y9⟩ := y
  simp only [Int.natCast_inj, UInt8.toNat_inj]
  repeat' split
  all_goals
    congr 2
    symm
    simp_all [beq_eq_false_iff_ne]
set_option maxRecDepth 10000 in
theorem modeRight_any (B : Nat) (x : Ins) (locs after : Int) (w0 : World) (hS : SpotAt w0 B x locs after) : Calls Tryd.prog 61 #[.pointer (some ⟨B, 0, none⟩)] w0 fun e w' => e = .returned (.bool (modeOk x.op x.mode)) ∧ Below w0.heap.size w0 w' := by
  have H := Own.start w0 none
  refine enterF Tryd.func61 rfl Tryd.ntmps61 rfl (fun a F => ?_)
  refine cSeq (fun K1 hK1 => ?_)
  refine cReg ?_
  refine sAs F rfl rfl rfl ?_;clear F a;intro a F
  refine sNil ?_
  refine hK1 _ _ ?_; clear hK1
  refine cSeq (fun K2 hK2 => ?_)
  refine cSeq (fun K3 hK3 => ?_)
  refine cReg ?_
  refine sMv F rfl rfl rfl ?_;clear F a;intro a F
  refine sNc F rfl rfl rfl ?_;clear F a;intro a F
  refine sFa (f := 0) (k := 0) Tryd.underlying72 rfl Tryd.sizeOf50 rfl rfl F rfl rfl rfl ?_;clear F a;intro a F
  refine sFa (f := 0) (k := 0) Tryd.underlying50 rfl Tryd.sizeOf5 rfl rfl F rfl rfl rfl ?_;clear F a;intro a F
  refine sLd Tryd.isAgg5 F rfl rfl rfl (H.arg (hS 0 _ rfl)) ?_;clear F a;intro a F
  refine sNil ?_
  refine hK3 _ _ ?_; clear hK3
  refine wp_block ?_
  refine cSeq (fun K4 hK4 => ?_)
  refine cReg ?_
  refine sBin F rfl rfl rfl rfl (bEqlB (y := 1)) ?_;clear F a;intro a F
  refine sAs F rfl rfl rfl ?_;clear F a;intro a F
  refine sNil ?_
  refine hK4 _ _ ?_; clear hK4
  refine cIf F rfl (fun h8 => ?_) (fun h8 => ?_)
  ·
   replace h8 := beqT h8
   refine cSeq (fun K5 hK5 => ?_)
   refine cReg ?_
   refine sMv F rfl rfl rfl ?_;clear F a;intro a F
   refine sNc F rfl rfl rfl ?_;clear F a;intro a F
   refine sFa (f := 0) (k := 0) Tryd.underlying72 rfl Tryd.sizeOf50 rfl rfl F rfl rfl rfl ?_;clear F a;intro a F
   refine sFa (f := 6) (k := 8) Tryd.underlying50 rfl Tryd.sizeOf5 rfl rfl F rfl rfl rfl ?_;clear F a;intro a F
   refine sLd Tryd.isAgg5 F rfl rfl rfl (H.arg (hS 8 _ rfl)) ?_;clear F a;intro a F
   refine sBin F rfl rfl rfl rfl (bEqlB (y := 0)) ?_;clear F a;intro a F
   refine sMv F rfl rfl rfl ?_;clear F a;intro a F
   refine F.split 16 rfl ?_ ?_ <;> (clear F; intro h16 F)
   ·
    replace h16 := beqT h16
    refine sSk F rfl rfl ?_;clear F a;intro a F
    refine sSk F rfl rfl ?_;clear F a;intro a F
    refine sSk F rfl rfl ?_;clear F a;intro a F
    refine sSk F rfl rfl ?_;clear F a;intro a F
    refine sSk F rfl rfl ?_;clear F a;intro a F
    refine sSk F rfl rfl ?_;clear F a;intro a F
    refine sPk F rfl rfl rfl rfl ?_;clear F a;intro a F
    refine sAs F rfl rfl rfl ?_;clear F a;intro a F
    refine sNil ?_
    refine hK5 _ _ ?_; clear hK5
    refine wp_ret ?_
    simp only [Exit.inBlock, Exit.then]
    refine bRet Tryd.results61 F rfl ?_
    exact ⟨retB (by simp_all [modeOk]), H.below⟩
   replace h16 := beqF h16
   refine sMv F rfl rfl rfl ?_;clear F a;intro a F
   refine sNc F rfl rfl rfl ?_;clear F a;intro a F
   refine sFa (f := 0) (k := 0) Tryd.underlying72 rfl Tryd.sizeOf50 rfl rfl F rfl rfl rfl ?_;clear F a;intro a F
   refine sFa (f := 6) (k := 8) Tryd.underlying50 rfl Tryd.sizeOf5 rfl rfl F rfl rfl rfl ?_;clear F a;intro a F
   refine sLd Tryd.isAgg5 F rfl rfl rfl (H.arg (hS 8 _ rfl)) ?_;clear F a;intro a F
   refine sBin F rfl rfl rfl rfl (bEqlB (y := 1)) ?_;clear F a;intro a F
   refine sPk F rfl rfl rfl rfl ?_;clear F a;intro a F
   refine sAs F rfl rfl rfl ?_;clear F a;intro a F
   refine sNil ?_
   refine hK5 _ _ ?_; clear hK5
   refine wp_ret ?_
   simp only [Exit.inBlock, Exit.then]
   refine bRet Tryd.results61 F rfl ?_
   exact ⟨retB (by simp_all [modeOk]), H.below⟩
  replace h8 := beqF h8
  refine cSeq (fun K6 hK6 => ?_)
  refine cReg ?_
  refine sBin F rfl rfl rfl rfl (bEqlB (y := 2)) ?_;clear F a;intro a F
  refine sAs F rfl rfl rfl ?_;clear F a;intro a F
  refine sNil ?_
  refine hK6 _ _ ?_; clear hK6
  refine cIf F rfl (fun h24 => ?_) (fun h24 => ?_)
  ·
   replace h24 := beqT h24
   refine cSeq (fun K7 hK7 => ?_)
   refine cReg ?_
   refine sMv F rfl rfl rfl ?_;clear F a;intro a F
   refine sNc F rfl rfl rfl ?_;clear F a;intro a F
   refine sFa (f := 0) (k := 0) Tryd.underlying72 rfl Tryd.sizeOf50 rfl rfl F rfl rfl rfl ?_;clear F a;intro a F
   refine sFa (f := 6) (k := 8) Tryd.underlying50 rfl Tryd.sizeOf5 rfl rfl F rfl rfl rfl ?_;clear F a;intro a F
   refine sLd Tryd.isAgg5 F rfl rfl rfl (H.arg (hS 8 _ rfl)) ?_;clear F a;intro a F
   refine sBin F rfl rfl rfl rfl (bEqlB (y := 0)) ?_;clear F a;intro a F
   refine sMv F rfl rfl rfl ?_;clear F a;intro a F
   refine F.split 32 rfl ?_ ?_ <;> (clear F; intro h32 F)
   ·
    replace h32 := beqT h32
    refine sSk F rfl rfl ?_;clear F a;intro a F
    refine sSk F rfl rfl ?_;clear F a;intro a F
    refine sSk F rfl rfl ?_;clear F a;intro a F
    refine sSk F rfl rfl ?_;clear F a;intro a F
    refine sSk F rfl rfl ?_;clear F a;intro a F
    refine sSk F rfl rfl ?_;clear F a;intro a F
    refine sPk F rfl rfl rfl rfl ?_;clear F a;intro a F
    refine sAs F rfl rfl rfl ?_;clear F a;intro a F
    refine sNil ?_
    refine hK7 _ _ ?_; clear hK7
    refine wp_ret ?_
    simp only [Exit.inBlock, Exit.then]
    refine bRet Tryd.results61 F rfl ?_
    exact ⟨retB (by simp_all [modeOk]), H.below⟩
   replace h32 := beqF h32
   refine sMv F rfl rfl rfl ?_;clear F a;intro a F
   refine sNc F rfl rfl rfl ?_;clear F a;intro a F
   refine sFa (f := 0) (k := 0) Tryd.underlying72 rfl Tryd.sizeOf50 rfl rfl F rfl rfl rfl ?_;clear F a;intro a F
   refine sFa (f := 6) (k := 8) Tryd.underlying50 rfl Tryd.sizeOf5 rfl rfl F rfl rfl rfl ?_;clear F a;intro a F
   refine sLd Tryd.isAgg5 F rfl rfl rfl (H.arg (hS 8 _ rfl)) ?_;clear F a;intro a F
   refine sBin F rfl rfl rfl rfl (bEqlB (y := 2)) ?_;clear F a;intro a F
   refine sPk F rfl rfl rfl rfl ?_;clear F a;intro a F
   refine sAs F rfl rfl rfl ?_;clear F a;intro a F
   refine sNil ?_
   refine hK7 _ _ ?_; clear hK7
   refine wp_ret ?_
   simp only [Exit.inBlock, Exit.then]
   refine bRet Tryd.results61 F rfl ?_
   exact ⟨retB (by simp_all [modeOk]), H.below⟩
  replace h24 := beqF h24
  refine cSeq (fun K8 hK8 => ?_)
  refine cReg ?_
  refine sBin F rfl rfl rfl rfl (bEqlB (y := 7)) ?_;clear F a;intro a F
  refine sAs F rfl rfl rfl ?_;clear F a;intro a F
  refine sNil ?_
  refine hK8 _ _ ?_; clear hK8
  refine cIf F rfl (fun h40 => ?_) (fun h40 => ?_)
  ·
   replace h40 := beqT h40
   refine cSeq (fun K9 hK9 => ?_)
   refine cReg ?_
   refine sMv F rfl rfl rfl ?_;clear F a;intro a F
   refine sNc F rfl rfl rfl ?_;clear F a;intro a F
   refine sFa (f := 0) (k := 0) Tryd.underlying72 rfl Tryd.sizeOf50 rfl rfl F rfl rfl rfl ?_;clear F a;intro a F
   refine sFa (f := 6) (k := 8) Tryd.underlying50 rfl Tryd.sizeOf5 rfl rfl F rfl rfl rfl ?_;clear F a;intro a F
   refine sLd Tryd.isAgg5 F rfl rfl rfl (H.arg (hS 8 _ rfl)) ?_;clear F a;intro a F
   refine sBin F rfl rfl rfl rfl (bEqlB (y := 3)) ?_;clear F a;intro a F
   refine sMv F rfl rfl rfl ?_;clear F a;intro a F
   refine F.split 48 rfl ?_ ?_ <;> (clear F; intro h48 F)
   ·
    replace h48 := beqT h48
    refine sSk F rfl rfl ?_;clear F a;intro a F
    refine sSk F rfl rfl ?_;clear F a;intro a F
    refine sSk F rfl rfl ?_;clear F a;intro a F
    refine sSk F rfl rfl ?_;clear F a;intro a F
    refine sSk F rfl rfl ?_;clear F a;intro a F
    refine sSk F rfl rfl ?_;clear F a;intro a F
    refine sPk F rfl rfl rfl rfl ?_;clear F a;intro a F
    refine sMv F rfl rfl rfl ?_;clear F a;intro a F
    refine sSk F rfl rfl ?_;clear F a;intro a F
    refine sSk F rfl rfl ?_;clear F a;intro a F
    refine sSk F rfl rfl ?_;clear F a;intro a F
    refine sSk F rfl rfl ?_;clear F a;intro a F
    refine sSk F rfl rfl ?_;clear F a;intro a F
    refine sSk F rfl rfl ?_;clear F a;intro a F
    refine sPk F rfl rfl rfl rfl ?_;clear F a;intro a F
    refine sAs F rfl rfl rfl ?_;clear F a;intro a F
    refine sNil ?_
    refine hK9 _ _ ?_; clear hK9
    refine wp_ret ?_
    simp only [Exit.inBlock, Exit.then]
    refine bRet Tryd.results61 F rfl ?_
    exact ⟨retB (by simp_all [modeOk]), H.below⟩
   replace h48 := beqF h48
   refine sMv F rfl rfl rfl ?_;clear F a;intro a F
   refine sNc F rfl rfl rfl ?_;clear F a;intro a F
   refine sFa (f := 0) (k := 0) Tryd.underlying72 rfl Tryd.sizeOf50 rfl rfl F rfl rfl rfl ?_;clear F a;intro a F
   refine sFa (f := 6) (k := 8) Tryd.underlying50 rfl Tryd.sizeOf5 rfl rfl F rfl rfl rfl ?_;clear F a;intro a F
   refine sLd Tryd.isAgg5 F rfl rfl rfl (H.arg (hS 8 _ rfl)) ?_;clear F a;intro a F
   refine sBin F rfl rfl rfl rfl (bEqlB (y := 4)) ?_;clear F a;intro a F
   refine sPk F rfl rfl rfl rfl ?_;clear F a;intro a F
   refine sMv F rfl rfl rfl ?_;clear F a;intro a F
   refine F.split 56 rfl ?_ ?_ <;> (clear F; intro h56 F)
   ·
    replace h56 := beqT h56
    refine sSk F rfl rfl ?_;clear F a;intro a F
    refine sSk F rfl rfl ?_;clear F a;intro a F
    refine sSk F rfl rfl ?_;clear F a;intro a F
    refine sSk F rfl rfl ?_;clear F a;intro a F
    refine sSk F rfl rfl ?_;clear F a;intro a F
    refine sSk F rfl rfl ?_;clear F a;intro a F
    refine sPk F rfl rfl rfl rfl ?_;clear F a;intro a F
    refine sAs F rfl rfl rfl ?_;clear F a;intro a F
    refine sNil ?_
    refine hK9 _ _ ?_; clear hK9
    refine wp_ret ?_
    simp only [Exit.inBlock, Exit.then]
    refine bRet Tryd.results61 F rfl ?_
    exact ⟨retB (by simp_all [modeOk]), H.below⟩
   replace h56 := beqF h56
   refine sMv F rfl rfl rfl ?_;clear F a;intro a F
   refine sNc F rfl rfl rfl ?_;clear F a;intro a F
   refine sFa (f := 0) (k := 0) Tryd.underlying72 rfl Tryd.sizeOf50 rfl rfl F rfl rfl rfl ?_;clear F a;intro a F
   refine sFa (f := 6) (k := 8) Tryd.underlying50 rfl Tryd.sizeOf5 rfl rfl F rfl rfl rfl ?_;clear F a;intro a F
   refine sLd Tryd.isAgg5 F rfl rfl rfl (H.arg (hS 8 _ rfl)) ?_;clear F a;intro a F
   refine sBin F rfl rfl rfl rfl (bEqlB (y := 5)) ?_;clear F a;intro a F
   refine sPk F rfl rfl rfl rfl ?_;clear F a;intro a F
   refine sAs F rfl rfl rfl ?_;clear F a;intro a F
   refine sNil ?_
   refine hK9 _ _ ?_; clear hK9
   refine wp_ret ?_
   simp only [Exit.inBlock, Exit.then]
   refine bRet Tryd.results61 F rfl ?_
   exact ⟨retB (by simp_all [modeOk]), H.below⟩
  replace h40 := beqF h40
  refine wp_skip ?_
  refine hK2 _ _ ?_; clear hK2
  refine cSeq (fun K10 hK10 => ?_)
  refine cReg ?_
  refine sAs F rfl rfl rfl ?_;clear F a;intro a F
  refine sNil ?_
  refine hK10 _ _ ?_; clear hK10
  refine wp_ret ?_
  refine bRet Tryd.results61 F rfl ?_
  exact ⟨retB (by simp_all [modeOk]), H.below⟩
theorem fnRight_any (B : Nat) (x : Ins) (locs after : Int) (w0 : World) (hS : SpotAt w0 B x locs after) : Calls Tryd.prog 62 #[.pointer (some ⟨B, 0, none⟩)] w0 fun e w' => e = .returned (.bool (fnOk x.op x.fn)) ∧ Below w0.heap.size w0 w' := by
  have H := Own.start w0 none
  refine enterF Tryd.func62 rfl Tryd.ntmps62 rfl (fun a F => ?_)
  refine cSeq (fun K1 hK1 => ?_)
  refine cReg ?_
  refine sAs F rfl rfl rfl ?_;clear F a;intro a F
  refine sNil ?_
  refine hK1 _ _ ?_; clear hK1
  refine cSeq (fun K2 hK2 => ?_)
  refine cSeq (fun K3 hK3 => ?_)
  refine cReg ?_
  refine sMv F rfl rfl rfl ?_;clear F a;intro a F
  refine sNc F rfl rfl rfl ?_;clear F a;intro a F
  refine sFa (f := 0) (k := 0) Tryd.underlying72 rfl Tryd.sizeOf50 rfl rfl F rfl rfl rfl ?_;clear F a;intro a F
  refine sFa (f := 0) (k := 0) Tryd.underlying50 rfl Tryd.sizeOf5 rfl rfl F rfl rfl rfl ?_;clear F a;intro a F
  refine sLd Tryd.isAgg5 F rfl rfl rfl (H.arg (hS 0 _ rfl)) ?_;clear F a;intro a F
  refine sNil ?_
  refine hK3 _ _ ?_; clear hK3
  refine wp_block ?_
  refine cSeq (fun K4 hK4 => ?_)
  refine cReg ?_
  refine sBin F rfl rfl rfl rfl (bEqlB (y := 3)) ?_;clear F a;intro a F
  refine sAs F rfl rfl rfl ?_;clear F a;intro a F
  refine sNil ?_
  refine hK4 _ _ ?_; clear hK4
  refine cIf F rfl (fun h8 => ?_) (fun h8 => ?_)
  ·
   replace h8 := beqT h8
   refine cSeq (fun K5 hK5 => ?_)
   refine cReg ?_
   refine sMv F rfl rfl rfl ?_;clear F a;intro a F
   refine sNc F rfl rfl rfl ?_;clear F a;intro a F
   refine sFa (f := 0) (k := 0) Tryd.underlying72 rfl Tryd.sizeOf50 rfl rfl F rfl rfl rfl ?_;clear F a;intro a F
   refine sFa (f := 5) (k := 7) Tryd.underlying50 rfl Tryd.sizeOf5 rfl rfl F rfl rfl rfl ?_;clear F a;intro a F
   refine sLd Tryd.isAgg5 F rfl rfl rfl (H.arg (hS 7 _ rfl)) ?_;clear F a;intro a F
   refine sBin F rfl rfl rfl rfl (bEqlB (y := 1)) ?_;clear F a;intro a F
   refine sMv F rfl rfl rfl ?_;clear F a;intro a F
   refine F.split 16 rfl ?_ ?_ <;> (clear F; intro h16 F)
   ·
    replace h16 := beqT h16
    refine sSk F rfl rfl ?_;clear F a;intro a F
    refine sSk F rfl rfl ?_;clear F a;intro a F
    refine sSk F rfl rfl ?_;clear F a;intro a F
    refine sSk F rfl rfl ?_;clear F a;intro a F
    refine sSk F rfl rfl ?_;clear F a;intro a F
    refine sSk F rfl rfl ?_;clear F a;intro a F
    refine sPk F rfl rfl rfl rfl ?_;clear F a;intro a F
    refine sMv F rfl rfl rfl ?_;clear F a;intro a F
    refine sSk F rfl rfl ?_;clear F a;intro a F
    refine sSk F rfl rfl ?_;clear F a;intro a F
    refine sSk F rfl rfl ?_;clear F a;intro a F
    refine sSk F rfl rfl ?_;clear F a;intro a F
    refine sSk F rfl rfl ?_;clear F a;intro a F
    refine sSk F rfl rfl ?_;clear F a;intro a F
    refine sPk F rfl rfl rfl rfl ?_;clear F a;intro a F
    refine sAs F rfl rfl rfl ?_;clear F a;intro a F
    refine sNil ?_
    refine hK5 _ _ ?_; clear hK5
    refine wp_ret ?_
    simp only [Exit.inBlock, Exit.then]
    refine bRet Tryd.results62 F rfl ?_
    exact ⟨retB (by simp_all [fnOk]), H.below⟩
   replace h16 := beqF h16
   refine sMv F rfl rfl rfl ?_;clear F a;intro a F
   refine sNc F rfl rfl rfl ?_;clear F a;intro a F
   refine sFa (f := 0) (k := 0) Tryd.underlying72 rfl Tryd.sizeOf50 rfl rfl F rfl rfl rfl ?_;clear F a;intro a F
   refine sFa (f := 5) (k := 7) Tryd.underlying50 rfl Tryd.sizeOf5 rfl rfl F rfl rfl rfl ?_;clear F a;intro a F
   refine sLd Tryd.isAgg5 F rfl rfl rfl (H.arg (hS 7 _ rfl)) ?_;clear F a;intro a F
   refine sBin F rfl rfl rfl rfl (bEqlB (y := 2)) ?_;clear F a;intro a F
   refine sPk F rfl rfl rfl rfl ?_;clear F a;intro a F
   refine sMv F rfl rfl rfl ?_;clear F a;intro a F
   refine F.split 24 rfl ?_ ?_ <;> (clear F; intro h24 F)
   ·
    replace h24 := beqT h24
    refine sSk F rfl rfl ?_;clear F a;intro a F
    refine sSk F rfl rfl ?_;clear F a;intro a F
    refine sSk F rfl rfl ?_;clear F a;intro a F
    refine sSk F rfl rfl ?_;clear F a;intro a F
    refine sSk F rfl rfl ?_;clear F a;intro a F
    refine sSk F rfl rfl ?_;clear F a;intro a F
    refine sPk F rfl rfl rfl rfl ?_;clear F a;intro a F
    refine sAs F rfl rfl rfl ?_;clear F a;intro a F
    refine sNil ?_
    refine hK5 _ _ ?_; clear hK5
    refine wp_ret ?_
    simp only [Exit.inBlock, Exit.then]
    refine bRet Tryd.results62 F rfl ?_
    exact ⟨retB (by simp_all [fnOk]), H.below⟩
   replace h24 := beqF h24
   refine sMv F rfl rfl rfl ?_;clear F a;intro a F
   refine sNc F rfl rfl rfl ?_;clear F a;intro a F
   refine sFa (f := 0) (k := 0) Tryd.underlying72 rfl Tryd.sizeOf50 rfl rfl F rfl rfl rfl ?_;clear F a;intro a F
   refine sFa (f := 5) (k := 7) Tryd.underlying50 rfl Tryd.sizeOf5 rfl rfl F rfl rfl rfl ?_;clear F a;intro a F
   refine sLd Tryd.isAgg5 F rfl rfl rfl (H.arg (hS 7 _ rfl)) ?_;clear F a;intro a F
   refine sBin F rfl rfl rfl rfl (bEqlB (y := 3)) ?_;clear F a;intro a F
   refine sPk F rfl rfl rfl rfl ?_;clear F a;intro a F
   refine sAs F rfl rfl rfl ?_;clear F a;intro a F
   refine sNil ?_
   refine hK5 _ _ ?_; clear hK5
   refine wp_ret ?_
   simp only [Exit.inBlock, Exit.then]
   refine bRet Tryd.results62 F rfl ?_
   exact ⟨retB (by simp_all [fnOk]), H.below⟩
  replace h8 := beqF h8
  refine cSeq (fun K6 hK6 => ?_)
  refine cReg ?_
  refine sBin F rfl rfl rfl rfl (bEqlB (y := 8)) ?_;clear F a;intro a F
  refine sAs F rfl rfl rfl ?_;clear F a;intro a F
  refine sNil ?_
  refine hK6 _ _ ?_; clear hK6
  refine cIf F rfl (fun h32 => ?_) (fun h32 => ?_)
  ·
   replace h32 := beqT h32
   refine cSeq (fun K7 hK7 => ?_)
   refine cReg ?_
   refine sMv F rfl rfl rfl ?_;clear F a;intro a F
   refine sNc F rfl rfl rfl ?_;clear F a;intro a F
   refine sFa (f := 0) (k := 0) Tryd.underlying72 rfl Tryd.sizeOf50 rfl rfl F rfl rfl rfl ?_;clear F a;intro a F
   refine sFa (f := 5) (k := 7) Tryd.underlying50 rfl Tryd.sizeOf5 rfl rfl F rfl rfl rfl ?_;clear F a;intro a F
   refine sLd Tryd.isAgg5 F rfl rfl rfl (H.arg (hS 7 _ rfl)) ?_;clear F a;intro a F
   refine sBin F rfl rfl rfl rfl (bEqlB (y := 4)) ?_;clear F a;intro a F
   refine sMv F rfl rfl rfl ?_;clear F a;intro a F
   refine F.split 40 rfl ?_ ?_ <;> (clear F; intro h40 F)
   ·
    replace h40 := beqT h40
    refine sSk F rfl rfl ?_;clear F a;intro a F
    refine sSk F rfl rfl ?_;clear F a;intro a F
    refine sSk F rfl rfl ?_;clear F a;intro a F
    refine sSk F rfl rfl ?_;clear F a;intro a F
    refine sSk F rfl rfl ?_;clear F a;intro a F
    refine sSk F rfl rfl ?_;clear F a;intro a F
    refine sPk F rfl rfl rfl rfl ?_;clear F a;intro a F
    refine sMv F rfl rfl rfl ?_;clear F a;intro a F
    refine sSk F rfl rfl ?_;clear F a;intro a F
    refine sSk F rfl rfl ?_;clear F a;intro a F
    refine sSk F rfl rfl ?_;clear F a;intro a F
    refine sSk F rfl rfl ?_;clear F a;intro a F
    refine sSk F rfl rfl ?_;clear F a;intro a F
    refine sSk F rfl rfl ?_;clear F a;intro a F
    refine sPk F rfl rfl rfl rfl ?_;clear F a;intro a F
    refine sAs F rfl rfl rfl ?_;clear F a;intro a F
    refine sNil ?_
    refine hK7 _ _ ?_; clear hK7
    refine wp_ret ?_
    simp only [Exit.inBlock, Exit.then]
    refine bRet Tryd.results62 F rfl ?_
    exact ⟨retB (by simp_all [fnOk]), H.below⟩
   replace h40 := beqF h40
   refine sMv F rfl rfl rfl ?_;clear F a;intro a F
   refine sNc F rfl rfl rfl ?_;clear F a;intro a F
   refine sFa (f := 0) (k := 0) Tryd.underlying72 rfl Tryd.sizeOf50 rfl rfl F rfl rfl rfl ?_;clear F a;intro a F
   refine sFa (f := 5) (k := 7) Tryd.underlying50 rfl Tryd.sizeOf5 rfl rfl F rfl rfl rfl ?_;clear F a;intro a F
   refine sLd Tryd.isAgg5 F rfl rfl rfl (H.arg (hS 7 _ rfl)) ?_;clear F a;intro a F
   refine sBin F rfl rfl rfl rfl (bEqlB (y := 5)) ?_;clear F a;intro a F
   refine sPk F rfl rfl rfl rfl ?_;clear F a;intro a F
   refine sMv F rfl rfl rfl ?_;clear F a;intro a F
   refine F.split 48 rfl ?_ ?_ <;> (clear F; intro h48 F)
   ·
    replace h48 := beqT h48
    refine sSk F rfl rfl ?_;clear F a;intro a F
    refine sSk F rfl rfl ?_;clear F a;intro a F
    refine sSk F rfl rfl ?_;clear F a;intro a F
    refine sSk F rfl rfl ?_;clear F a;intro a F
    refine sSk F rfl rfl ?_;clear F a;intro a F
    refine sSk F rfl rfl ?_;clear F a;intro a F
    refine sPk F rfl rfl rfl rfl ?_;clear F a;intro a F
    refine sAs F rfl rfl rfl ?_;clear F a;intro a F
    refine sNil ?_
    refine hK7 _ _ ?_; clear hK7
    refine wp_ret ?_
    simp only [Exit.inBlock, Exit.then]
    refine bRet Tryd.results62 F rfl ?_
    exact ⟨retB (by simp_all [fnOk]), H.below⟩
   replace h48 := beqF h48
   refine sMv F rfl rfl rfl ?_;clear F a;intro a F
   refine sNc F rfl rfl rfl ?_;clear F a;intro a F
   refine sFa (f := 0) (k := 0) Tryd.underlying72 rfl Tryd.sizeOf50 rfl rfl F rfl rfl rfl ?_;clear F a;intro a F
   refine sFa (f := 5) (k := 7) Tryd.underlying50 rfl Tryd.sizeOf5 rfl rfl F rfl rfl rfl ?_;clear F a;intro a F
   refine sLd Tryd.isAgg5 F rfl rfl rfl (H.arg (hS 7 _ rfl)) ?_;clear F a;intro a F
   refine sBin F rfl rfl rfl rfl (bEqlB (y := 6)) ?_;clear F a;intro a F
   refine sPk F rfl rfl rfl rfl ?_;clear F a;intro a F
   refine sAs F rfl rfl rfl ?_;clear F a;intro a F
   refine sNil ?_
   refine hK7 _ _ ?_; clear hK7
   refine wp_ret ?_
   simp only [Exit.inBlock, Exit.then]
   refine bRet Tryd.results62 F rfl ?_
   exact ⟨retB (by simp_all [fnOk]), H.below⟩
  replace h32 := beqF h32
  refine wp_skip ?_
  refine hK2 _ _ ?_; clear hK2
  refine cSeq (fun K8 hK8 => ?_)
  refine cReg ?_
  refine sAs F rfl rfl rfl ?_;clear F a;intro a F
  refine sNil ?_
  refine hK8 _ _ ?_; clear hK8
  refine wp_ret ?_
  refine bRet Tryd.results62 F rfl ?_
  exact ⟨retB (by simp_all [fnOk]), H.below⟩
theorem cell_if {c : Bool} {u : UInt8} : b8 (bif c then u else 0) = bif c then b8 u else .int .u8 0 := by cases c <;> rfl
theorem needed_cells (x : Ins) : x.needed.cells = [b8 x.op, (bif hasB x.op 1 then b8 x.dst else .int .u8 0), (bif hasB x.op 2 then b8 x.loc else .int .u8 0), .bool (bif hasB x.op 4 then x.aR else false), (bif hasB x.op 4 then b8 x.aN else .int .u8 0), .bool (bif hasB x.op 8 then x.bR else false), (bif hasB x.op 8 then b8 x.bN else .int .u8 0), (bif hasB x.op 16 then b8 x.fn else .int .u8 0), (bif hasB x.op 32 then b8 x.mode else .int .u8 0), (bif hasB x.op 64 then b8 x.skip else .int .u8 0)] := by
  simp only [Ins.cells, Ins.needed, cell_if]
set_option maxHeartbeats 1000000 in
theorem needed_any (B : Nat) (x : Ins) (locs after : Int) (w0 : World) (hS : SpotAt w0 B x locs after) (hN : NeedsAt w0) (ho : x.op < 9) :
    Calls Tryd.prog 55 #[.pointer (some ⟨B, 0, none⟩)] w0 fun e w' => e = .returned (.agg x.needed.cells.toArray) ∧ Below w0.heap.size w0 w' := by
  have H := Own.start w0 none
  rw [needed_cells]
  refine enterF Tryd.func55 rfl Tryd.ntmps55 rfl (fun a F => ?_)
  refine cSeq (fun K1 hK1 => ?_)
  refine cReg ?_
  refine sAl H Tryd.zeroValue50 F rfl rfl ?_
  clear F a H; intro b2 a w F H
  refine sNil ?_
  refine hK1 _ _ ?_; clear hK1
  refine cSeq (fun K2 hK2 => ?_)
  refine cReg ?_
  refine sMv F rfl rfl rfl ?_;clear F a;intro a F
  refine sNc F rfl rfl rfl ?_;clear F a;intro a F
  refine sFa (f := 0) (k := 0) Tryd.underlying72 rfl Tryd.sizeOf50 rfl rfl F rfl rfl rfl ?_;clear F a;intro a F
  refine sFa (f := 0) (k := 0) Tryd.underlying50 rfl Tryd.sizeOf5 rfl rfl F rfl rfl rfl ?_;clear F a;intro a F
  refine sLd Tryd.isAgg5 F rfl rfl rfl (H.arg (hS 0 _ rfl)) ?_;clear F a;intro a F
  refine sBd (places := [(0, 1), (1, 1), (2, 1), (3, 2), (5, 2), (7, 1), (8, 1), (9, 1)]) Tryd.zeroValue50 Tryd.underlying50 (by kernel_rfl) F rfl rfl rfl rfl ?_;clear F a;intro a F
  refine sAl H Tryd.zeroValue50 F rfl rfl ?_
  clear F a H; intro b3 a w F H
  refine sSr H 0 ?si F rfl rfl rfl ?s1 rfl rfl ?_
  case si => exact info_size Tryd.sizeOf50
  case s1 => first | rfl | (repeat (first | exact one_nil | (apply one_cons; · first | rfl | assumption | exact one_bif rfl rfl)))
  clear H; intro w H
  refine sNil ?_
  refine hK2 _ _ ?_; clear hK2
  refine cSeqJ [0, 2, 3] (fun ups w => ups = [] ∧ Own w0 none w [.blk b3 [b8 x.op, (bif hasB x.op 1 then b8 x.dst else .int .u8 0), .int .u8 0, .bool false, .int .u8 0, .bool false, .int .u8 0, .int .u8 0, .int .u8 0, .int .u8 0] 50, .blk b2 [.int .u8 0, .int .u8 0, .int .u8 0, .bool false, .int .u8 0, .bool false, .int .u8 0, .int .u8 0, .int .u8 0, .int .u8 0] 50]) F (by repeat (first | exact SubR.nil | (apply SubR.cons; · rfl))) ?_ ?_
  ·
   refine cSeq (fun K3 hK3 => ?_)
   refine cReg ?_
   refine sMv F rfl rfl rfl ?_;clear F a;intro a F
   refine sCall Tryd.call58 F rfl rfl rfl (has_any B x locs after 1 _ (fun j v hv => H.arg (hS j v hv)) (fun i hi => H.arg (hN i hi)) ho) ?_
   rintro e w ⟨rfl, hb⟩
   replace H := H.grow hb; clear hb
   refine ⟨_, rfl, ?_⟩
   clear F a; intro a F
   refine sNil ?_
   refine hK3 _ _ ?_; clear hK3
   refine cIf F rfl (fun h11 => ?_) (fun h11 => ?_)
   ·
    refine cReg ?_
    refine sMv F rfl rfl rfl ?_;clear F a;intro a F
    refine sNc F rfl rfl rfl ?_;clear F a;intro a F
    refine sFa (f := 0) (k := 0) Tryd.underlying72 rfl Tryd.sizeOf50 rfl rfl F rfl rfl rfl ?_;clear F a;intro a F
    refine sFa (f := 1) (k := 1) Tryd.underlying50 rfl Tryd.sizeOf5 rfl rfl F rfl rfl rfl ?_;clear F a;intro a F
    refine sLd Tryd.isAgg5 F rfl rfl rfl (H.arg (hS 1 _ rfl)) ?_;clear F a;intro a F
    refine sFa (f := 1) (k := 1) Tryd.underlying50 rfl Tryd.sizeOf5 rfl rfl F rfl rfl rfl ?_;clear F a;intro a F
    refine sSt H 0 Tryd.sizeOf5 F rfl rfl rfl rfl rfl rfl ?_
    clear H; intro w H
    refine sNil ?_
    exact ⟨[], ⟨rfl, by rw [h11]; exact H⟩, F.to (by repeat (first | exact trivial | refine Le.cons rfl ?_))⟩
   refine wp_skip ?_
   exact ⟨[], ⟨rfl, by rw [h11]; exact H⟩, F.to (by repeat (first | exact trivial | refine Le.cons rfl ?_))⟩
  clear F H
  intro ups a w hI F
  obtain ⟨rfl, H⟩ := hI
  refine cSeqJ [0, 2, 3] (fun ups w => ups = [] ∧ Own w0 none w [.blk b3 [b8 x.op, (bif hasB x.op 1 then b8 x.dst else .int .u8 0), (bif hasB x.op 2 then b8 x.loc else .int .u8 0), .bool false, .int .u8 0, .bool false, .int .u8 0, .int .u8 0, .int .u8 0, .int .u8 0] 50, .blk b2 [.int .u8 0, .int .u8 0, .int .u8 0, .bool false, .int .u8 0, .bool false, .int .u8 0, .int .u8 0, .int .u8 0, .int .u8 0] 50]) F (by repeat (first | exact SubR.nil | (apply SubR.cons; · rfl))) ?_ ?_
  ·
   refine cSeq (fun K4 hK4 => ?_)
   refine cReg ?_
   refine sMv F rfl rfl rfl ?_;clear F a;intro a F
   refine sCall Tryd.call58 F rfl rfl rfl (has_any B x locs after 2 _ (fun j v hv => H.arg (hS j v hv)) (fun i hi => H.arg (hN i hi)) ho) ?_
   rintro e w ⟨rfl, hb⟩
   replace H := H.grow hb; clear hb
   refine ⟨_, rfl, ?_⟩
   clear F a; intro a F
   refine sNil ?_
   refine hK4 _ _ ?_; clear hK4
   refine cIf F rfl (fun h19 => ?_) (fun h19 => ?_)
   ·
    refine cReg ?_
    refine sMv F rfl rfl rfl ?_;clear F a;intro a F
    refine sNc F rfl rfl rfl ?_;clear F a;intro a F
    refine sFa (f := 0) (k := 0) Tryd.underlying72 rfl Tryd.sizeOf50 rfl rfl F rfl rfl rfl ?_;clear F a;intro a F
    refine sFa (f := 2) (k := 2) Tryd.underlying50 rfl Tryd.sizeOf5 rfl rfl F rfl rfl rfl ?_;clear F a;intro a F
    refine sLd Tryd.isAgg5 F rfl rfl rfl (H.arg (hS 2 _ rfl)) ?_;clear F a;intro a F
    refine sFa (f := 2) (k := 2) Tryd.underlying50 rfl Tryd.sizeOf5 rfl rfl F rfl rfl rfl ?_;clear F a;intro a F
    refine sSt H 0 Tryd.sizeOf5 F rfl rfl rfl rfl rfl rfl ?_
    clear H; intro w H
    refine sNil ?_
    exact ⟨[], ⟨rfl, by rw [h19]; exact H⟩, F.to (by repeat (first | exact trivial | refine Le.cons rfl ?_))⟩
   refine wp_skip ?_
   exact ⟨[], ⟨rfl, by rw [h19]; exact H⟩, F.to (by repeat (first | exact trivial | refine Le.cons rfl ?_))⟩
  clear F H
  intro ups a w hI F
  obtain ⟨rfl, H⟩ := hI
  refine cSeqJ [0, 2, 3] (fun ups w => ups = [] ∧ Own w0 none w [.blk b3 [b8 x.op, (bif hasB x.op 1 then b8 x.dst else .int .u8 0), (bif hasB x.op 2 then b8 x.loc else .int .u8 0), .bool (bif hasB x.op 4 then x.aR else false), (bif hasB x.op 4 then b8 x.aN else .int .u8 0), .bool false, .int .u8 0, .int .u8 0, .int .u8 0, .int .u8 0] 50, .blk b2 [.int .u8 0, .int .u8 0, .int .u8 0, .bool false, .int .u8 0, .bool false, .int .u8 0, .int .u8 0, .int .u8 0, .int .u8 0] 50]) F (by repeat (first | exact SubR.nil | (apply SubR.cons; · rfl))) ?_ ?_
  ·
   refine cSeq (fun K5 hK5 => ?_)
   refine cReg ?_
   refine sMv F rfl rfl rfl ?_;clear F a;intro a F
   refine sCall Tryd.call58 F rfl rfl rfl (has_any B x locs after 4 _ (fun j v hv => H.arg (hS j v hv)) (fun i hi => H.arg (hN i hi)) ho) ?_
   rintro e w ⟨rfl, hb⟩
   replace H := H.grow hb; clear hb
   refine ⟨_, rfl, ?_⟩
   clear F a; intro a F
   refine sNil ?_
   refine hK5 _ _ ?_; clear hK5
   refine cIf F rfl (fun h27 => ?_) (fun h27 => ?_)
   ·
    refine cReg ?_
    refine sMv F rfl rfl rfl ?_;clear F a;intro a F
    refine sNc F rfl rfl rfl ?_;clear F a;intro a F
    refine sFa (f := 0) (k := 0) Tryd.underlying72 rfl Tryd.sizeOf50 rfl rfl F rfl rfl rfl ?_;clear F a;intro a F
    refine sFa (f := 3) (k := 3) Tryd.underlying50 rfl Tryd.sizeOf48 rfl rfl F rfl rfl rfl ?_;clear F a;intro a F
    refine sLr Tryd.underlying48 rfl ?si F rfl rfl rfl (H.argR (subR hS 3 2)) ?_
    case si => exact info_size Tryd.sizeOf48
    clear F a; intro a F
    refine sFa (f := 3) (k := 3) Tryd.underlying50 rfl Tryd.sizeOf48 rfl rfl F rfl rfl rfl ?_;clear F a;intro a F
    refine sSr H 0 ?si F rfl rfl rfl ?s1 rfl rfl ?_
    case si => exact info_size Tryd.sizeOf48
    case s1 => first | rfl | (repeat (first | exact one_nil | (apply one_cons; · first | rfl | assumption | exact one_bif rfl rfl)))
    clear H; intro w H
    refine sNil ?_
    exact ⟨[], ⟨rfl, by rw [h27]; exact H⟩, F.to (by repeat (first | exact trivial | refine Le.cons rfl ?_))⟩
   refine wp_skip ?_
   exact ⟨[], ⟨rfl, by rw [h27]; exact H⟩, F.to (by repeat (first | exact trivial | refine Le.cons rfl ?_))⟩
  clear F H
  intro ups a w hI F
  obtain ⟨rfl, H⟩ := hI
  refine cSeqJ [0, 2, 3] (fun ups w => ups = [] ∧ Own w0 none w [.blk b3 [b8 x.op, (bif hasB x.op 1 then b8 x.dst else .int .u8 0), (bif hasB x.op 2 then b8 x.loc else .int .u8 0), .bool (bif hasB x.op 4 then x.aR else false), (bif hasB x.op 4 then b8 x.aN else .int .u8 0), .bool (bif hasB x.op 8 then x.bR else false), (bif hasB x.op 8 then b8 x.bN else .int .u8 0), .int .u8 0, .int .u8 0, .int .u8 0] 50, .blk b2 [.int .u8 0, .int .u8 0, .int .u8 0, .bool false, .int .u8 0, .bool false, .int .u8 0, .int .u8 0, .int .u8 0, .int .u8 0] 50]) F (by repeat (first | exact SubR.nil | (apply SubR.cons; · rfl))) ?_ ?_
  ·
   refine cSeq (fun K6 hK6 => ?_)
   refine cReg ?_
   refine sMv F rfl rfl rfl ?_;clear F a;intro a F
   refine sCall Tryd.call58 F rfl rfl rfl (has_any B x locs after 8 _ (fun j v hv => H.arg (hS j v hv)) (fun i hi => H.arg (hN i hi)) ho) ?_
   rintro e w ⟨rfl, hb⟩
   replace H := H.grow hb; clear hb
   refine ⟨_, rfl, ?_⟩
   clear F a; intro a F
   refine sNil ?_
   refine hK6 _ _ ?_; clear hK6
   refine cIf F rfl (fun h35 => ?_) (fun h35 => ?_)
   ·
    refine cReg ?_
    refine sMv F rfl rfl rfl ?_;clear F a;intro a F
    refine sNc F rfl rfl rfl ?_;clear F a;intro a F
    refine sFa (f := 0) (k := 0) Tryd.underlying72 rfl Tryd.sizeOf50 rfl rfl F rfl rfl rfl ?_;clear F a;intro a F
    refine sFa (f := 4) (k := 5) Tryd.underlying50 rfl Tryd.sizeOf48 rfl rfl F rfl rfl rfl ?_;clear F a;intro a F
    refine sLr Tryd.underlying48 rfl ?si F rfl rfl rfl (H.argR (subR hS 5 2)) ?_
    case si => exact info_size Tryd.sizeOf48
    clear F a; intro a F
    refine sFa (f := 4) (k := 5) Tryd.underlying50 rfl Tryd.sizeOf48 rfl rfl F rfl rfl rfl ?_;clear F a;intro a F
    refine sSr H 0 ?si F rfl rfl rfl ?s1 rfl rfl ?_
    case si => exact info_size Tryd.sizeOf48
    case s1 => first | rfl | (repeat (first | exact one_nil | (apply one_cons; · first | rfl | assumption | exact one_bif rfl rfl)))
    clear H; intro w H
    refine sNil ?_
    exact ⟨[], ⟨rfl, by rw [h35]; exact H⟩, F.to (by repeat (first | exact trivial | refine Le.cons rfl ?_))⟩
   refine wp_skip ?_
   exact ⟨[], ⟨rfl, by rw [h35]; exact H⟩, F.to (by repeat (first | exact trivial | refine Le.cons rfl ?_))⟩
  clear F H
  intro ups a w hI F
  obtain ⟨rfl, H⟩ := hI
  refine cSeqJ [0, 2, 3] (fun ups w => ups = [] ∧ Own w0 none w [.blk b3 [b8 x.op, (bif hasB x.op 1 then b8 x.dst else .int .u8 0), (bif hasB x.op 2 then b8 x.loc else .int .u8 0), .bool (bif hasB x.op 4 then x.aR else false), (bif hasB x.op 4 then b8 x.aN else .int .u8 0), .bool (bif hasB x.op 8 then x.bR else false), (bif hasB x.op 8 then b8 x.bN else .int .u8 0), (bif hasB x.op 16 then b8 x.fn else .int .u8 0), .int .u8 0, .int .u8 0] 50, .blk b2 [.int .u8 0, .int .u8 0, .int .u8 0, .bool false, .int .u8 0, .bool false, .int .u8 0, .int .u8 0, .int .u8 0, .int .u8 0] 50]) F (by repeat (first | exact SubR.nil | (apply SubR.cons; · rfl))) ?_ ?_
  ·
   refine cSeq (fun K7 hK7 => ?_)
   refine cReg ?_
   refine sMv F rfl rfl rfl ?_;clear F a;intro a F
   refine sCall Tryd.call58 F rfl rfl rfl (has_any B x locs after 16 _ (fun j v hv => H.arg (hS j v hv)) (fun i hi => H.arg (hN i hi)) ho) ?_
   rintro e w ⟨rfl, hb⟩
   replace H := H.grow hb; clear hb
   refine ⟨_, rfl, ?_⟩
   clear F a; intro a F
   refine sNil ?_
   refine hK7 _ _ ?_; clear hK7
   refine cIf F rfl (fun h43 => ?_) (fun h43 => ?_)
   ·
    refine cReg ?_
    refine sMv F rfl rfl rfl ?_;clear F a;intro a F
    refine sNc F rfl rfl rfl ?_;clear F a;intro a F
    refine sFa (f := 0) (k := 0) Tryd.underlying72 rfl Tryd.sizeOf50 rfl rfl F rfl rfl rfl ?_;clear F a;intro a F
    refine sFa (f := 5) (k := 7) Tryd.underlying50 rfl Tryd.sizeOf5 rfl rfl F rfl rfl rfl ?_;clear F a;intro a F
    refine sLd Tryd.isAgg5 F rfl rfl rfl (H.arg (hS 7 _ rfl)) ?_;clear F a;intro a F
    refine sFa (f := 5) (k := 7) Tryd.underlying50 rfl Tryd.sizeOf5 rfl rfl F rfl rfl rfl ?_;clear F a;intro a F
    refine sSt H 0 Tryd.sizeOf5 F rfl rfl rfl rfl rfl rfl ?_
    clear H; intro w H
    refine sNil ?_
    exact ⟨[], ⟨rfl, by rw [h43]; exact H⟩, F.to (by repeat (first | exact trivial | refine Le.cons rfl ?_))⟩
   refine wp_skip ?_
   exact ⟨[], ⟨rfl, by rw [h43]; exact H⟩, F.to (by repeat (first | exact trivial | refine Le.cons rfl ?_))⟩
  clear F H
  intro ups a w hI F
  obtain ⟨rfl, H⟩ := hI
  refine cSeqJ [0, 2, 3] (fun ups w => ups = [] ∧ Own w0 none w [.blk b3 [b8 x.op, (bif hasB x.op 1 then b8 x.dst else .int .u8 0), (bif hasB x.op 2 then b8 x.loc else .int .u8 0), .bool (bif hasB x.op 4 then x.aR else false), (bif hasB x.op 4 then b8 x.aN else .int .u8 0), .bool (bif hasB x.op 8 then x.bR else false), (bif hasB x.op 8 then b8 x.bN else .int .u8 0), (bif hasB x.op 16 then b8 x.fn else .int .u8 0), (bif hasB x.op 32 then b8 x.mode else .int .u8 0), .int .u8 0] 50, .blk b2 [.int .u8 0, .int .u8 0, .int .u8 0, .bool false, .int .u8 0, .bool false, .int .u8 0, .int .u8 0, .int .u8 0, .int .u8 0] 50]) F (by repeat (first | exact SubR.nil | (apply SubR.cons; · rfl))) ?_ ?_
  ·
   refine cSeq (fun K8 hK8 => ?_)
   refine cReg ?_
   refine sMv F rfl rfl rfl ?_;clear F a;intro a F
   refine sCall Tryd.call58 F rfl rfl rfl (has_any B x locs after 32 _ (fun j v hv => H.arg (hS j v hv)) (fun i hi => H.arg (hN i hi)) ho) ?_
   rintro e w ⟨rfl, hb⟩
   replace H := H.grow hb; clear hb
   refine ⟨_, rfl, ?_⟩
   clear F a; intro a F
   refine sNil ?_
   refine hK8 _ _ ?_; clear hK8
   refine cIf F rfl (fun h51 => ?_) (fun h51 => ?_)
   ·
    refine cReg ?_
    refine sMv F rfl rfl rfl ?_;clear F a;intro a F
    refine sNc F rfl rfl rfl ?_;clear F a;intro a F
    refine sFa (f := 0) (k := 0) Tryd.underlying72 rfl Tryd.sizeOf50 rfl rfl F rfl rfl rfl ?_;clear F a;intro a F
    refine sFa (f := 6) (k := 8) Tryd.underlying50 rfl Tryd.sizeOf5 rfl rfl F rfl rfl rfl ?_;clear F a;intro a F
    refine sLd Tryd.isAgg5 F rfl rfl rfl (H.arg (hS 8 _ rfl)) ?_;clear F a;intro a F
    refine sFa (f := 6) (k := 8) Tryd.underlying50 rfl Tryd.sizeOf5 rfl rfl F rfl rfl rfl ?_;clear F a;intro a F
    refine sSt H 0 Tryd.sizeOf5 F rfl rfl rfl rfl rfl rfl ?_
    clear H; intro w H
    refine sNil ?_
    exact ⟨[], ⟨rfl, by rw [h51]; exact H⟩, F.to (by repeat (first | exact trivial | refine Le.cons rfl ?_))⟩
   refine wp_skip ?_
   exact ⟨[], ⟨rfl, by rw [h51]; exact H⟩, F.to (by repeat (first | exact trivial | refine Le.cons rfl ?_))⟩
  clear F H
  intro ups a w hI F
  obtain ⟨rfl, H⟩ := hI
  refine cSeqJ [2, 3] (fun ups w => ups = [] ∧ Own w0 none w [.blk b3 [b8 x.op, (bif hasB x.op 1 then b8 x.dst else .int .u8 0), (bif hasB x.op 2 then b8 x.loc else .int .u8 0), .bool (bif hasB x.op 4 then x.aR else false), (bif hasB x.op 4 then b8 x.aN else .int .u8 0), .bool (bif hasB x.op 8 then x.bR else false), (bif hasB x.op 8 then b8 x.bN else .int .u8 0), (bif hasB x.op 16 then b8 x.fn else .int .u8 0), (bif hasB x.op 32 then b8 x.mode else .int .u8 0), (bif hasB x.op 64 then b8 x.skip else .int .u8 0)] 50, .blk b2 [.int .u8 0, .int .u8 0, .int .u8 0, .bool false, .int .u8 0, .bool false, .int .u8 0, .int .u8 0, .int .u8 0, .int .u8 0] 50]) F (by repeat (first | exact SubR.nil | (apply SubR.cons; · rfl))) ?_ ?_
  ·
   refine cSeq (fun K9 hK9 => ?_)
   refine cReg ?_
   refine sMv F rfl rfl rfl ?_;clear F a;intro a F
   refine sCall Tryd.call58 F rfl rfl rfl (has_any B x locs after 64 _ (fun j v hv => H.arg (hS j v hv)) (fun i hi => H.arg (hN i hi)) ho) ?_
   rintro e w ⟨rfl, hb⟩
   replace H := H.grow hb; clear hb
   refine ⟨_, rfl, ?_⟩
   clear F a; intro a F
   refine sNil ?_
   refine hK9 _ _ ?_; clear hK9
   refine cIf F rfl (fun h59 => ?_) (fun h59 => ?_)
   ·
    refine cReg ?_
    refine sMv F rfl rfl rfl ?_;clear F a;intro a F
    refine sNc F rfl rfl rfl ?_;clear F a;intro a F
    refine sFa (f := 0) (k := 0) Tryd.underlying72 rfl Tryd.sizeOf50 rfl rfl F rfl rfl rfl ?_;clear F a;intro a F
    refine sFa (f := 7) (k := 9) Tryd.underlying50 rfl Tryd.sizeOf5 rfl rfl F rfl rfl rfl ?_;clear F a;intro a F
    refine sLd Tryd.isAgg5 F rfl rfl rfl (H.arg (hS 9 _ rfl)) ?_;clear F a;intro a F
    refine sFa (f := 7) (k := 9) Tryd.underlying50 rfl Tryd.sizeOf5 rfl rfl F rfl rfl rfl ?_;clear F a;intro a F
    refine sSt H 0 Tryd.sizeOf5 F rfl rfl rfl rfl rfl rfl ?_
    clear H; intro w H
    refine sNil ?_
    exact ⟨[], ⟨rfl, by rw [h59]; exact H⟩, F.to (by repeat (first | exact trivial | refine Le.cons rfl ?_))⟩
   refine wp_skip ?_
   exact ⟨[], ⟨rfl, by rw [h59]; exact H⟩, F.to (by repeat (first | exact trivial | refine Le.cons rfl ?_))⟩
  clear F H
  intro ups a w hI F
  obtain ⟨rfl, H⟩ := hI
  refine cSeq (fun K10 hK10 => ?_)
  refine cReg ?_
  refine sLr Tryd.underlying50 rfl ?si F rfl rfl rfl (H.range 0 rfl _ 10) ?_
  case si => exact info_size Tryd.sizeOf50
  clear F a; intro a F
  refine sSr H 1 ?si F rfl rfl rfl ?s1 rfl rfl ?_
  case si => exact info_size Tryd.sizeOf50
  case s1 => first | rfl | (repeat (first | exact one_nil | (apply one_cons; · first | rfl | assumption | exact one_bif rfl rfl)))
  clear H; intro w H
  refine sNil ?_
  refine hK10 _ _ ?_; clear hK10
  refine wp_ret ?_
  refine bodyPost_ret (v := .agg (List.toArray [b8 x.op, (bif hasB x.op 1 then b8 x.dst else .int .u8 0), (bif hasB x.op 2 then b8 x.loc else .int .u8 0), .bool (bif hasB x.op 4 then x.aR else false), (bif hasB x.op 4 then b8 x.aN else .int .u8 0), .bool (bif hasB x.op 8 then x.bR else false), (bif hasB x.op 8 then b8 x.bN else .int .u8 0), (bif hasB x.op 16 then b8 x.fn else .int .u8 0), (bif hasB x.op 32 then b8 x.mode else .int .u8 0), (bif hasB x.op 64 then b8 x.skip else .int .u8 0)])) (results_own Tryd.results55 F rfl Tryd.underlying50 rfl (info_size Tryd.sizeOf50) (H.blk 1 rfl)) F.nod ?_
  exact ⟨rfl, H.below⟩
end Go.Proofs.YtmfdpnjgljlkbaaDoor

namespace Go.Proofs.YtmfdpnjgljlkbaaDoor
open Go.RowKit

/-- The closures, over the variable in block V that points at the spot in block B. -/
def condFns (B V : Nat) : List Value := [.func (.func 53) #[] #[.pointer (some ⟨V, 0, none⟩)], .func (.func 54) #[] #[.pointer (some ⟨V, 0, none⟩)],
  .func (.func 56) #[] #[.pointer (some ⟨V, 0, none⟩)], .func (.func 57) #[] #[.pointer (some ⟨V, 0, none⟩)], .func (.func 59) #[] #[.pointer (some ⟨V, 0, none⟩)],
  .func (.func 61) #[.pointer (some ⟨B, 0, none⟩)] #[], .func (.func 62) #[.pointer (some ⟨B, 0, none⟩)] #[], .func (.func 63) #[] #[.pointer (some ⟨V, 0, none⟩)]]

theorem conditions_any (B : Nat) (w0 : World) :
    Calls Tryd.prog 33 #[.pointer (some ⟨B, 0, none⟩)] w0 fun e w' => ∃ V F, e = .returned (.slice (some ⟨F, 0, none⟩) 8 8) ∧ Own w0 none w' [.blk F (condFns B V) 27, .blk V [.pointer (some ⟨B, 0, none⟩)] 97] := by
  have H := Own.start w0 none
  refine enterF Tryd.func33 rfl Tryd.ntmps33 rfl (fun a F => ?_)
  refine cSeq (fun K1 hK1 => ?_)
  refine cReg ?_
  refine sBx H F rfl rfl rfl ?_
  clear F a H; intro b1 a w F H
  refine sAs F rfl rfl rfl ?_;clear F a;intro a F
  refine sNil ?_
  refine hK1 _ _ ?_; clear hK1
  refine cSeq (fun K2 hK2 => ?_)
  refine cReg ?_
  refine sFn F rfl rfl rfl rfl ?_;clear F a;intro a F
  refine sFn F rfl rfl rfl rfl ?_;clear F a;intro a F
  refine sFn F rfl rfl rfl rfl ?_;clear F a;intro a F
  refine sFn F rfl rfl rfl rfl ?_;clear F a;intro a F
  refine sFn F rfl rfl rfl rfl ?_;clear F a;intro a F
  refine sLd Tryd.isAgg97 F rfl rfl rfl (H.cell 0 rfl rfl) ?_;clear F a;intro a F
  refine sFn F rfl rfl rfl rfl ?_;clear F a;intro a F
  refine sLd Tryd.isAgg97 F rfl rfl rfl (H.cell 0 rfl rfl) ?_;clear F a;intro a F
  refine sFn F rfl rfl rfl rfl ?_;clear F a;intro a F
  refine sFn F rfl rfl rfl rfl ?_;clear F a;intro a F
  refine sBs H Tryd.underlying73 Tryd.sizeOf27 Tryd.zeroValue27 rfl F rfl rfl rfl rfl rfl ?_
  clear F a H; intro b13 a w F H
  refine sAs F rfl rfl rfl ?_;clear F a;intro a F
  refine sNil ?_
  refine hK2 _ _ ?_; clear hK2
  refine wp_ret ?_
  refine bRet Tryd.results33 F rfl ?_
  exact ⟨_, _, rfl, H⟩
/-- The spot's variable. -/
def VarAt (w : World) (V B : Nat) : Prop := w.rangeAt V 0 [.pointer (some ⟨B, 0, none⟩)]
theorem cond1_any (V B : Nat) (x : Ins) (locs after : Int) (w0 : World) (hV : VarAt w0 V B) (hS : SpotAt w0 B x locs after) :
    Calls Tryd.prog 53 #[.pointer (some ⟨V, 0, none⟩)] w0 fun e w' => e = .returned (.bool (condK x locs after 0)) ∧ Below w0.heap.size w0 w' := by
  have H := Own.start w0 none
  refine enterF Tryd.func53 rfl Tryd.ntmps53 rfl (fun a F => ?_)
  refine cSeq (fun K1 hK1 => ?_)
  refine cReg ?_
  refine sAs F rfl rfl rfl ?_;clear F a;intro a F
  refine sNil ?_
  refine hK1 _ _ ?_; clear hK1
  refine cSeq (fun K2 hK2 => ?_)
  refine cReg ?_
  refine sLd Tryd.isAgg97 F rfl rfl rfl (H.arg (hV 0 _ rfl)) ?_;clear F a;intro a F
  refine sNc F rfl rfl rfl ?_;clear F a;intro a F
  refine sFa (f := 0) (k := 0) Tryd.underlying72 rfl Tryd.sizeOf50 rfl rfl F rfl rfl rfl ?_;clear F a;intro a F
  refine sFa (f := 0) (k := 0) Tryd.underlying50 rfl Tryd.sizeOf5 rfl rfl F rfl rfl rfl ?_;clear F a;intro a F
  refine sLd Tryd.isAgg5 F rfl rfl rfl (H.arg (hS 0 _ rfl)) ?_;clear F a;intro a F
  refine sBin F rfl rfl rfl rfl (bGeqB (y := 1)) ?_;clear F a;intro a F
  refine sMv F rfl rfl rfl ?_;clear F a;intro a F
  refine F.split 8 rfl ?_ ?_ <;> (clear F; intro h8 F)
  ·
   replace h8 := of_decide_eq_true h8
   refine sLd Tryd.isAgg97 F rfl rfl rfl (H.arg (hV 0 _ rfl)) ?_;clear F a;intro a F
   refine sNc F rfl rfl rfl ?_;clear F a;intro a F
   refine sFa (f := 0) (k := 0) Tryd.underlying72 rfl Tryd.sizeOf50 rfl rfl F rfl rfl rfl ?_;clear F a;intro a F
   refine sFa (f := 0) (k := 0) Tryd.underlying50 rfl Tryd.sizeOf5 rfl rfl F rfl rfl rfl ?_;clear F a;intro a F
   refine sLd Tryd.isAgg5 F rfl rfl rfl (H.arg (hS 0 _ rfl)) ?_;clear F a;intro a F
   refine sBin F rfl rfl rfl rfl (bLeqB (y := 8)) ?_;clear F a;intro a F
   refine sPk F rfl rfl rfl rfl ?_;clear F a;intro a F
   refine sAs F rfl rfl rfl ?_;clear F a;intro a F
   refine sNil ?_
   refine hK2 _ _ ?_; clear hK2
   refine wp_ret ?_
   refine bRet Tryd.results53 F rfl ?_
   exact ⟨retB (by simp_all [condK]), H.below⟩
  replace h8 := of_decide_eq_false h8
  refine sSk F rfl rfl ?_;clear F a;intro a F
  refine sSk F rfl rfl ?_;clear F a;intro a F
  refine sSk F rfl rfl ?_;clear F a;intro a F
  refine sSk F rfl rfl ?_;clear F a;intro a F
  refine sSk F rfl rfl ?_;clear F a;intro a F
  refine sSk F rfl rfl ?_;clear F a;intro a F
  refine sPk F rfl rfl rfl rfl ?_;clear F a;intro a F
  refine sAs F rfl rfl rfl ?_;clear F a;intro a F
  refine sNil ?_
  refine hK2 _ _ ?_; clear hK2
  refine wp_ret ?_
  refine bRet Tryd.results53 F rfl ?_
  exact ⟨retB (by simp_all [condK]), H.below⟩
set_option maxRecDepth 10000 in
theorem cond2_any (V B : Nat) (x : Ins) (locs after : Int) (w0 : World) (hV : VarAt w0 V B) (hS : SpotAt w0 B x locs after) (hN : NeedsAt w0) (ho : x.op < 9) :
    Calls Tryd.prog 54 #[.pointer (some ⟨V, 0, none⟩)] w0 fun e w' => e = .returned (.bool (condK x locs after 1)) ∧ Below w0.heap.size w0 w' := by
  have H := Own.start w0 none
  refine enterF Tryd.func54 rfl Tryd.ntmps54 rfl (fun a F => ?_)
  refine cSeq (fun K1 hK1 => ?_)
  refine cReg ?_
  refine sAs F rfl rfl rfl ?_;clear F a;intro a F
  refine sNil ?_
  refine hK1 _ _ ?_; clear hK1
  refine cSeq (fun K2 hK2 => ?_)
  refine cRegDO (by kernel_rfl) H ?_
  replace H := H.drew
  refine dTake (k := 0) (by kernel_rfl) (by kernel_rfl) F rfl rfl rfl (fun w H => rLd Tryd.isAgg97 F rfl (H.arg (hV 0 _ rfl))) H (fun _ _ _ h => h) ?_;clear F a;intro a F
  refine dTake (k := 1) (by kernel_rfl) (by kernel_rfl) F rfl rfl rfl (fun w H => rNc F rfl) H (fun _ _ _ h => h) ?_;clear F a;intro a F
  refine dTake (k := 2) (by kernel_rfl) (by kernel_rfl) F rfl rfl rfl (fun w H => rFa (f := 0) (k := 0) Tryd.underlying72 rfl Tryd.sizeOf50 rfl rfl F rfl) H (fun _ _ _ h => h) ?_;clear F a;intro a F
  refine dTake (k := 3) (by kernel_rfl) (by kernel_rfl) F rfl rfl rfl (fun w H => rLr Tryd.underlying50 rfl ?si F rfl (H.argR (subR hS 0 10))) H (fun _ _ _ h => h) ?_
  case si => exact info_size Tryd.sizeOf50
  clear F a; intro a F
  refine dTake (k := 4) (by kernel_rfl) (by kernel_rfl) F rfl rfl rfl (fun w H => rLd Tryd.isAgg97 F rfl (H.arg (hV 0 _ rfl))) H (fun _ _ _ h => h) ?_;clear F a;intro a F
  refine dOne (k := 5) (by kernel_rfl) F rfl (oCall Tryd.call55 F rfl rfl (needed_any B x locs after _ (fun j v hv => H.arg (hS j v hv)) (fun i hi => H.arg (hN i hi)) ho) ?_)
  rintro e w ⟨rfl, hb⟩
  replace H := H.grow hb; clear hb
  refine ⟨_, rfl, ?_⟩
  clear F a; intro a F
  refine dOnO (j := 5) rfl (by kernel_rfl) H H (fun w h => h) ?_
  refine dTake (k := 6) (by kernel_rfl) (by kernel_rfl) F rfl rfl rfl (fun w H => rBin F rfl rfl (bInsEq (x := x) (y := x.needed) rfl)) H (fun _ _ _ h => h) ?_;clear F a;intro a F
  refine dTake (k := 7) (by kernel_rfl) (by kernel_rfl) F rfl rfl rfl (fun w H => rAs F rfl) H (fun _ _ _ h => h) ?_;clear F a;intro a F
  refine dNil (k := 8) ?_ rfl
  refine hK2 _ _ ?_; clear hK2
  refine wp_ret ?_
  refine bRet Tryd.results54 F rfl ?_
  exact ⟨rfl, H.below⟩
theorem cond3_any (V B : Nat) (x : Ins) (locs after : Int) (w0 : World) (hV : VarAt w0 V B) (hS : SpotAt w0 B x locs after) :
    Calls Tryd.prog 56 #[.pointer (some ⟨V, 0, none⟩)] w0 fun e w' => e = .returned (.bool (condK x locs after 2)) ∧ Below w0.heap.size w0 w' := by
  have H := Own.start w0 none
  refine enterF Tryd.func56 rfl Tryd.ntmps56 rfl (fun a F => ?_)
  refine cSeq (fun K1 hK1 => ?_)
  refine cReg ?_
  refine sAs F rfl rfl rfl ?_;clear F a;intro a F
  refine sNil ?_
  refine hK1 _ _ ?_; clear hK1
  refine cSeq (fun K2 hK2 => ?_)
  refine cReg ?_
  refine sLd Tryd.isAgg97 F rfl rfl rfl (H.arg (hV 0 _ rfl)) ?_;clear F a;intro a F
  refine sNc F rfl rfl rfl ?_;clear F a;intro a F
  refine sFa (f := 0) (k := 0) Tryd.underlying72 rfl Tryd.sizeOf50 rfl rfl F rfl rfl rfl ?_;clear F a;intro a F
  refine sFa (f := 1) (k := 1) Tryd.underlying50 rfl Tryd.sizeOf5 rfl rfl F rfl rfl rfl ?_;clear F a;intro a F
  refine sLd Tryd.isAgg5 F rfl rfl rfl (H.arg (hS 1 _ rfl)) ?_;clear F a;intro a F
  refine sBin F rfl rfl rfl rfl (bLssB (y := 8)) ?_;clear F a;intro a F
  refine sAs F rfl rfl rfl ?_;clear F a;intro a F
  refine sNil ?_
  refine hK2 _ _ ?_; clear hK2
  refine wp_ret ?_
  refine bRet Tryd.results56 F rfl ?_
  exact ⟨rfl, H.below⟩
set_option maxRecDepth 10000 in
theorem cond4_any (V B : Nat) (x : Ins) (locs after : Int) (w0 : World) (hV : VarAt w0 V B) (hS : SpotAt w0 B x locs after) (hN : NeedsAt w0) (ho : x.op < 9) :
    Calls Tryd.prog 57 #[.pointer (some ⟨V, 0, none⟩)] w0 fun e w' => e = .returned (.bool (condK x locs after 3)) ∧ Below w0.heap.size w0 w' := by
  have H := Own.start w0 none
  refine enterF Tryd.func57 rfl Tryd.ntmps57 rfl (fun a F => ?_)
  refine cSeq (fun K1 hK1 => ?_)
  refine cReg ?_
  refine sAs F rfl rfl rfl ?_;clear F a;intro a F
  refine sNil ?_
  refine hK1 _ _ ?_; clear hK1
  refine cSeq (fun K2 hK2 => ?_)
  refine cRegDO (by kernel_rfl) H ?_
  replace H := H.drew
  refine dTake (k := 0) (by kernel_rfl) (by kernel_rfl) F rfl rfl rfl (fun w H => rLd Tryd.isAgg97 F rfl (H.arg (hV 0 _ rfl))) H (fun _ _ _ h => h) ?_;clear F a;intro a F
  refine dOne (k := 1) (by kernel_rfl) F rfl (oCall Tryd.call58 F rfl rfl (has_any B x locs after 2 _ (fun j v hv => H.arg (hS j v hv)) (fun i hi => H.arg (hN i hi)) ho) ?_)
  rintro e w ⟨rfl, hb⟩
  replace H := H.grow hb; clear hb
  refine ⟨_, rfl, ?_⟩
  clear F a; intro a F
  refine dPartO (j := 1) rfl (by kernel_rfl) (by kernel_rfl) H ?_
  refine dTake (k := 2) (by kernel_rfl) (by kernel_rfl) F rfl rfl rfl (fun w H => rNot F rfl) H (fun _ _ _ h => h) ?_;clear F a;intro a F
  refine dTake (k := 3) (by kernel_rfl) (by kernel_rfl) F rfl rfl rfl (fun w H => rMv F rfl) H (fun _ _ _ h => h) ?_;clear F a;intro a F
  refine F.split 5 rfl ?_ ?_ <;> (clear F; intro h5 F)
  ·
   replace h5 := notT h5
   refine dSkip (k := 4) (by kernel_rfl) (by kernel_rfl) F rfl rfl rfl H (fun _ _ _ h => h) ?_;clear F a;intro a F
   refine dSkip (k := 5) (by kernel_rfl) (by kernel_rfl) F rfl rfl rfl H (fun _ _ _ h => h) ?_;clear F a;intro a F
   refine dSkip (k := 6) (by kernel_rfl) (by kernel_rfl) F rfl rfl rfl H (fun _ _ _ h => h) ?_;clear F a;intro a F
   refine dSkip (k := 7) (by kernel_rfl) (by kernel_rfl) F rfl rfl rfl H (fun _ _ _ h => h) ?_;clear F a;intro a F
   refine dSkip (k := 8) (by kernel_rfl) (by kernel_rfl) F rfl rfl rfl H (fun _ _ _ h => h) ?_;clear F a;intro a F
   refine dSkip (k := 9) (by kernel_rfl) (by kernel_rfl) F rfl rfl rfl H (fun _ _ _ h => h) ?_;clear F a;intro a F
   refine dSkip (k := 10) (by kernel_rfl) (by kernel_rfl) F rfl rfl rfl H (fun _ _ _ h => h) ?_;clear F a;intro a F
   refine dSkip (k := 11) (by kernel_rfl) (by kernel_rfl) F rfl rfl rfl H (fun _ _ _ h => h) ?_;clear F a;intro a F
   refine dSkip (k := 12) (by kernel_rfl) (by kernel_rfl) F rfl rfl rfl H (fun _ _ _ h => h) ?_;clear F a;intro a F
   refine dSkip (k := 13) (by kernel_rfl) (by kernel_rfl) F rfl rfl rfl H (fun _ _ _ h => h) ?_;clear F a;intro a F
   refine dSkip (k := 14) (by kernel_rfl) (by kernel_rfl) F rfl rfl rfl H (fun _ _ _ h => h) ?_;clear F a;intro a F
   refine dTake (k := 15) (by kernel_rfl) (by kernel_rfl) F rfl rfl rfl (fun w H => rPk F rfl rfl) H (fun _ _ _ h => h) ?_;clear F a;intro a F
   refine dTake (k := 16) (by kernel_rfl) (by kernel_rfl) F rfl rfl rfl (fun w H => rAs F rfl) H (fun _ _ _ h => h) ?_;clear F a;intro a F
   refine dNil (k := 17) ?_ rfl
   refine hK2 _ _ ?_; clear hK2
   refine wp_ret ?_
   refine bRet Tryd.results57 F rfl ?_
   exact ⟨retB (by simp_all [condK]), H.below⟩
  replace h5 := notF h5
  refine dTake (k := 4) (by kernel_rfl) (by kernel_rfl) F rfl rfl rfl (fun w H => rLd Tryd.isAgg97 F rfl (H.arg (hV 0 _ rfl))) H (fun _ _ _ h => h) ?_;clear F a;intro a F
  refine dTake (k := 5) (by kernel_rfl) (by kernel_rfl) F rfl rfl rfl (fun w H => rNc F rfl) H (fun _ _ _ h => h) ?_;clear F a;intro a F
  refine dTake (k := 6) (by kernel_rfl) (by kernel_rfl) F rfl rfl rfl (fun w H => rFa (f := 0) (k := 0) Tryd.underlying72 rfl Tryd.sizeOf50 rfl rfl F rfl) H (fun _ _ _ h => h) ?_;clear F a;intro a F
  refine dTake (k := 7) (by kernel_rfl) (by kernel_rfl) F rfl rfl rfl (fun w H => rFa (f := 2) (k := 2) Tryd.underlying50 rfl Tryd.sizeOf5 rfl rfl F rfl) H (fun _ _ _ h => h) ?_;clear F a;intro a F
  refine dTake (k := 8) (by kernel_rfl) (by kernel_rfl) F rfl rfl rfl (fun w H => rLd Tryd.isAgg5 F rfl (H.arg (hS 2 _ rfl))) H (fun _ _ _ h => h) ?_;clear F a;intro a F
  refine dTake (k := 9) (by kernel_rfl) (by kernel_rfl) F rfl rfl rfl (fun w H => rCv Tryd.underlying5 Tryd.underlying3 F rfl (wrapB _)) H (fun _ _ _ h => h) ?_;clear F a;intro a F
  refine dTake (k := 10) (by kernel_rfl) (by kernel_rfl) F rfl rfl rfl (fun w H => rLd Tryd.isAgg97 F rfl (H.arg (hV 0 _ rfl))) H (fun _ _ _ h => h) ?_;clear F a;intro a F
  refine dTake (k := 11) (by kernel_rfl) (by kernel_rfl) F rfl rfl rfl (fun w H => rNc F rfl) H (fun _ _ _ h => h) ?_;clear F a;intro a F
  refine dTake (k := 12) (by kernel_rfl) (by kernel_rfl) F rfl rfl rfl (fun w H => rFa (f := 1) (k := 10) Tryd.underlying72 rfl Tryd.sizeOf3 rfl rfl F rfl) H (fun _ _ _ h => h) ?_;clear F a;intro a F
  refine dTake (k := 13) (by kernel_rfl) (by kernel_rfl) F rfl rfl rfl (fun w H => rLd Tryd.isAgg3 F rfl (H.arg (hS 10 _ rfl))) H (fun _ _ _ h => h) ?_;clear F a;intro a F
  refine dTake (k := 14) (by kernel_rfl) (by kernel_rfl) F rfl rfl rfl (fun w H => rBin F rfl rfl bLss) H (fun _ _ _ h => h) ?_;clear F a;intro a F
  refine dTake (k := 15) (by kernel_rfl) (by kernel_rfl) F rfl rfl rfl (fun w H => rPk F rfl rfl) H (fun _ _ _ h => h) ?_;clear F a;intro a F
  refine dTake (k := 16) (by kernel_rfl) (by kernel_rfl) F rfl rfl rfl (fun w H => rAs F rfl) H (fun _ _ _ h => h) ?_;clear F a;intro a F
  refine dNil (k := 17) ?_ rfl
  refine hK2 _ _ ?_; clear hK2
  refine wp_ret ?_
  refine bRet Tryd.results57 F rfl ?_
  exact ⟨retB (by simp_all [condK]), H.below⟩
theorem cond5_any (V B : Nat) (x : Ins) (locs after : Int) (w0 : World) (hV : VarAt w0 V B) (hS : SpotAt w0 B x locs after) :
    Calls Tryd.prog 59 #[.pointer (some ⟨V, 0, none⟩)] w0 fun e w' => e = .returned (.bool (condK x locs after 4)) ∧ Below w0.heap.size w0 w' := by
  have H := Own.start w0 none
  refine enterF Tryd.func59 rfl Tryd.ntmps59 rfl (fun a F => ?_)
  refine cSeq (fun K1 hK1 => ?_)
  refine cReg ?_
  refine sAs F rfl rfl rfl ?_;clear F a;intro a F
  refine sNil ?_
  refine hK1 _ _ ?_; clear hK1
  refine cSeq (fun K2 hK2 => ?_)
  refine cReg ?_
  refine sLd Tryd.isAgg97 F rfl rfl rfl (H.arg (hV 0 _ rfl)) ?_;clear F a;intro a F
  refine sNc F rfl rfl rfl ?_;clear F a;intro a F
  refine sFa (f := 0) (k := 0) Tryd.underlying72 rfl Tryd.sizeOf50 rfl rfl F rfl rfl rfl ?_;clear F a;intro a F
  refine sFa (f := 3) (k := 3) Tryd.underlying50 rfl Tryd.sizeOf48 rfl rfl F rfl rfl rfl ?_;clear F a;intro a F
  refine sLr Tryd.underlying48 rfl ?si F rfl rfl rfl (H.argR (subR hS 3 2)) ?_
  case si => exact info_size Tryd.sizeOf48
  clear F a; intro a F
  refine sCall Tryd.call60 F rfl rfl rfl (argRight_any x.aR x.aN _) ?_
  rintro e w ⟨rfl, hb⟩
  replace H := H.grow hb; clear hb
  refine ⟨_, rfl, ?_⟩
  clear F a; intro a F
  refine sMv F rfl rfl rfl ?_;clear F a;intro a F
  refine F.split 8 rfl ?_ ?_ <;> (clear F; intro h8 F)
  ·
   refine sLd Tryd.isAgg97 F rfl rfl rfl (H.arg (hV 0 _ rfl)) ?_;clear F a;intro a F
   refine sNc F rfl rfl rfl ?_;clear F a;intro a F
   refine sFa (f := 0) (k := 0) Tryd.underlying72 rfl Tryd.sizeOf50 rfl rfl F rfl rfl rfl ?_;clear F a;intro a F
   refine sFa (f := 4) (k := 5) Tryd.underlying50 rfl Tryd.sizeOf48 rfl rfl F rfl rfl rfl ?_;clear F a;intro a F
   refine sLr Tryd.underlying48 rfl ?si F rfl rfl rfl (H.argR (subR hS 5 2)) ?_
   case si => exact info_size Tryd.sizeOf48
   clear F a; intro a F
   refine sCall Tryd.call60 F rfl rfl rfl (argRight_any x.bR x.bN _) ?_
   rintro e w ⟨rfl, hb⟩
   replace H := H.grow hb; clear hb
   refine ⟨_, rfl, ?_⟩
   clear F a; intro a F
   refine sPk F rfl rfl rfl rfl ?_;clear F a;intro a F
   refine sAs F rfl rfl rfl ?_;clear F a;intro a F
   refine sNil ?_
   refine hK2 _ _ ?_; clear hK2
   refine wp_ret ?_
   refine bRet Tryd.results59 F rfl ?_
   exact ⟨retB (by simp_all [condK]), H.below⟩
  refine sSk F rfl rfl ?_;clear F a;intro a F
  refine sSk F rfl rfl ?_;clear F a;intro a F
  refine sSk F rfl rfl ?_;clear F a;intro a F
  refine sSk F rfl rfl ?_;clear F a;intro a F
  refine sSk F rfl rfl ?_;clear F a;intro a F
  refine sSk F rfl rfl ?_;clear F a;intro a F
  refine sPk F rfl rfl rfl rfl ?_;clear F a;intro a F
  refine sAs F rfl rfl rfl ?_;clear F a;intro a F
  refine sNil ?_
  refine hK2 _ _ ?_; clear hK2
  refine wp_ret ?_
  refine bRet Tryd.results59 F rfl ?_
  exact ⟨retB (by simp_all [condK]), H.below⟩
set_option maxRecDepth 10000 in
theorem cond6_any (V B : Nat) (x : Ins) (locs after : Int) (w0 : World) (hV : VarAt w0 V B) (hS : SpotAt w0 B x locs after) (hN : NeedsAt w0) (ho : x.op < 9) :
    Calls Tryd.prog 63 #[.pointer (some ⟨V, 0, none⟩)] w0 fun e w' => e = .returned (.bool (condK x locs after 7)) ∧ Below w0.heap.size w0 w' := by
  have H := Own.start w0 none
  refine enterF Tryd.func63 rfl Tryd.ntmps63 rfl (fun a F => ?_)
  refine cSeq (fun K1 hK1 => ?_)
  refine cReg ?_
  refine sAs F rfl rfl rfl ?_;clear F a;intro a F
  refine sNil ?_
  refine hK1 _ _ ?_; clear hK1
  refine cSeq (fun K2 hK2 => ?_)
  refine cRegDO (by kernel_rfl) H ?_
  replace H := H.drew
  refine dTake (k := 0) (by kernel_rfl) (by kernel_rfl) F rfl rfl rfl (fun w H => rLd Tryd.isAgg97 F rfl (H.arg (hV 0 _ rfl))) H (fun _ _ _ h => h) ?_;clear F a;intro a F
  refine dOne (k := 1) (by kernel_rfl) F rfl (oCall Tryd.call58 F rfl rfl (has_any B x locs after 64 _ (fun j v hv => H.arg (hS j v hv)) (fun i hi => H.arg (hN i hi)) ho) ?_)
  rintro e w ⟨rfl, hb⟩
  replace H := H.grow hb; clear hb
  refine ⟨_, rfl, ?_⟩
  clear F a; intro a F
  refine dPartO (j := 1) rfl (by kernel_rfl) (by kernel_rfl) H ?_
  refine dTake (k := 2) (by kernel_rfl) (by kernel_rfl) F rfl rfl rfl (fun w H => rNot F rfl) H (fun _ _ _ h => h) ?_;clear F a;intro a F
  refine dTake (k := 3) (by kernel_rfl) (by kernel_rfl) F rfl rfl rfl (fun w H => rMv F rfl) H (fun _ _ _ h => h) ?_;clear F a;intro a F
  refine F.split 5 rfl ?_ ?_ <;> (clear F; intro h5 F)
  ·
   replace h5 := notT h5
   refine dSkip (k := 4) (by kernel_rfl) (by kernel_rfl) F rfl rfl rfl H (fun _ _ _ h => h) ?_;clear F a;intro a F
   refine dSkip (k := 5) (by kernel_rfl) (by kernel_rfl) F rfl rfl rfl H (fun _ _ _ h => h) ?_;clear F a;intro a F
   refine dSkip (k := 6) (by kernel_rfl) (by kernel_rfl) F rfl rfl rfl H (fun _ _ _ h => h) ?_;clear F a;intro a F
   refine dSkip (k := 7) (by kernel_rfl) (by kernel_rfl) F rfl rfl rfl H (fun _ _ _ h => h) ?_;clear F a;intro a F
   refine dSkip (k := 8) (by kernel_rfl) (by kernel_rfl) F rfl rfl rfl H (fun _ _ _ h => h) ?_;clear F a;intro a F
   refine dSkip (k := 9) (by kernel_rfl) (by kernel_rfl) F rfl rfl rfl H (fun _ _ _ h => h) ?_;clear F a;intro a F
   refine dSkip (k := 10) (by kernel_rfl) (by kernel_rfl) F rfl rfl rfl H (fun _ _ _ h => h) ?_;clear F a;intro a F
   refine dSkip (k := 11) (by kernel_rfl) (by kernel_rfl) F rfl rfl rfl H (fun _ _ _ h => h) ?_;clear F a;intro a F
   refine dSkip (k := 12) (by kernel_rfl) (by kernel_rfl) F rfl rfl rfl H (fun _ _ _ h => h) ?_;clear F a;intro a F
   refine dSkip (k := 13) (by kernel_rfl) (by kernel_rfl) F rfl rfl rfl H (fun _ _ _ h => h) ?_;clear F a;intro a F
   refine dSkip (k := 14) (by kernel_rfl) (by kernel_rfl) F rfl rfl rfl H (fun _ _ _ h => h) ?_;clear F a;intro a F
   refine dSkip (k := 15) (by kernel_rfl) (by kernel_rfl) F rfl rfl rfl H (fun _ _ _ h => h) ?_;clear F a;intro a F
   refine dSkip (k := 16) (by kernel_rfl) (by kernel_rfl) F rfl rfl rfl H (fun _ _ _ h => h) ?_;clear F a;intro a F
   refine dSkip (k := 17) (by kernel_rfl) (by kernel_rfl) F rfl rfl rfl H (fun _ _ _ h => h) ?_;clear F a;intro a F
   refine dSkip (k := 18) (by kernel_rfl) (by kernel_rfl) F rfl rfl rfl H (fun _ _ _ h => h) ?_;clear F a;intro a F
   refine dSkip (k := 19) (by kernel_rfl) (by kernel_rfl) F rfl rfl rfl H (fun _ _ _ h => h) ?_;clear F a;intro a F
   refine dSkip (k := 20) (by kernel_rfl) (by kernel_rfl) F rfl rfl rfl H (fun _ _ _ h => h) ?_;clear F a;intro a F
   refine dSkip (k := 21) (by kernel_rfl) (by kernel_rfl) F rfl rfl rfl H (fun _ _ _ h => h) ?_;clear F a;intro a F
   refine dSkip (k := 22) (by kernel_rfl) (by kernel_rfl) F rfl rfl rfl H (fun _ _ _ h => h) ?_;clear F a;intro a F
   refine dTake (k := 23) (by kernel_rfl) (by kernel_rfl) F rfl rfl rfl (fun w H => rPk F rfl rfl) H (fun _ _ _ h => h) ?_;clear F a;intro a F
   refine dTake (k := 24) (by kernel_rfl) (by kernel_rfl) F rfl rfl rfl (fun w H => rAs F rfl) H (fun _ _ _ h => h) ?_;clear F a;intro a F
   refine dNil (k := 25) ?_ rfl
   refine hK2 _ _ ?_; clear hK2
   refine wp_ret ?_
   refine bRet Tryd.results63 F rfl ?_
   exact ⟨retB (by simp_all [condK]), H.below⟩
  replace h5 := notF h5
  refine dTake (k := 4) (by kernel_rfl) (by kernel_rfl) F rfl rfl rfl (fun w H => rLd Tryd.isAgg97 F rfl (H.arg (hV 0 _ rfl))) H (fun _ _ _ h => h) ?_;clear F a;intro a F
  refine dTake (k := 5) (by kernel_rfl) (by kernel_rfl) F rfl rfl rfl (fun w H => rNc F rfl) H (fun _ _ _ h => h) ?_;clear F a;intro a F
  refine dTake (k := 6) (by kernel_rfl) (by kernel_rfl) F rfl rfl rfl (fun w H => rFa (f := 0) (k := 0) Tryd.underlying72 rfl Tryd.sizeOf50 rfl rfl F rfl) H (fun _ _ _ h => h) ?_;clear F a;intro a F
  refine dTake (k := 7) (by kernel_rfl) (by kernel_rfl) F rfl rfl rfl (fun w H => rFa (f := 7) (k := 9) Tryd.underlying50 rfl Tryd.sizeOf5 rfl rfl F rfl) H (fun _ _ _ h => h) ?_;clear F a;intro a F
  refine dTake (k := 8) (by kernel_rfl) (by kernel_rfl) F rfl rfl rfl (fun w H => rLd Tryd.isAgg5 F rfl (H.arg (hS 9 _ rfl))) H (fun _ _ _ h => h) ?_;clear F a;intro a F
  refine dTake (k := 9) (by kernel_rfl) (by kernel_rfl) F rfl rfl rfl (fun w H => rBin F rfl rfl (bGeqB (y := 1))) H (fun _ _ _ h => h) ?_;clear F a;intro a F
  refine dTake (k := 10) (by kernel_rfl) (by kernel_rfl) F rfl rfl rfl (fun w H => rMv F rfl) H (fun _ _ _ h => h) ?_;clear F a;intro a F
  refine F.split 12 rfl ?_ ?_ <;> (clear F; intro h12 F)
  ·
   replace h12 := of_decide_eq_true h12
   refine dTake (k := 11) (by kernel_rfl) (by kernel_rfl) F rfl rfl rfl (fun w H => rLd Tryd.isAgg97 F rfl (H.arg (hV 0 _ rfl))) H (fun _ _ _ h => h) ?_;clear F a;intro a F
   refine dTake (k := 12) (by kernel_rfl) (by kernel_rfl) F rfl rfl rfl (fun w H => rNc F rfl) H (fun _ _ _ h => h) ?_;clear F a;intro a F
   refine dTake (k := 13) (by kernel_rfl) (by kernel_rfl) F rfl rfl rfl (fun w H => rFa (f := 0) (k := 0) Tryd.underlying72 rfl Tryd.sizeOf50 rfl rfl F rfl) H (fun _ _ _ h => h) ?_;clear F a;intro a F
   refine dTake (k := 14) (by kernel_rfl) (by kernel_rfl) F rfl rfl rfl (fun w H => rFa (f := 7) (k := 9) Tryd.underlying50 rfl Tryd.sizeOf5 rfl rfl F rfl) H (fun _ _ _ h => h) ?_;clear F a;intro a F
   refine dTake (k := 15) (by kernel_rfl) (by kernel_rfl) F rfl rfl rfl (fun w H => rLd Tryd.isAgg5 F rfl (H.arg (hS 9 _ rfl))) H (fun _ _ _ h => h) ?_;clear F a;intro a F
   refine dTake (k := 16) (by kernel_rfl) (by kernel_rfl) F rfl rfl rfl (fun w H => rCv Tryd.underlying5 Tryd.underlying3 F rfl (wrapB _)) H (fun _ _ _ h => h) ?_;clear F a;intro a F
   refine dTake (k := 17) (by kernel_rfl) (by kernel_rfl) F rfl rfl rfl (fun w H => rLd Tryd.isAgg97 F rfl (H.arg (hV 0 _ rfl))) H (fun _ _ _ h => h) ?_;clear F a;intro a F
   refine dTake (k := 18) (by kernel_rfl) (by kernel_rfl) F rfl rfl rfl (fun w H => rNc F rfl) H (fun _ _ _ h => h) ?_;clear F a;intro a F
   refine dTake (k := 19) (by kernel_rfl) (by kernel_rfl) F rfl rfl rfl (fun w H => rFa (f := 2) (k := 11) Tryd.underlying72 rfl Tryd.sizeOf3 rfl rfl F rfl) H (fun _ _ _ h => h) ?_;clear F a;intro a F
   refine dTake (k := 20) (by kernel_rfl) (by kernel_rfl) F rfl rfl rfl (fun w H => rLd Tryd.isAgg3 F rfl (H.arg (hS 11 _ rfl))) H (fun _ _ _ h => h) ?_;clear F a;intro a F
   refine dTake (k := 21) (by kernel_rfl) (by kernel_rfl) F rfl rfl rfl (fun w H => rBin F rfl rfl bLeq) H (fun _ _ _ h => h) ?_;clear F a;intro a F
   refine dTake (k := 22) (by kernel_rfl) (by kernel_rfl) F rfl rfl rfl (fun w H => rPk F rfl rfl) H (fun _ _ _ h => h) ?_;clear F a;intro a F
   refine dTake (k := 23) (by kernel_rfl) (by kernel_rfl) F rfl rfl rfl (fun w H => rPk F rfl rfl) H (fun _ _ _ h => h) ?_;clear F a;intro a F
   refine dTake (k := 24) (by kernel_rfl) (by kernel_rfl) F rfl rfl rfl (fun w H => rAs F rfl) H (fun _ _ _ h => h) ?_;clear F a;intro a F
   refine dNil (k := 25) ?_ rfl
   refine hK2 _ _ ?_; clear hK2
   refine wp_ret ?_
   refine bRet Tryd.results63 F rfl ?_
   exact ⟨retB (by simp_all [condK]), H.below⟩
  replace h12 := of_decide_eq_false h12
  refine dSkip (k := 11) (by kernel_rfl) (by kernel_rfl) F rfl rfl rfl H (fun _ _ _ h => h) ?_;clear F a;intro a F
  refine dSkip (k := 12) (by kernel_rfl) (by kernel_rfl) F rfl rfl rfl H (fun _ _ _ h => h) ?_;clear F a;intro a F
  refine dSkip (k := 13) (by kernel_rfl) (by kernel_rfl) F rfl rfl rfl H (fun _ _ _ h => h) ?_;clear F a;intro a F
  refine dSkip (k := 14) (by kernel_rfl) (by kernel_rfl) F rfl rfl rfl H (fun _ _ _ h => h) ?_;clear F a;intro a F
  refine dSkip (k := 15) (by kernel_rfl) (by kernel_rfl) F rfl rfl rfl H (fun _ _ _ h => h) ?_;clear F a;intro a F
  refine dSkip (k := 16) (by kernel_rfl) (by kernel_rfl) F rfl rfl rfl H (fun _ _ _ h => h) ?_;clear F a;intro a F
  refine dSkip (k := 17) (by kernel_rfl) (by kernel_rfl) F rfl rfl rfl H (fun _ _ _ h => h) ?_;clear F a;intro a F
  refine dSkip (k := 18) (by kernel_rfl) (by kernel_rfl) F rfl rfl rfl H (fun _ _ _ h => h) ?_;clear F a;intro a F
  refine dSkip (k := 19) (by kernel_rfl) (by kernel_rfl) F rfl rfl rfl H (fun _ _ _ h => h) ?_;clear F a;intro a F
  refine dSkip (k := 20) (by kernel_rfl) (by kernel_rfl) F rfl rfl rfl H (fun _ _ _ h => h) ?_;clear F a;intro a F
  refine dSkip (k := 21) (by kernel_rfl) (by kernel_rfl) F rfl rfl rfl H (fun _ _ _ h => h) ?_;clear F a;intro a F
  refine dTake (k := 22) (by kernel_rfl) (by kernel_rfl) F rfl rfl rfl (fun w H => rPk F rfl rfl) H (fun _ _ _ h => h) ?_;clear F a;intro a F
  refine dTake (k := 23) (by kernel_rfl) (by kernel_rfl) F rfl rfl rfl (fun w H => rPk F rfl rfl) H (fun _ _ _ h => h) ?_;clear F a;intro a F
  refine dTake (k := 24) (by kernel_rfl) (by kernel_rfl) F rfl rfl rfl (fun w H => rAs F rfl) H (fun _ _ _ h => h) ?_;clear F a;intro a F
  refine dNil (k := 25) ?_ rfl
  refine hK2 _ _ ?_; clear hK2
  refine wp_ret ?_
  refine bRet Tryd.results63 F rfl ?_
  exact ⟨retB (by simp_all [condK]), H.below⟩
end Go.Proofs.YtmfdpnjgljlkbaaDoor

namespace Go.Proofs.YtmfdpnjgljlkbaaDoor
open Go.RowKit

/-- What the k-th condition asks of the ones ahead of it. -/
theorem conds_any (k V B : Nat) (v : Value) (x : Ins) (locs after : Int) (w0 : World) (hV : VarAt w0 V B) (hS : SpotAt w0 B x locs after) (hN : NeedsAt w0) (hk : (condFns B V)[k]? = some v) (hp : ∀ j, j < k → condK x locs after j = true) :
    CallsF Tryd.prog v [] w0 (fun e w' => e = .returned (.bool (condK x locs after k)) ∧ Below w0.heap.size w0 w') := by
  have ho : 0 < k → x.op < 9 := fun h => by
    have h0 := hp 0 h
    simp only [condK, Bool.and_eq_true, decide_eq_true_eq] at h0
    have := UInt8.le_iff_toNat_le.1 h0.2
    exact UInt8.lt_iff_toNat_lt.2 (by simpa using Nat.lt_succ_of_le this)
  match k, hk with
  | 0, hk => cases hk; exact ⟨_, [], [.pointer (some ⟨V, 0, none⟩)], rfl, Tryd.call53, cond1_any V B x locs after w0 hV hS⟩
  | 1, hk => cases hk; exact ⟨_, [], [.pointer (some ⟨V, 0, none⟩)], rfl, Tryd.call54, cond2_any V B x locs after w0 hV hS hN (ho (by decide))⟩
  | 2, hk => cases hk; exact ⟨_, [], [.pointer (some ⟨V, 0, none⟩)], rfl, Tryd.call56, cond3_any V B x locs after w0 hV hS⟩
  | 3, hk => cases hk; exact ⟨_, [], [.pointer (some ⟨V, 0, none⟩)], rfl, Tryd.call57, cond4_any V B x locs after w0 hV hS hN (ho (by decide))⟩
  | 4, hk => cases hk; exact ⟨_, [], [.pointer (some ⟨V, 0, none⟩)], rfl, Tryd.call59, cond5_any V B x locs after w0 hV hS⟩
  | 5, hk => cases hk; exact ⟨_, [.pointer (some ⟨B, 0, none⟩)], [], rfl, Tryd.call61, modeRight_any B x locs after w0 hS⟩
  | 6, hk => cases hk; exact ⟨_, [.pointer (some ⟨B, 0, none⟩)], [], rfl, Tryd.call62, fnRight_any B x locs after w0 hS⟩
  | 7, hk => cases hk; exact ⟨_, [], [.pointer (some ⟨V, 0, none⟩)], rfl, Tryd.call63, cond6_any V B x locs after w0 hV hS hN (ho (by decide))⟩
  | n + 8, hk => simp [condFns] at hk
theorem insOk_all {x : Ins} {locs after : Int} (h : ∀ j, j < 8 → condK x locs after j = true) : insOk x locs after = true := by
  simp only [insOk, List.all_eq_true, List.mem_range]; exact h
theorem insOk_not {x : Ins} {locs after : Int} {k : Nat} (hk : k < 8) (h : condK x locs after k = false) : insOk x locs after = false := by
  cases hb : insOk x locs after with
  | false => rfl
  | true =>
    simp only [insOk, List.all_eq_true, List.mem_range] at hb
    rw [hb k hk] at h; cases h
theorem NeedsAt.own {w0 w : World} {rs : List Res} (hN : NeedsAt w0) (H : Own w0 none w rs) : NeedsAt w := fun i hi => H.arg (hN i hi)

theorem insesOk_at {l : List Ins} {j : Nat} {x : Ins} {locs : Int} {n : Nat} (hx : l[j]? = some x) : insesOk locs n j (l.drop j) = (insOk x locs ((n : Int) - 1 - j) && insesOk locs n (j + 1) (l.drop (j + 1))) := by
  obtain ⟨hj, rfl⟩ := List.getElem?_eq_some_iff.1 hx
  rw [List.drop_eq_getElem_cons hj]
  rfl
set_option maxHeartbeats 1000000 in
theorem thread_any (A : Option Addr) (C : Nat) (l : List Ins) (locs : Int) (w0 : World) (hA : RowsAt w0 A 10 (l.map Ins.cells)) (hN : NeedsAt w0) (hn : l.length ≤ 9223372036854775807) :
    Calls Tryd.prog 10 #[.slice A l.length C, .int .i64 locs] w0 fun e w' => e = .returned (.bool (threadOk locs l)) ∧ Below w0.heap.size w0 w' := by
  have H := Own.start w0 none
  refine enterF Tryd.func10 rfl Tryd.ntmps10 rfl (fun a F => ?_)
  refine cSeq (fun K1 hK1 => ?_)
  refine cReg ?_
  refine sAs F rfl rfl rfl ?_;clear F a;intro a F
  refine sNil ?_
  refine hK1 _ _ ?_; clear hK1
  refine cSeq (fun K2 hK2 => ?_)
  refine cSeq (fun K3 hK3 => ?_)
  refine cReg ?_
  refine sMv F rfl rfl rfl ?_;clear F a;intro a F
  refine sLen Tryd.underlying22 F rfl rfl rfl ?_;clear F a;intro a F
  refine sBin F rfl rfl rfl rfl bGtr ?_;clear F a;intro a F
  refine sNil ?_
  refine hK3 _ _ ?_; clear hK3
  refine cIf F rfl (fun h13 => ?_) (fun h13 => ?_)
  ·
   replace h13 := of_decide_eq_true h13
   refine cSeq (fun K4 hK4 => ?_)
   refine cReg ?_
   refine sAs F rfl rfl rfl ?_;clear F a;intro a F
   refine sNil ?_
   refine hK4 _ _ ?_; clear hK4
   refine wp_ret ?_
   simp only [Exit.then]
   refine bRet Tryd.results10 F rfl ?_
   first
     | exact ⟨retB (by rw [threadOk, ht, insesOk_at hx, insOk_not (by omega) h40]; simp), H.below⟩
     | exact ⟨retB (by rw [threadOk, ht, List.drop_eq_nil_of_le (by omega)]; simp only [insesOk, Bool.and_true]; symm; rw [decide_eq_true_eq]; omega), H.below⟩
     | exact ⟨retB (by rw [threadOk, decide_eq_false (by omega), Bool.false_and]), H.below⟩
  replace h13 := of_decide_eq_false h13
  refine wp_skip ?_
  refine hK2 _ _ ?_; clear hK2
  refine cSeq (fun K5 hK5 => ?_)
  refine cReg ?_
  refine sMv F rfl rfl rfl ?_;clear F a;intro a F
  refine sBd (places := [(0, 10), (10, 1), (11, 1)]) Tryd.zeroValue72 Tryd.underlying72 (by kernel_rfl) F rfl rfl rfl rfl ?_;clear F a;intro a F
  refine sAl H Tryd.zeroValue72 F rfl rfl ?_
  clear F a H; intro b5 a w F H
  refine sSr H 0 ?si F rfl rfl rfl ?s1 rfl rfl ?_
  case si => exact info_size Tryd.sizeOf72
  case s1 => first | rfl | (repeat (first | exact one_nil | (apply one_cons; · first | rfl | assumption | exact one_bif rfl rfl)))
  clear H; intro w H
  refine sNil ?_
  refine hK5 _ _ ?_; clear hK5
  refine cSeq (fun K6 hK6 => ?_)
  refine cReg ?_
  refine sCall Tryd.call33 F rfl rfl rfl (conditions_any _ _) ?_
  rintro e w ⟨V, Fb, rfl, H2⟩
  replace H := H.join H2; clear H2
  refine ⟨_, rfl, ?_⟩
  clear F a; intro a F
  refine sAs F rfl rfl rfl ?_;clear F a;intro a F
  refine sNil ?_
  refine hK6 _ _ ?_; clear hK6
  refine cSeq (fun K7 hK7 => ?_)
  refine cSeq (fun K8 hK8 => ?_)
  refine cReg ?_
  refine sMv F rfl rfl rfl ?_;clear F a;intro a F
  refine sLen Tryd.underlying22 F rfl rfl rfl ?_;clear F a;intro a F
  refine sMv F rfl rfl rfl ?_;clear F a;intro a F
  refine sNil ?_
  refine hK8 _ _ ?_; clear hK8
  refine wp_block ?_
  refine cLoopR [0, 5, 6, 17, 18] (fun m ups w => ∃ (j : Nat) (x : Ins) (after : Int), m = l.length - j ∧ ups = [(19, .int .i64 (j : Int))] ∧ j ≤ l.length ∧ insesOk locs l.length 0 l = insesOk locs l.length j (l.drop j) ∧ Own w0 none w [.blk Fb (condFns b5 V) 27, .blk V [.pointer (some ⟨b5, 0, none⟩)] 97, .blk b5 (x.cells ++ [.int .i64 locs, .int .i64 after]) 72]) F (l.length) [(19, .int .i64 ((0 : Nat) : Int))] (by repeat (first | exact SubR.nil | (apply SubR.cons; · rfl))) ?_ ?_ ?_
  · exact ⟨0, ⟨0, 0, 0, false, 0, false, 0, 0, 0, 0⟩, 0, rfl, rfl, Nat.zero_le _, rfl, H⟩
  · repeat (first | exact trivial | refine Le.cons rfl ?_)
  clear F
  clear H
  intro m ups a w hI F
  obtain ⟨j, x0, af0, rfl, rfl, hj, ht, H⟩ := hI
  refine cSeq (fun K9 hK9 => ?_)
  refine cReg ?_
  refine sBin F rfl rfl rfl rfl bLss ?_;clear F a;intro a F
  refine sNil ?_
  refine hK9 _ _ ?_; clear hK9
  refine cSeq (fun K10 hK10 => ?_)
  refine cIf F rfl (fun h20 => ?_) (fun h20 => ?_)
  ·
   replace h20 := of_decide_eq_true h20
   have hjl : j < l.length := by omega
   obtain ⟨x, hx⟩ : ∃ x, l[j]? = some x := ⟨_, List.getElem?_eq_getElem hjl⟩
   obtain ⟨b, off, rfl, hc⟩ := hA j x.cells (by rw [List.getElem?_map, hx]; rfl)
   refine wp_skip ?_
   refine hK10 _ _ ?_; clear hK10
   refine cSeq (fun K11 hK11 => ?_)
   refine wp_block ?_
   refine cSeq (fun K12 hK12 => ?_)
   refine cReg ?_
   refine sMv F rfl rfl rfl ?_;clear F a;intro a F
   refine sIx Tryd.underlying22 Tryd.sizeOf50 F rfl rfl rfl rfl ?_ ?_
   focus (first | omega | decide | (simp; omega))
   clear F a; intro a F
   refine sLr Tryd.underlying50 rfl ?si F rfl rfl rfl (H.argR hc) ?_
   case si => exact info_size Tryd.sizeOf50
   clear F a; intro a F
   refine sAl H Tryd.zeroValue50 F rfl rfl ?_
   clear F a H; intro b8 a w F H
   refine sAs F rfl rfl rfl ?_;clear F a;intro a F
   refine sSr H 0 ?si F rfl rfl rfl ?s1 rfl rfl ?_
   case si => exact info_size Tryd.sizeOf50
   case s1 => first | rfl | (repeat (first | exact one_nil | (apply one_cons; · first | rfl | assumption | exact one_bif rfl rfl)))
   clear H; intro w H
   refine sNil ?_
   refine hK12 _ _ ?_; clear hK12
   refine cSeq (fun K13 hK13 => ?_)
   refine cReg ?_
   refine sLr Tryd.underlying50 rfl ?si F rfl rfl rfl (H.range 0 rfl _ 10) ?_
   case si => exact info_size Tryd.sizeOf50
   clear F a; intro a F
   refine sMv F rfl rfl rfl ?_;clear F a;intro a F
   refine sLen Tryd.underlying22 F rfl rfl rfl ?_;clear F a;intro a F
   refine sBin F rfl rfl rfl rfl (bSubI ?_) ?_
   focus omega
   clear F a; intro a F
   refine sMv F rfl rfl rfl ?_;clear F a;intro a F
   refine sBin F rfl rfl rfl rfl (bSubI ?_) ?_
   focus omega
   clear F a; intro a F
   refine sFa (f := 0) (k := 0) Tryd.underlying72 rfl Tryd.sizeOf50 rfl rfl F rfl rfl rfl ?_;clear F a;intro a F
   refine sSr H 3 ?si F rfl rfl rfl ?s1 rfl rfl ?_
   case si => exact info_size Tryd.sizeOf50
   case s1 => first | rfl | (repeat (first | exact one_nil | (apply one_cons; · first | rfl | assumption | exact one_bif rfl rfl)))
   clear H; intro w H
   refine sFa (f := 2) (k := 11) Tryd.underlying72 rfl Tryd.sizeOf3 rfl rfl F rfl rfl rfl ?_;clear F a;intro a F
   refine sSt H 3 Tryd.sizeOf3 F rfl rfl rfl rfl rfl rfl ?_
   clear H; intro w H
   refine sNil ?_
   refine hK13 _ _ ?_; clear hK13
   refine cSeq (fun K14 hK14 => ?_)
   refine cReg ?_
   refine sMv F rfl rfl rfl ?_;clear F a;intro a F
   refine sLen Tryd.underlying73 F rfl rfl rfl ?_;clear F a;intro a F
   refine sMv F rfl rfl rfl ?_;clear F a;intro a F
   refine sNil ?_
   refine hK14 _ _ ?_; clear hK14
   refine wp_block ?_
   refine cLoopR [0, 5, 6, 17, 18, 19, 32, 33] (fun m ups w => ∃ k : Nat, m = 8 - k ∧ ups = [(34, .int .i64 (k : Int))] ∧ k ≤ 8 ∧ (∀ i, i < k → condK x locs ((l.length : Int) - 1 - j) i = true) ∧ Own w0 none w [.blk b8 x.cells 50, .blk Fb (condFns b5 V) 27, .blk V [.pointer (some ⟨b5, 0, none⟩)] 97, .blk b5 (x.cells ++ [.int .i64 locs, .int .i64 ((l.length : Int) - 1 - j)]) 72]) F (8) [(34, .int .i64 ((0 : Nat) : Int))] (by repeat (first | exact SubR.nil | (apply SubR.cons; · rfl))) ?_ ?_ ?_
   · exact ⟨0, rfl, rfl, by omega, fun i hi => by omega, H⟩
   · repeat (first | exact trivial | refine Le.cons rfl ?_)
   clear F
   clear H
   intro m ups a w hI F
   obtain ⟨k, rfl, rfl, hk, hp, H⟩ := hI
   refine cSeq (fun K15 hK15 => ?_)
   refine cReg ?_
   refine sBin F rfl rfl rfl rfl bLss ?_;clear F a;intro a F
   refine sNil ?_
   refine hK15 _ _ ?_; clear hK15
   refine cSeq (fun K16 hK16 => ?_)
   refine cIf F rfl (fun h35 => ?_) (fun h35 => ?_)
   ·
    replace h35 := of_decide_eq_true h35
    refine wp_skip ?_
    refine hK16 _ _ ?_; clear hK16
    refine cSeq (fun K17 hK17 => ?_)
    refine wp_block ?_
    refine cSeq (fun K18 hK18 => ?_)
    refine cReg ?_
    refine sIx Tryd.underlying73 Tryd.sizeOf27 F rfl rfl rfl rfl ?_ ?_
    focus (first | omega | decide | (simp; omega))
    clear F a; intro a F
    refine sLd Tryd.isAgg27 F rfl rfl rfl (by rw [Nat.zero_add, Nat.mul_one]; exact H.cell 1 rfl (List.getElem?_eq_getElem (show k < (condFns b5 V).length by simp only [condFns, List.length_cons, List.length_nil]; omega))) ?_;clear F a;intro a F
    refine sAs F rfl rfl rfl ?_;clear F a;intro a F
    refine sNil ?_
    refine hK18 _ _ ?_; clear hK18
    refine cSeq (fun K19 hK19 => ?_)
    refine cReg ?_
    refine sMv F rfl rfl rfl ?_;clear F a;intro a F
    refine sCallV F rfl rfl rfl rfl (conds_any k V b5 _ x locs ((l.length : Int) - 1 - j) _ (H.range 2 rfl 0 1) (H.range 3 rfl 0 12) (hN.own H) (List.getElem?_eq_getElem _) hp) ?_
    rintro e w ⟨rfl, hb⟩
    replace H := H.grow hb; clear hb
    refine ⟨_, rfl, ?_⟩
    clear F a; intro a F
    refine sNot F rfl rfl rfl ?_;clear F a;intro a F
    refine sNil ?_
    refine hK19 _ _ ?_; clear hK19
    refine cIf F rfl (fun h40 => ?_) (fun h40 => ?_)
    ·
     replace h40 := notT h40
     refine cSeq (fun K20 hK20 => ?_)
     refine cReg ?_
     refine sAs F rfl rfl rfl ?_;clear F a;intro a F
     refine sNil ?_
     refine hK20 _ _ ?_; clear hK20
     refine wp_ret ?_
     simp only [Exit.inBlock, Exit.then]
     refine bRet Tryd.results10 F rfl ?_
     first
       | exact ⟨retB (by rw [threadOk, ht, insesOk_at hx, insOk_not (by omega) h40]; simp), H.below⟩
       | exact ⟨retB (by rw [threadOk, ht, List.drop_eq_nil_of_le (by omega)]; simp only [insesOk, Bool.and_true]; symm; rw [decide_eq_true_eq]; omega), H.below⟩
       | exact ⟨retB (by rw [threadOk, decide_eq_false (by omega), Bool.false_and]), H.below⟩
    replace h40 := notF h40
    refine wp_skip ?_
    refine hK17 _ _ ?_; clear hK17
    refine cReg ?_
    refine sBin F rfl rfl rfl rfl (bAddN (j := 1) ?_) ?_
    focus omega
    clear F a; intro a F
    refine sMv F rfl rfl rfl ?_;clear F a;intro a F
    refine sNil ?_
    exact ⟨8 - (k + 1), by omega, _, ⟨k + 1, rfl, rfl, by omega, fun i hi => by rcases Nat.lt_succ_iff_lt_or_eq.1 hi with h | rfl; exact hp i h; exact h40, H⟩, F.to (by repeat (first | exact trivial | refine Le.cons rfl ?_))⟩
   replace h35 := of_decide_eq_false h35
   refine wp_exit ?_
   refine hK11 _ _ ?_; clear hK11
   refine cReg ?_
   refine sBin F rfl rfl rfl rfl (bAddN (j := 1) ?_) ?_
   focus omega
   clear F a; intro a F
   refine sMv F rfl rfl rfl ?_;clear F a;intro a F
   refine sNil ?_
   exact ⟨l.length - (j + 1), by omega, _, ⟨j + 1, x, _, rfl, rfl, by omega, by rw [ht, insesOk_at hx, insOk_all (fun i hi => hp i (by omega)), Bool.true_and], H.tail⟩, F.to (by repeat (first | exact trivial | refine Le.cons rfl ?_))⟩
  replace h20 := of_decide_eq_false h20
  refine wp_exit ?_
  refine hK7 _ _ ?_; clear hK7
  refine cSeq (fun K21 hK21 => ?_)
  refine cReg ?_
  refine sAs F rfl rfl rfl ?_;clear F a;intro a F
  refine sNil ?_
  refine hK21 _ _ ?_; clear hK21
  refine wp_ret ?_
  refine bRet Tryd.results10 F rfl ?_
  first
    | exact ⟨retB (by rw [threadOk, ht, insesOk_at hx, insOk_not (by omega) h40]; simp), H.below⟩
    | exact ⟨retB (by rw [threadOk, ht, List.drop_eq_nil_of_le (by omega)]; simp only [insesOk, Bool.and_true]; symm; rw [decide_eq_true_eq]; omega), H.below⟩
    | exact ⟨retB (by rw [threadOk, decide_eq_false (by omega), Bool.false_and]), H.below⟩
end Go.Proofs.YtmfdpnjgljlkbaaDoor

namespace Go.Proofs.YtmfdpnjgljlkbaaDoor
open Go.RowKit

/-- A condition. -/
inductive Cnd where
  | mk (kind thread n val : UInt8) (kids : List Cnd)
def Cnd.kids : Cnd → List Cnd | .mk _ _ _ _ l => l
/-- A condition is valid and its depth is at most d. -/
def condOk (threads locs : Int) : Nat → Cnd → Bool
  | 0, _ => false
  | d + 1, .mk k t n v kids =>
    if k = 0 then (t == 0 && n == 0 && v == 0) && kids.length == 0
    else if k = 1 then decide ((t.toNat : Int) < threads) && decide (n < 8) && kids.length == 0
    else if k = 2 then decide ((n.toNat : Int) < locs) && t == 0 && kids.length == 0
    else if k = 3 ∨ k = 4 then (t == 0 && n == 0 && v == 0) && decide (2 ≤ kids.length) && kids.all (condOk threads locs d)
    else if k = 5 then (t == 0 && n == 0 && v == 0) && kids.length == 1 && kids.all (condOk threads locs d)
    else false
/-- The cells are a condition's, h deep at most. -/
def CondAt (w : World) : Nat → List Value → Cnd → Prop
  | 0, _, _ => False
  | h + 1, cs, .mk k t n v kids => ∃ A C, cs = [b8 k, b8 t, b8 n, b8 v, .slice A kids.length C] ∧ kids.length ≤ 9223372036854775807 ∧
      ∀ j kid, kids[j]? = some kid → ∃ b off cs', A = some ⟨b, off, none⟩ ∧ w.rangeAt b (off + j * 5) cs' ∧ CondAt w h cs' kid
theorem CondAt.grown {w w' : World} {row : Option Nat} (hg : w.grownBy w' row) (hr : row = none) : ∀ (h : Nat) (cs : List Value) (c : Cnd), CondAt w h cs c → CondAt w' h cs c
  | 0, _, _, hc => hc
  | h + 1, cs, .mk k t n v kids, hc => by
    obtain ⟨A, C, h1, h2, h3⟩ := hc
    refine ⟨A, C, h1, h2, fun j kid hj => ?_⟩
    obtain ⟨b, off, cs', h4, h5, h6⟩ := h3 j kid hj
    exact ⟨b, off, cs', h4, fun i u hu => hg.cell (h5 i u hu) (by subst hr; simp), CondAt.grown hg hr h cs' kid h6⟩
theorem condOk_kids {threads locs : Int} {d : Nat} {k t n v : UInt8} {kids : List Cnd} (h : (k = 3 ∨ k = 4) ∧ 2 ≤ kids.length ∨ k = 5 ∧ kids.length = 1) (hb : (t == 0 && n == 0 && v == 0) = true) :
    condOk threads locs (d + 1) (.mk k t n v kids) = kids.all (condOk threads locs d) := by
  rcases h with ⟨rfl | rfl, h⟩ | ⟨rfl, h⟩ <;> simp [condOk, h, hb] <;> simp_all
theorem len_beq0 (n : Nat) : ((n : Int) == 0) = (n == 0) := by rw [Bool.eq_iff_iff]; simp
theorem all_drop {α : Type} (p : α → Bool) {l : List α} {j : Nat} {x : α} (hx : l[j]? = some x) : (l.drop j).all p = (p x && (l.drop (j + 1)).all p) := by
  obtain ⟨hj, rfl⟩ := List.getElem?_eq_some_iff.1 hx
  rw [List.drop_eq_getElem_cons hj]
  rfl
end Go.Proofs.YtmfdpnjgljlkbaaDoor

namespace Go.Proofs.YtmfdpnjgljlkbaaDoor
open Go.RowKit

set_option maxHeartbeats 2000000 in
theorem condRight_any (threads locs : Int) (d : Nat) : ∀ (_hd : d ≤ 100) (h b off : Nat) (cs : List Value) (c : Cnd) (w0 : World), w0.rangeAt b off cs → CondAt w0 h cs c →
    Calls Tryd.prog 35 #[.pointer (some ⟨b, off, none⟩), .int .i64 threads, .int .i64 locs, .int .i64 (d : Int)] w0 fun e w' => e = .returned (.bool (condOk threads locs d c)) ∧ Below w0.heap.size w0 w' := by
  induction d with
  | zero =>
    intro _hd h b off cs c w0 hR hC
    have H := Own.start w0 none
    refine enterF Tryd.func35 rfl Tryd.ntmps35 rfl (fun a F => ?_)
    refine cSeq (fun K1 hK1 => ?_)
    refine cReg ?_
    refine sAs F rfl rfl rfl ?_;clear F a;intro a F
    refine sNil ?_
    refine hK1 _ _ ?_; clear hK1
    refine cSeq (fun K2 hK2 => ?_)
    refine cSeq (fun K3 hK3 => ?_)
    refine cReg ?_
    refine sMv F rfl rfl rfl ?_;clear F a;intro a F
    refine sBin F rfl rfl rfl rfl bEql ?_;clear F a;intro a F
    refine sNil ?_
    refine hK3 _ _ ?_; clear hK3
    refine cIf F rfl (fun h12 => ?_) (fun h12 => ?_)
    ·
     replace h12 := beqT h12
     refine cSeq (fun K4 hK4 => ?_)
     refine cReg ?_
     refine sAs F rfl rfl rfl ?_;clear F a;intro a F
     refine sNil ?_
     refine hK4 _ _ ?_; clear hK4
     refine wp_ret ?_
     simp only [Exit.then]
     refine bRet Tryd.results35 F rfl ?_
     exact ⟨rfl, H.below⟩
    replace h12 := beqF h12
    exact absurd rfl h12
  | succ d ih =>
    intro _hd h b off cs c w0 hR hC
    obtain ⟨k, t, n, v, kids⟩ := c
    match h, hC with
    | h + 1, hC =>
    obtain ⟨A, C, rfl, hkl, hK⟩ := hC
    have H := Own.start w0 none
    refine enterF Tryd.func35 rfl Tryd.ntmps35 rfl (fun a F => ?_)
    refine cSeq (fun K1 hK1 => ?_)
    refine cReg ?_
    refine sAs F rfl rfl rfl ?_;clear F a;intro a F
    refine sNil ?_
    refine hK1 _ _ ?_; clear hK1
    refine cSeq (fun K2 hK2 => ?_)
    refine cSeq (fun K3 hK3 => ?_)
    refine cReg ?_
    refine sMv F rfl rfl rfl ?_;clear F a;intro a F
    refine sBin F rfl rfl rfl rfl bEql ?_;clear F a;intro a F
    refine sNil ?_
    refine hK3 _ _ ?_; clear hK3
    refine cIf F rfl (fun h12 => ?_) (fun h12 => ?_)
    ·
     replace h12 := beqT h12
     omega
    replace h12 := beqF h12
    refine wp_skip ?_
    refine hK2 _ _ ?_; clear hK2
    refine cSeqJ [0, 1, 2, 3] (fun ups w => ∃ r, ups = [(9, .bool r)] ∧ r = (t == 0 && n == 0 && v == 0) ∧ Own w0 none w []) F (by repeat (first | exact SubR.nil | (apply SubR.cons; · rfl))) ?_ ?_
    ·
     refine cReg ?_
     refine sMv F rfl rfl rfl ?_;clear F a;intro a F
     refine sNc F rfl rfl rfl ?_;clear F a;intro a F
     refine sFa (f := 1) Tryd.underlying25 rfl Tryd.sizeOf5 rfl rfl F rfl rfl rfl ?_;clear F a;intro a F
     refine sLd Tryd.isAgg5 F rfl rfl rfl (H.arg (hR 1 _ rfl)) ?_;clear F a;intro a F
     refine sBin F rfl rfl rfl rfl (bEqlB (y := 0)) ?_;clear F a;intro a F
     refine sMv F rfl rfl rfl ?_;clear F a;intro a F
     refine F.split 18 rfl ?_ ?_ <;> (clear F; intro h18 F)
     ·
      replace h18 := beqT h18
      refine sMv F rfl rfl rfl ?_;clear F a;intro a F
      refine sNc F rfl rfl rfl ?_;clear F a;intro a F
      refine sFa (f := 2) Tryd.underlying25 rfl Tryd.sizeOf5 rfl rfl F rfl rfl rfl ?_;clear F a;intro a F
      refine sLd Tryd.isAgg5 F rfl rfl rfl (H.arg (hR 2 _ rfl)) ?_;clear F a;intro a F
      refine sBin F rfl rfl rfl rfl (bEqlB (y := 0)) ?_;clear F a;intro a F
      refine sPk F rfl rfl rfl rfl ?_;clear F a;intro a F
      refine sMv F rfl rfl rfl ?_;clear F a;intro a F
      refine F.split 25 rfl ?_ ?_ <;> (clear F; intro h25 F)
      ·
       replace h25 := beqT h25
       refine sMv F rfl rfl rfl ?_;clear F a;intro a F
       refine sNc F rfl rfl rfl ?_;clear F a;intro a F
       refine sFa (f := 3) Tryd.underlying25 rfl Tryd.sizeOf5 rfl rfl F rfl rfl rfl ?_;clear F a;intro a F
       refine sLd Tryd.isAgg5 F rfl rfl rfl (H.arg (hR 3 _ rfl)) ?_;clear F a;intro a F
       refine sBin F rfl rfl rfl rfl (bEqlB (y := 0)) ?_;clear F a;intro a F
       refine sPk F rfl rfl rfl rfl ?_;clear F a;intro a F
       refine sAs F rfl rfl rfl ?_;clear F a;intro a F
       refine sNil ?_
       refine ⟨_, ⟨_, rfl, ?_, H⟩, F.to (by repeat (first | exact trivial | refine Le.cons rfl ?_))⟩
       simp_all
      replace h25 := beqF h25
      refine sSk F rfl rfl ?_;clear F a;intro a F
      refine sSk F rfl rfl ?_;clear F a;intro a F
      refine sSk F rfl rfl ?_;clear F a;intro a F
      refine sSk F rfl rfl ?_;clear F a;intro a F
      refine sSk F rfl rfl ?_;clear F a;intro a F
      refine sPk F rfl rfl rfl rfl ?_;clear F a;intro a F
      refine sAs F rfl rfl rfl ?_;clear F a;intro a F
      refine sNil ?_
      refine ⟨_, ⟨_, rfl, ?_, H⟩, F.to (by repeat (first | exact trivial | refine Le.cons rfl ?_))⟩
      simp_all
     replace h18 := beqF h18
     refine sSk F rfl rfl ?_;clear F a;intro a F
     refine sSk F rfl rfl ?_;clear F a;intro a F
     refine sSk F rfl rfl ?_;clear F a;intro a F
     refine sSk F rfl rfl ?_;clear F a;intro a F
     refine sSk F rfl rfl ?_;clear F a;intro a F
     refine sPk F rfl rfl rfl rfl ?_;clear F a;intro a F
     refine sMv F rfl rfl rfl ?_;clear F a;intro a F
     refine sSk F rfl rfl ?_;clear F a;intro a F
     refine sSk F rfl rfl ?_;clear F a;intro a F
     refine sSk F rfl rfl ?_;clear F a;intro a F
     refine sSk F rfl rfl ?_;clear F a;intro a F
     refine sSk F rfl rfl ?_;clear F a;intro a F
     refine sPk F rfl rfl rfl rfl ?_;clear F a;intro a F
     refine sAs F rfl rfl rfl ?_;clear F a;intro a F
     refine sNil ?_
     refine ⟨_, ⟨_, rfl, ?_, H⟩, F.to (by repeat (first | exact trivial | refine Le.cons rfl ?_))⟩
     simp_all
    clear F H
    intro ups a w hI F
    obtain ⟨r, rfl, hr, H⟩ := hI
    refine cSeqJ [0, 1, 2, 3] (fun ups w => ups = [] ∧ r = true ∧ ((k = 3 ∨ k = 4) ∧ 2 ≤ kids.length ∨ k = 5 ∧ kids.length = 1) ∧ Own w0 none w []) F (by repeat (first | exact SubR.nil | (apply SubR.cons; · rfl))) ?_ ?_
    ·
     refine cSeq (fun K4 hK4 => ?_)
     refine cReg ?_
     refine sMv F rfl rfl rfl ?_;clear F a;intro a F
     refine sNc F rfl rfl rfl ?_;clear F a;intro a F
     refine sFa (f := 0) Tryd.underlying25 rfl Tryd.sizeOf5 rfl rfl F rfl rfl rfl ?_;clear F a;intro a F
     refine sLd Tryd.isAgg5 F rfl rfl rfl (H.arg (hR 0 _ rfl)) ?_;clear F a;intro a F
     refine sNil ?_
     refine hK4 _ _ ?_; clear hK4
     refine wp_block ?_
     refine cSeq (fun K5 hK5 => ?_)
     refine cReg ?_
     refine sBin F rfl rfl rfl rfl (bEqlB (y := 0)) ?_;clear F a;intro a F
     refine sAs F rfl rfl rfl ?_;clear F a;intro a F
     refine sNil ?_
     refine hK5 _ _ ?_; clear hK5
     refine cIf F rfl (fun h36 => ?_) (fun h36 => ?_)
     ·
      replace h36 := beqT h36
      refine cSeq (fun K6 hK6 => ?_)
      refine cReg ?_
      refine sMv F rfl rfl rfl ?_;clear F a;intro a F
      refine sMv F rfl rfl rfl ?_;clear F a;intro a F
      refine F.split 39 rfl ?_ ?_ <;> (clear F; intro h39 F)
      ·
       refine sMv F rfl rfl rfl ?_;clear F a;intro a F
       refine sNc F rfl rfl rfl ?_;clear F a;intro a F
       refine sFa (f := 4) Tryd.underlying25 rfl Tryd.sizeOf23 rfl rfl F rfl rfl rfl ?_;clear F a;intro a F
       refine sLd Tryd.isAgg23 F rfl rfl rfl (H.arg (hR 4 _ rfl)) ?_;clear F a;intro a F
       refine sLen Tryd.underlying23 F rfl rfl rfl ?_;clear F a;intro a F
       refine sBin F rfl rfl rfl rfl bEql ?_;clear F a;intro a F
       refine sPk F rfl rfl rfl rfl ?_;clear F a;intro a F
       refine sAs F rfl rfl rfl ?_;clear F a;intro a F
       refine sNil ?_
       refine hK6 _ _ ?_; clear hK6
       refine wp_ret ?_
       simp only [Exit.inBlock, Exit.then]
       refine bRet Tryd.results35 F rfl ?_
       first
         | exact ⟨retB (by rw [condOk_kids hkk (by rw [← hr, hrt]), ht, all_drop _ hx, h139, Bool.false_and]), H.below⟩
         | exact ⟨retB (by rw [condOk_kids hkk (by rw [← hr, hrt]), ht, List.drop_eq_nil_of_le (by omega)]; rfl), H.below⟩
         | exact ⟨retB (by clear F H hK ih hR; simp_all [condOk, len_beq0, UInt8.lt_iff_toNat_lt, UInt8.le_iff_toNat_le] <;> (intros; omega)), H.below⟩
      refine sSk F rfl rfl ?_;clear F a;intro a F
      refine sSk F rfl rfl ?_;clear F a;intro a F
      refine sSk F rfl rfl ?_;clear F a;intro a F
      refine sSk F rfl rfl ?_;clear F a;intro a F
      refine sSk F rfl rfl ?_;clear F a;intro a F
      refine sSk F rfl rfl ?_;clear F a;intro a F
      refine sPk F rfl rfl rfl rfl ?_;clear F a;intro a F
      refine sAs F rfl rfl rfl ?_;clear F a;intro a F
      refine sNil ?_
      refine hK6 _ _ ?_; clear hK6
      refine wp_ret ?_
      simp only [Exit.inBlock, Exit.then]
      refine bRet Tryd.results35 F rfl ?_
      first
        | exact ⟨retB (by rw [condOk_kids hkk (by rw [← hr, hrt]), ht, all_drop _ hx, h139, Bool.false_and]), H.below⟩
        | exact ⟨retB (by rw [condOk_kids hkk (by rw [← hr, hrt]), ht, List.drop_eq_nil_of_le (by omega)]; rfl), H.below⟩
        | exact ⟨retB (by clear F H hK ih hR; simp_all [condOk, len_beq0, UInt8.lt_iff_toNat_lt, UInt8.le_iff_toNat_le] <;> (intros; omega)), H.below⟩
     replace h36 := beqF h36
     refine cSeq (fun K7 hK7 => ?_)
     refine cReg ?_
     refine sBin F rfl rfl rfl rfl (bEqlB (y := 1)) ?_;clear F a;intro a F
     refine sAs F rfl rfl rfl ?_;clear F a;intro a F
     refine sNil ?_
     refine hK7 _ _ ?_; clear hK7
     refine cIf F rfl (fun h47 => ?_) (fun h47 => ?_)
     ·
      replace h47 := beqT h47
      refine cSeq (fun K8 hK8 => ?_)
      refine cReg ?_
      refine sMv F rfl rfl rfl ?_;clear F a;intro a F
      refine sNc F rfl rfl rfl ?_;clear F a;intro a F
      refine sFa (f := 1) Tryd.underlying25 rfl Tryd.sizeOf5 rfl rfl F rfl rfl rfl ?_;clear F a;intro a F
      refine sLd Tryd.isAgg5 F rfl rfl rfl (H.arg (hR 1 _ rfl)) ?_;clear F a;intro a F
      refine sCv Tryd.underlying5 Tryd.underlying3 F rfl rfl rfl (wrapB _) ?_;clear F a;intro a F
      refine sMv F rfl rfl rfl ?_;clear F a;intro a F
      refine sBin F rfl rfl rfl rfl bLss ?_;clear F a;intro a F
      refine sMv F rfl rfl rfl ?_;clear F a;intro a F
      refine F.split 56 rfl ?_ ?_ <;> (clear F; intro h56 F)
      ·
       replace h56 := of_decide_eq_true h56
       refine sMv F rfl rfl rfl ?_;clear F a;intro a F
       refine sNc F rfl rfl rfl ?_;clear F a;intro a F
       refine sFa (f := 2) Tryd.underlying25 rfl Tryd.sizeOf5 rfl rfl F rfl rfl rfl ?_;clear F a;intro a F
       refine sLd Tryd.isAgg5 F rfl rfl rfl (H.arg (hR 2 _ rfl)) ?_;clear F a;intro a F
       refine sBin F rfl rfl rfl rfl (bLssB (y := 8)) ?_;clear F a;intro a F
       refine sPk F rfl rfl rfl rfl ?_;clear F a;intro a F
       refine sMv F rfl rfl rfl ?_;clear F a;intro a F
       refine F.split 63 rfl ?_ ?_ <;> (clear F; intro h63 F)
       ·
        replace h63 := of_decide_eq_true h63
        refine sMv F rfl rfl rfl ?_;clear F a;intro a F
        refine sNc F rfl rfl rfl ?_;clear F a;intro a F
        refine sFa (f := 4) Tryd.underlying25 rfl Tryd.sizeOf23 rfl rfl F rfl rfl rfl ?_;clear F a;intro a F
        refine sLd Tryd.isAgg23 F rfl rfl rfl (H.arg (hR 4 _ rfl)) ?_;clear F a;intro a F
        refine sLen Tryd.underlying23 F rfl rfl rfl ?_;clear F a;intro a F
        refine sBin F rfl rfl rfl rfl bEql ?_;clear F a;intro a F
        refine sPk F rfl rfl rfl rfl ?_;clear F a;intro a F
        refine sAs F rfl rfl rfl ?_;clear F a;intro a F
        refine sNil ?_
        refine hK8 _ _ ?_; clear hK8
        refine wp_ret ?_
        simp only [Exit.inBlock, Exit.then]
        refine bRet Tryd.results35 F rfl ?_
        first
          | exact ⟨retB (by rw [condOk_kids hkk (by rw [← hr, hrt]), ht, all_drop _ hx, h139, Bool.false_and]), H.below⟩
          | exact ⟨retB (by rw [condOk_kids hkk (by rw [← hr, hrt]), ht, List.drop_eq_nil_of_le (by omega)]; rfl), H.below⟩
          | exact ⟨retB (by clear F H hK ih hR; simp_all [condOk, len_beq0, UInt8.lt_iff_toNat_lt, UInt8.le_iff_toNat_le] <;> (intros; omega)), H.below⟩
       replace h63 := of_decide_eq_false h63
       refine sSk F rfl rfl ?_;clear F a;intro a F
       refine sSk F rfl rfl ?_;clear F a;intro a F
       refine sSk F rfl rfl ?_;clear F a;intro a F
       refine sSk F rfl rfl ?_;clear F a;intro a F
       refine sSk F rfl rfl ?_;clear F a;intro a F
       refine sSk F rfl rfl ?_;clear F a;intro a F
       refine sPk F rfl rfl rfl rfl ?_;clear F a;intro a F
       refine sAs F rfl rfl rfl ?_;clear F a;intro a F
       refine sNil ?_
       refine hK8 _ _ ?_; clear hK8
       refine wp_ret ?_
       simp only [Exit.inBlock, Exit.then]
       refine bRet Tryd.results35 F rfl ?_
       first
         | exact ⟨retB (by rw [condOk_kids hkk (by rw [← hr, hrt]), ht, all_drop _ hx, h139, Bool.false_and]), H.below⟩
         | exact ⟨retB (by rw [condOk_kids hkk (by rw [← hr, hrt]), ht, List.drop_eq_nil_of_le (by omega)]; rfl), H.below⟩
         | exact ⟨retB (by clear F H hK ih hR; simp_all [condOk, len_beq0, UInt8.lt_iff_toNat_lt, UInt8.le_iff_toNat_le] <;> (intros; omega)), H.below⟩
      replace h56 := of_decide_eq_false h56
      refine sSk F rfl rfl ?_;clear F a;intro a F
      refine sSk F rfl rfl ?_;clear F a;intro a F
      refine sSk F rfl rfl ?_;clear F a;intro a F
      refine sSk F rfl rfl ?_;clear F a;intro a F
      refine sSk F rfl rfl ?_;clear F a;intro a F
      refine sPk F rfl rfl rfl rfl ?_;clear F a;intro a F
      refine sMv F rfl rfl rfl ?_;clear F a;intro a F
      refine sSk F rfl rfl ?_;clear F a;intro a F
      refine sSk F rfl rfl ?_;clear F a;intro a F
      refine sSk F rfl rfl ?_;clear F a;intro a F
      refine sSk F rfl rfl ?_;clear F a;intro a F
      refine sSk F rfl rfl ?_;clear F a;intro a F
      refine sSk F rfl rfl ?_;clear F a;intro a F
      refine sPk F rfl rfl rfl rfl ?_;clear F a;intro a F
      refine sAs F rfl rfl rfl ?_;clear F a;intro a F
      refine sNil ?_
      refine hK8 _ _ ?_; clear hK8
      refine wp_ret ?_
      simp only [Exit.inBlock, Exit.then]
      refine bRet Tryd.results35 F rfl ?_
      first
        | exact ⟨retB (by rw [condOk_kids hkk (by rw [← hr, hrt]), ht, all_drop _ hx, h139, Bool.false_and]), H.below⟩
        | exact ⟨retB (by rw [condOk_kids hkk (by rw [← hr, hrt]), ht, List.drop_eq_nil_of_le (by omega)]; rfl), H.below⟩
        | exact ⟨retB (by clear F H hK ih hR; simp_all [condOk, len_beq0, UInt8.lt_iff_toNat_lt, UInt8.le_iff_toNat_le] <;> (intros; omega)), H.below⟩
     replace h47 := beqF h47
     refine cSeq (fun K9 hK9 => ?_)
     refine cReg ?_
     refine sBin F rfl rfl rfl rfl (bEqlB (y := 2)) ?_;clear F a;intro a F
     refine sAs F rfl rfl rfl ?_;clear F a;intro a F
     refine sNil ?_
     refine hK9 _ _ ?_; clear hK9
     refine cIf F rfl (fun h71 => ?_) (fun h71 => ?_)
     ·
      replace h71 := beqT h71
      refine cSeq (fun K10 hK10 => ?_)
      refine cReg ?_
      refine sMv F rfl rfl rfl ?_;clear F a;intro a F
      refine sNc F rfl rfl rfl ?_;clear F a;intro a F
      refine sFa (f := 2) Tryd.underlying25 rfl Tryd.sizeOf5 rfl rfl F rfl rfl rfl ?_;clear F a;intro a F
      refine sLd Tryd.isAgg5 F rfl rfl rfl (H.arg (hR 2 _ rfl)) ?_;clear F a;intro a F
      refine sCv Tryd.underlying5 Tryd.underlying3 F rfl rfl rfl (wrapB _) ?_;clear F a;intro a F
      refine sMv F rfl rfl rfl ?_;clear F a;intro a F
      refine sBin F rfl rfl rfl rfl bLss ?_;clear F a;intro a F
      refine sMv F rfl rfl rfl ?_;clear F a;intro a F
      refine F.split 80 rfl ?_ ?_ <;> (clear F; intro h80 F)
      ·
       replace h80 := of_decide_eq_true h80
       refine sMv F rfl rfl rfl ?_;clear F a;intro a F
       refine sNc F rfl rfl rfl ?_;clear F a;intro a F
       refine sFa (f := 1) Tryd.underlying25 rfl Tryd.sizeOf5 rfl rfl F rfl rfl rfl ?_;clear F a;intro a F
       refine sLd Tryd.isAgg5 F rfl rfl rfl (H.arg (hR 1 _ rfl)) ?_;clear F a;intro a F
       refine sBin F rfl rfl rfl rfl (bEqlB (y := 0)) ?_;clear F a;intro a F
       refine sPk F rfl rfl rfl rfl ?_;clear F a;intro a F
       refine sMv F rfl rfl rfl ?_;clear F a;intro a F
       refine F.split 87 rfl ?_ ?_ <;> (clear F; intro h87 F)
       ·
        replace h87 := beqT h87
        refine sMv F rfl rfl rfl ?_;clear F a;intro a F
        refine sNc F rfl rfl rfl ?_;clear F a;intro a F
        refine sFa (f := 4) Tryd.underlying25 rfl Tryd.sizeOf23 rfl rfl F rfl rfl rfl ?_;clear F a;intro a F
        refine sLd Tryd.isAgg23 F rfl rfl rfl (H.arg (hR 4 _ rfl)) ?_;clear F a;intro a F
        refine sLen Tryd.underlying23 F rfl rfl rfl ?_;clear F a;intro a F
        refine sBin F rfl rfl rfl rfl bEql ?_;clear F a;intro a F
        refine sPk F rfl rfl rfl rfl ?_;clear F a;intro a F
        refine sAs F rfl rfl rfl ?_;clear F a;intro a F
        refine sNil ?_
        refine hK10 _ _ ?_; clear hK10
        refine wp_ret ?_
        simp only [Exit.inBlock, Exit.then]
        refine bRet Tryd.results35 F rfl ?_
        first
          | exact ⟨retB (by rw [condOk_kids hkk (by rw [← hr, hrt]), ht, all_drop _ hx, h139, Bool.false_and]), H.below⟩
          | exact ⟨retB (by rw [condOk_kids hkk (by rw [← hr, hrt]), ht, List.drop_eq_nil_of_le (by omega)]; rfl), H.below⟩
          | exact ⟨retB (by clear F H hK ih hR; simp_all [condOk, len_beq0, UInt8.lt_iff_toNat_lt, UInt8.le_iff_toNat_le] <;> (intros; omega)), H.below⟩
       replace h87 := beqF h87
       refine sSk F rfl rfl ?_;clear F a;intro a F
       refine sSk F rfl rfl ?_;clear F a;intro a F
       refine sSk F rfl rfl ?_;clear F a;intro a F
       refine sSk F rfl rfl ?_;clear F a;intro a F
       refine sSk F rfl rfl ?_;clear F a;intro a F
       refine sSk F rfl rfl ?_;clear F a;intro a F
       refine sPk F rfl rfl rfl rfl ?_;clear F a;intro a F
       refine sAs F rfl rfl rfl ?_;clear F a;intro a F
       refine sNil ?_
       refine hK10 _ _ ?_; clear hK10
       refine wp_ret ?_
       simp only [Exit.inBlock, Exit.then]
       refine bRet Tryd.results35 F rfl ?_
       first
         | exact ⟨retB (by rw [condOk_kids hkk (by rw [← hr, hrt]), ht, all_drop _ hx, h139, Bool.false_and]), H.below⟩
         | exact ⟨retB (by rw [condOk_kids hkk (by rw [← hr, hrt]), ht, List.drop_eq_nil_of_le (by omega)]; rfl), H.below⟩
         | exact ⟨retB (by clear F H hK ih hR; simp_all [condOk, len_beq0, UInt8.lt_iff_toNat_lt, UInt8.le_iff_toNat_le] <;> (intros; omega)), H.below⟩
      replace h80 := of_decide_eq_false h80
      refine sSk F rfl rfl ?_;clear F a;intro a F
      refine sSk F rfl rfl ?_;clear F a;intro a F
      refine sSk F rfl rfl ?_;clear F a;intro a F
      refine sSk F rfl rfl ?_;clear F a;intro a F
      refine sSk F rfl rfl ?_;clear F a;intro a F
      refine sPk F rfl rfl rfl rfl ?_;clear F a;intro a F
      refine sMv F rfl rfl rfl ?_;clear F a;intro a F
      refine sSk F rfl rfl ?_;clear F a;intro a F
      refine sSk F rfl rfl ?_;clear F a;intro a F
      refine sSk F rfl rfl ?_;clear F a;intro a F
      refine sSk F rfl rfl ?_;clear F a;intro a F
      refine sSk F rfl rfl ?_;clear F a;intro a F
      refine sSk F rfl rfl ?_;clear F a;intro a F
      refine sPk F rfl rfl rfl rfl ?_;clear F a;intro a F
      refine sAs F rfl rfl rfl ?_;clear F a;intro a F
      refine sNil ?_
      refine hK10 _ _ ?_; clear hK10
      refine wp_ret ?_
      simp only [Exit.inBlock, Exit.then]
      refine bRet Tryd.results35 F rfl ?_
      first
        | exact ⟨retB (by rw [condOk_kids hkk (by rw [← hr, hrt]), ht, all_drop _ hx, h139, Bool.false_and]), H.below⟩
        | exact ⟨retB (by rw [condOk_kids hkk (by rw [← hr, hrt]), ht, List.drop_eq_nil_of_le (by omega)]; rfl), H.below⟩
        | exact ⟨retB (by clear F H hK ih hR; simp_all [condOk, len_beq0, UInt8.lt_iff_toNat_lt, UInt8.le_iff_toNat_le] <;> (intros; omega)), H.below⟩
     replace h71 := beqF h71
     refine cSeq (fun K11 hK11 => ?_)
     refine cSeq (fun K12 hK12 => ?_)
     refine cReg ?_
     refine sBin F rfl rfl rfl rfl (bEqlB (y := 3)) ?_;clear F a;intro a F
     refine sAs F rfl rfl rfl ?_;clear F a;intro a F
     refine sNil ?_
     refine hK12 _ _ ?_; clear hK12
     refine cIf F rfl (fun h95 => ?_) (fun h95 => ?_)
     ·
      replace h95 := beqT h95
      refine wp_skip ?_
      refine hK11 _ _ ?_; clear hK11
      refine cIf F rfl (fun h95 => ?_) (fun h95 => ?_)
      ·
       replace h95 := beqT h95
       refine cSeq (fun K13 hK13 => ?_)
       refine cReg ?_
       refine sMv F rfl rfl rfl ?_;clear F a;intro a F
       refine sNot F rfl rfl rfl ?_;clear F a;intro a F
       refine sMv F rfl rfl rfl ?_;clear F a;intro a F
       refine F.split 100 rfl ?_ ?_ <;> (clear F; intro h100 F)
       ·
        replace h100 := notT h100
        refine sSk F rfl rfl ?_;clear F a;intro a F
        refine sSk F rfl rfl ?_;clear F a;intro a F
        refine sSk F rfl rfl ?_;clear F a;intro a F
        refine sSk F rfl rfl ?_;clear F a;intro a F
        refine sSk F rfl rfl ?_;clear F a;intro a F
        refine sSk F rfl rfl ?_;clear F a;intro a F
        refine sPk F rfl rfl rfl rfl ?_;clear F a;intro a F
        refine sNil ?_
        refine hK13 _ _ ?_; clear hK13
        refine cIfT F rfl ?_
        refine cSeq (fun K14 hK14 => ?_)
        refine cReg ?_
        refine sAs F rfl rfl rfl ?_;clear F a;intro a F
        refine sNil ?_
        refine hK14 _ _ ?_; clear hK14
        refine wp_ret ?_
        simp only [Exit.inBlock, Exit.then]
        refine bRet Tryd.results35 F rfl ?_
        first
          | exact ⟨retB (by rw [condOk_kids hkk (by rw [← hr, hrt]), ht, all_drop _ hx, h139, Bool.false_and]), H.below⟩
          | exact ⟨retB (by rw [condOk_kids hkk (by rw [← hr, hrt]), ht, List.drop_eq_nil_of_le (by omega)]; rfl), H.below⟩
          | exact ⟨retB (by clear F H hK ih hR; simp_all [condOk, len_beq0, UInt8.lt_iff_toNat_lt, UInt8.le_iff_toNat_le] <;> (intros; omega)), H.below⟩
       replace h100 := notF h100
       refine sMv F rfl rfl rfl ?_;clear F a;intro a F
       refine sNc F rfl rfl rfl ?_;clear F a;intro a F
       refine sFa (f := 4) Tryd.underlying25 rfl Tryd.sizeOf23 rfl rfl F rfl rfl rfl ?_;clear F a;intro a F
       refine sLd Tryd.isAgg23 F rfl rfl rfl (H.arg (hR 4 _ rfl)) ?_;clear F a;intro a F
       refine sLen Tryd.underlying23 F rfl rfl rfl ?_;clear F a;intro a F
       refine sBin F rfl rfl rfl rfl bLss ?_;clear F a;intro a F
       refine sPk F rfl rfl rfl rfl ?_;clear F a;intro a F
       refine sNil ?_
       refine hK13 _ _ ?_; clear hK13
       refine cIf F rfl (fun h107 => ?_) (fun h107 => ?_)
       ·
        replace h107 := of_decide_eq_true h107
        refine cSeq (fun K15 hK15 => ?_)
        refine cReg ?_
        refine sAs F rfl rfl rfl ?_;clear F a;intro a F
        refine sNil ?_
        refine hK15 _ _ ?_; clear hK15
        refine wp_ret ?_
        simp only [Exit.inBlock, Exit.then]
        refine bRet Tryd.results35 F rfl ?_
        first
          | exact ⟨retB (by rw [condOk_kids hkk (by rw [← hr, hrt]), ht, all_drop _ hx, h139, Bool.false_and]), H.below⟩
          | exact ⟨retB (by rw [condOk_kids hkk (by rw [← hr, hrt]), ht, List.drop_eq_nil_of_le (by omega)]; rfl), H.below⟩
          | exact ⟨retB (by clear F H hK ih hR; simp_all [condOk, len_beq0, UInt8.lt_iff_toNat_lt, UInt8.le_iff_toNat_le] <;> (intros; omega)), H.below⟩
       replace h107 := of_decide_eq_false h107
       refine wp_skip ?_
       refine ⟨_, ⟨rfl, ?_, ?_, H⟩, F.to (by repeat (first | exact trivial | refine Le.cons rfl ?_))⟩
       · simp_all
       · clear F H hK ih hR; simp_all <;> omega
      replace h95 := beqF h95
      refine cSeq (fun K16 hK16 => ?_)
      refine cReg ?_
      refine sBin F rfl rfl rfl rfl (bEqlB (y := 5)) ?_;clear F a;intro a F
      refine sAs F rfl rfl rfl ?_;clear F a;intro a F
      refine sNil ?_
      refine hK16 _ _ ?_; clear hK16
      refine cIf F rfl (fun h108 => ?_) (fun h108 => ?_)
      ·
       replace h108 := beqT h108
       refine cSeq (fun K17 hK17 => ?_)
       refine cReg ?_
       refine sMv F rfl rfl rfl ?_;clear F a;intro a F
       refine sNot F rfl rfl rfl ?_;clear F a;intro a F
       refine sMv F rfl rfl rfl ?_;clear F a;intro a F
       refine F.split 112 rfl ?_ ?_ <;> (clear F; intro h112 F)
       ·
        replace h112 := notT h112
        refine sSk F rfl rfl ?_;clear F a;intro a F
        refine sSk F rfl rfl ?_;clear F a;intro a F
        refine sSk F rfl rfl ?_;clear F a;intro a F
        refine sSk F rfl rfl ?_;clear F a;intro a F
        refine sSk F rfl rfl ?_;clear F a;intro a F
        refine sSk F rfl rfl ?_;clear F a;intro a F
        refine sPk F rfl rfl rfl rfl ?_;clear F a;intro a F
        refine sNil ?_
        refine hK17 _ _ ?_; clear hK17
        refine cIfT F rfl ?_
        refine cSeq (fun K18 hK18 => ?_)
        refine cReg ?_
        refine sAs F rfl rfl rfl ?_;clear F a;intro a F
        refine sNil ?_
        refine hK18 _ _ ?_; clear hK18
        refine wp_ret ?_
        simp only [Exit.inBlock, Exit.then]
        refine bRet Tryd.results35 F rfl ?_
        first
          | exact ⟨retB (by rw [condOk_kids hkk (by rw [← hr, hrt]), ht, all_drop _ hx, h139, Bool.false_and]), H.below⟩
          | exact ⟨retB (by rw [condOk_kids hkk (by rw [← hr, hrt]), ht, List.drop_eq_nil_of_le (by omega)]; rfl), H.below⟩
          | exact ⟨retB (by clear F H hK ih hR; simp_all [condOk, len_beq0, UInt8.lt_iff_toNat_lt, UInt8.le_iff_toNat_le] <;> (intros; omega)), H.below⟩
       replace h112 := notF h112
       refine sMv F rfl rfl rfl ?_;clear F a;intro a F
       refine sNc F rfl rfl rfl ?_;clear F a;intro a F
       refine sFa (f := 4) Tryd.underlying25 rfl Tryd.sizeOf23 rfl rfl F rfl rfl rfl ?_;clear F a;intro a F
       refine sLd Tryd.isAgg23 F rfl rfl rfl (H.arg (hR 4 _ rfl)) ?_;clear F a;intro a F
       refine sLen Tryd.underlying23 F rfl rfl rfl ?_;clear F a;intro a F
       refine sBin F rfl rfl rfl rfl bNeq ?_;clear F a;intro a F
       refine sPk F rfl rfl rfl rfl ?_;clear F a;intro a F
       refine sNil ?_
       refine hK17 _ _ ?_; clear hK17
       refine cIf F rfl (fun h119 => ?_) (fun h119 => ?_)
       ·
        replace h119 := bneT h119
        refine cSeq (fun K19 hK19 => ?_)
        refine cReg ?_
        refine sAs F rfl rfl rfl ?_;clear F a;intro a F
        refine sNil ?_
        refine hK19 _ _ ?_; clear hK19
        refine wp_ret ?_
        simp only [Exit.inBlock, Exit.then]
        refine bRet Tryd.results35 F rfl ?_
        first
          | exact ⟨retB (by rw [condOk_kids hkk (by rw [← hr, hrt]), ht, all_drop _ hx, h139, Bool.false_and]), H.below⟩
          | exact ⟨retB (by rw [condOk_kids hkk (by rw [← hr, hrt]), ht, List.drop_eq_nil_of_le (by omega)]; rfl), H.below⟩
          | exact ⟨retB (by clear F H hK ih hR; simp_all [condOk, len_beq0, UInt8.lt_iff_toNat_lt, UInt8.le_iff_toNat_le] <;> (intros; omega)), H.below⟩
       replace h119 := bneF h119
       refine wp_skip ?_
       refine ⟨_, ⟨rfl, ?_, ?_, H⟩, F.to (by repeat (first | exact trivial | refine Le.cons rfl ?_))⟩
       · simp_all
       · clear F H hK ih hR; simp_all <;> omega
      replace h108 := beqF h108
      refine cSeq (fun K20 hK20 => ?_)
      refine cReg ?_
      refine sAs F rfl rfl rfl ?_;clear F a;intro a F
      refine sNil ?_
      refine hK20 _ _ ?_; clear hK20
      refine wp_ret ?_
      simp only [Exit.inBlock, Exit.then]
      refine bRet Tryd.results35 F rfl ?_
      first
        | exact ⟨retB (by rw [condOk_kids hkk (by rw [← hr, hrt]), ht, all_drop _ hx, h139, Bool.false_and]), H.below⟩
        | exact ⟨retB (by rw [condOk_kids hkk (by rw [← hr, hrt]), ht, List.drop_eq_nil_of_le (by omega)]; rfl), H.below⟩
        | exact ⟨retB (by clear F H hK ih hR; simp_all [condOk, len_beq0, UInt8.lt_iff_toNat_lt, UInt8.le_iff_toNat_le] <;> (intros; omega)), H.below⟩
     replace h95 := beqF h95
     refine cReg ?_
     refine sBin F rfl rfl rfl rfl (bEqlB (y := 4)) ?_;clear F a;intro a F
     refine sAs F rfl rfl rfl ?_;clear F a;intro a F
     refine sNil ?_
     refine hK11 _ _ ?_; clear hK11
     refine cIf F rfl (fun h95 => ?_) (fun h95 => ?_)
     ·
      replace h95 := beqT h95
      refine cSeq (fun K21 hK21 => ?_)
      refine cReg ?_
      refine sMv F rfl rfl rfl ?_;clear F a;intro a F
      refine sNot F rfl rfl rfl ?_;clear F a;intro a F
      refine sMv F rfl rfl rfl ?_;clear F a;intro a F
      refine F.split 100 rfl ?_ ?_ <;> (clear F; intro h100 F)
      ·
       replace h100 := notT h100
       refine sSk F rfl rfl ?_;clear F a;intro a F
       refine sSk F rfl rfl ?_;clear F a;intro a F
       refine sSk F rfl rfl ?_;clear F a;intro a F
       refine sSk F rfl rfl ?_;clear F a;intro a F
       refine sSk F rfl rfl ?_;clear F a;intro a F
       refine sSk F rfl rfl ?_;clear F a;intro a F
       refine sPk F rfl rfl rfl rfl ?_;clear F a;intro a F
       refine sNil ?_
       refine hK21 _ _ ?_; clear hK21
       refine cIfT F rfl ?_
       refine cSeq (fun K22 hK22 => ?_)
       refine cReg ?_
       refine sAs F rfl rfl rfl ?_;clear F a;intro a F
       refine sNil ?_
       refine hK22 _ _ ?_; clear hK22
       refine wp_ret ?_
       simp only [Exit.inBlock, Exit.then]
       refine bRet Tryd.results35 F rfl ?_
       first
         | exact ⟨retB (by rw [condOk_kids hkk (by rw [← hr, hrt]), ht, all_drop _ hx, h139, Bool.false_and]), H.below⟩
         | exact ⟨retB (by rw [condOk_kids hkk (by rw [← hr, hrt]), ht, List.drop_eq_nil_of_le (by omega)]; rfl), H.below⟩
         | exact ⟨retB (by clear F H hK ih hR; simp_all [condOk, len_beq0, UInt8.lt_iff_toNat_lt, UInt8.le_iff_toNat_le] <;> (intros; omega)), H.below⟩
      replace h100 := notF h100
      refine sMv F rfl rfl rfl ?_;clear F a;intro a F
      refine sNc F rfl rfl rfl ?_;clear F a;intro a F
      refine sFa (f := 4) Tryd.underlying25 rfl Tryd.sizeOf23 rfl rfl F rfl rfl rfl ?_;clear F a;intro a F
      refine sLd Tryd.isAgg23 F rfl rfl rfl (H.arg (hR 4 _ rfl)) ?_;clear F a;intro a F
      refine sLen Tryd.underlying23 F rfl rfl rfl ?_;clear F a;intro a F
      refine sBin F rfl rfl rfl rfl bLss ?_;clear F a;intro a F
      refine sPk F rfl rfl rfl rfl ?_;clear F a;intro a F
      refine sNil ?_
      refine hK21 _ _ ?_; clear hK21
      refine cIf F rfl (fun h107 => ?_) (fun h107 => ?_)
      ·
       replace h107 := of_decide_eq_true h107
       refine cSeq (fun K23 hK23 => ?_)
       refine cReg ?_
       refine sAs F rfl rfl rfl ?_;clear F a;intro a F
       refine sNil ?_
       refine hK23 _ _ ?_; clear hK23
       refine wp_ret ?_
       simp only [Exit.inBlock, Exit.then]
       refine bRet Tryd.results35 F rfl ?_
       first
         | exact ⟨retB (by rw [condOk_kids hkk (by rw [← hr, hrt]), ht, all_drop _ hx, h139, Bool.false_and]), H.below⟩
         | exact ⟨retB (by rw [condOk_kids hkk (by rw [← hr, hrt]), ht, List.drop_eq_nil_of_le (by omega)]; rfl), H.below⟩
         | exact ⟨retB (by clear F H hK ih hR; simp_all [condOk, len_beq0, UInt8.lt_iff_toNat_lt, UInt8.le_iff_toNat_le] <;> (intros; omega)), H.below⟩
      replace h107 := of_decide_eq_false h107
      refine wp_skip ?_
      refine ⟨_, ⟨rfl, ?_, ?_, H⟩, F.to (by repeat (first | exact trivial | refine Le.cons rfl ?_))⟩
      · simp_all
      · clear F H hK ih hR; simp_all <;> omega
     replace h95 := beqF h95
     refine cSeq (fun K24 hK24 => ?_)
     refine cReg ?_
     refine sBin F rfl rfl rfl rfl (bEqlB (y := 5)) ?_;clear F a;intro a F
     refine sAs F rfl rfl rfl ?_;clear F a;intro a F
     refine sNil ?_
     refine hK24 _ _ ?_; clear hK24
     refine cIf F rfl (fun h108 => ?_) (fun h108 => ?_)
     ·
      replace h108 := beqT h108
      refine cSeq (fun K25 hK25 => ?_)
      refine cReg ?_
      refine sMv F rfl rfl rfl ?_;clear F a;intro a F
      refine sNot F rfl rfl rfl ?_;clear F a;intro a F
      refine sMv F rfl rfl rfl ?_;clear F a;intro a F
      refine F.split 112 rfl ?_ ?_ <;> (clear F; intro h112 F)
      ·
       replace h112 := notT h112
       refine sSk F rfl rfl ?_;clear F a;intro a F
       refine sSk F rfl rfl ?_;clear F a;intro a F
       refine sSk F rfl rfl ?_;clear F a;intro a F
       refine sSk F rfl rfl ?_;clear F a;intro a F
       refine sSk F rfl rfl ?_;clear F a;intro a F
       refine sSk F rfl rfl ?_;clear F a;intro a F
       refine sPk F rfl rfl rfl rfl ?_;clear F a;intro a F
       refine sNil ?_
       refine hK25 _ _ ?_; clear hK25
       refine cIfT F rfl ?_
       refine cSeq (fun K26 hK26 => ?_)
       refine cReg ?_
       refine sAs F rfl rfl rfl ?_;clear F a;intro a F
       refine sNil ?_
       refine hK26 _ _ ?_; clear hK26
       refine wp_ret ?_
       simp only [Exit.inBlock, Exit.then]
       refine bRet Tryd.results35 F rfl ?_
       first
         | exact ⟨retB (by rw [condOk_kids hkk (by rw [← hr, hrt]), ht, all_drop _ hx, h139, Bool.false_and]), H.below⟩
         | exact ⟨retB (by rw [condOk_kids hkk (by rw [← hr, hrt]), ht, List.drop_eq_nil_of_le (by omega)]; rfl), H.below⟩
         | exact ⟨retB (by clear F H hK ih hR; simp_all [condOk, len_beq0, UInt8.lt_iff_toNat_lt, UInt8.le_iff_toNat_le] <;> (intros; omega)), H.below⟩
      replace h112 := notF h112
      refine sMv F rfl rfl rfl ?_;clear F a;intro a F
      refine sNc F rfl rfl rfl ?_;clear F a;intro a F
      refine sFa (f := 4) Tryd.underlying25 rfl Tryd.sizeOf23 rfl rfl F rfl rfl rfl ?_;clear F a;intro a F
      refine sLd Tryd.isAgg23 F rfl rfl rfl (H.arg (hR 4 _ rfl)) ?_;clear F a;intro a F
      refine sLen Tryd.underlying23 F rfl rfl rfl ?_;clear F a;intro a F
      refine sBin F rfl rfl rfl rfl bNeq ?_;clear F a;intro a F
      refine sPk F rfl rfl rfl rfl ?_;clear F a;intro a F
      refine sNil ?_
      refine hK25 _ _ ?_; clear hK25
      refine cIf F rfl (fun h119 => ?_) (fun h119 => ?_)
      ·
       replace h119 := bneT h119
       refine cSeq (fun K27 hK27 => ?_)
       refine cReg ?_
       refine sAs F rfl rfl rfl ?_;clear F a;intro a F
       refine sNil ?_
       refine hK27 _ _ ?_; clear hK27
       refine wp_ret ?_
       simp only [Exit.inBlock, Exit.then]
       refine bRet Tryd.results35 F rfl ?_
       first
         | exact ⟨retB (by rw [condOk_kids hkk (by rw [← hr, hrt]), ht, all_drop _ hx, h139, Bool.false_and]), H.below⟩
         | exact ⟨retB (by rw [condOk_kids hkk (by rw [← hr, hrt]), ht, List.drop_eq_nil_of_le (by omega)]; rfl), H.below⟩
         | exact ⟨retB (by clear F H hK ih hR; simp_all [condOk, len_beq0, UInt8.lt_iff_toNat_lt, UInt8.le_iff_toNat_le] <;> (intros; omega)), H.below⟩
      replace h119 := bneF h119
      refine wp_skip ?_
      refine ⟨_, ⟨rfl, ?_, ?_, H⟩, F.to (by repeat (first | exact trivial | refine Le.cons rfl ?_))⟩
      · simp_all
      · clear F H hK ih hR; simp_all <;> omega
     replace h108 := beqF h108
     refine cSeq (fun K28 hK28 => ?_)
     refine cReg ?_
     refine sAs F rfl rfl rfl ?_;clear F a;intro a F
     refine sNil ?_
     refine hK28 _ _ ?_; clear hK28
     refine wp_ret ?_
     simp only [Exit.inBlock, Exit.then]
     refine bRet Tryd.results35 F rfl ?_
     first
       | exact ⟨retB (by rw [condOk_kids hkk (by rw [← hr, hrt]), ht, all_drop _ hx, h139, Bool.false_and]), H.below⟩
       | exact ⟨retB (by rw [condOk_kids hkk (by rw [← hr, hrt]), ht, List.drop_eq_nil_of_le (by omega)]; rfl), H.below⟩
       | exact ⟨retB (by clear F H hK ih hR; simp_all [condOk, len_beq0, UInt8.lt_iff_toNat_lt, UInt8.le_iff_toNat_le] <;> (intros; omega)), H.below⟩
    clear F H
    intro ups a w hI F
    obtain ⟨rfl, hrt, hkk, H⟩ := hI
    refine cSeq (fun K29 hK29 => ?_)
    refine cSeq (fun K30 hK30 => ?_)
    refine cReg ?_
    refine sMv F rfl rfl rfl ?_;clear F a;intro a F
    refine sNc F rfl rfl rfl ?_;clear F a;intro a F
    refine sFa (f := 4) Tryd.underlying25 rfl Tryd.sizeOf23 rfl rfl F rfl rfl rfl ?_;clear F a;intro a F
    refine sLd Tryd.isAgg23 F rfl rfl rfl (H.arg (hR 4 _ rfl)) ?_;clear F a;intro a F
    refine sLen Tryd.underlying23 F rfl rfl rfl ?_;clear F a;intro a F
    refine sMv F rfl rfl rfl ?_;clear F a;intro a F
    refine sNil ?_
    refine hK30 _ _ ?_; clear hK30
    refine wp_block ?_
    refine cLoopR [0, 1, 2, 3, 124] (fun m ups w => ∃ j : Nat, m = kids.length - j ∧ ups = [(125, .int .i64 (j : Int))] ∧ j ≤ kids.length ∧ kids.all (condOk threads locs d) = (kids.drop j).all (condOk threads locs d) ∧ Own w0 none w []) F (kids.length) [(125, .int .i64 ((0 : Nat) : Int))] (by repeat (first | exact SubR.nil | (apply SubR.cons; · rfl))) ?_ ?_ ?_
    · exact ⟨0, rfl, rfl, by omega, rfl, H⟩
    · repeat (first | exact trivial | refine Le.cons rfl ?_)
    clear F
    clear H
    intro m ups a w hI F
    obtain ⟨j, rfl, rfl, hj, ht, H⟩ := hI
    refine cSeq (fun K31 hK31 => ?_)
    refine cReg ?_
    refine sBin F rfl rfl rfl rfl bLss ?_;clear F a;intro a F
    refine sNil ?_
    refine hK31 _ _ ?_; clear hK31
    refine cSeq (fun K32 hK32 => ?_)
    refine cIf F rfl (fun h126 => ?_) (fun h126 => ?_)
    ·
     replace h126 := of_decide_eq_true h126
     have hjl : j < kids.length := by omega
     obtain ⟨kid, hx⟩ : ∃ x, kids[j]? = some x := ⟨_, List.getElem?_eq_getElem hjl⟩
     obtain ⟨b', off', cs', rfl, hR', hC'⟩ := hK j kid hx
     refine wp_skip ?_
     refine hK32 _ _ ?_; clear hK32
     refine cSeq (fun K33 hK33 => ?_)
     refine wp_block ?_
     refine cSeq (fun K34 hK34 => ?_)
     refine cReg ?_
     refine sMv F rfl rfl rfl ?_;clear F a;intro a F
     refine sAs F rfl rfl rfl ?_;clear F a;intro a F
     refine sNil ?_
     refine hK34 _ _ ?_; clear hK34
     refine cSeq (fun K35 hK35 => ?_)
     refine cReg ?_
     refine sMv F rfl rfl rfl ?_;clear F a;intro a F
     refine sNc F rfl rfl rfl ?_;clear F a;intro a F
     refine sFa (f := 4) Tryd.underlying25 rfl Tryd.sizeOf23 rfl rfl F rfl rfl rfl ?_;clear F a;intro a F
     refine sLd Tryd.isAgg23 F rfl rfl rfl (H.arg (hR 4 _ rfl)) ?_;clear F a;intro a F
     refine sMv F rfl rfl rfl ?_;clear F a;intro a F
     refine sIx Tryd.underlying23 Tryd.sizeOf25 F rfl rfl rfl rfl ?_ ?_
     focus (first | omega | decide | (simp; omega))
     clear F a; intro a F
     refine sMv F rfl rfl rfl ?_;clear F a;intro a F
     refine sMv F rfl rfl rfl ?_;clear F a;intro a F
     refine sMv F rfl rfl rfl ?_;clear F a;intro a F
     refine sBin F rfl rfl rfl rfl (bSubN (j := 1) ?_ ?_) ?_
     focus omega
     focus omega
     clear F a; intro a F
     refine sCall Tryd.call35 F rfl rfl rfl (ih (by omega) h b' (off' + j * 5) cs' kid _ (H.argR hR') (CondAt.grown H.grown rfl _ _ _ hC')) ?_
     rintro e w ⟨rfl, hb⟩
     replace H := H.grow hb; clear hb
     refine ⟨_, rfl, ?_⟩
     clear F a; intro a F
     refine sNot F rfl rfl rfl ?_;clear F a;intro a F
     refine sNil ?_
     refine hK35 _ _ ?_; clear hK35
     refine cIf F rfl (fun h139 => ?_) (fun h139 => ?_)
     ·
      replace h139 := notT h139
      refine cSeq (fun K36 hK36 => ?_)
      refine cReg ?_
      refine sAs F rfl rfl rfl ?_;clear F a;intro a F
      refine sNil ?_
      refine hK36 _ _ ?_; clear hK36
      refine wp_ret ?_
      simp only [Exit.inBlock, Exit.then]
      refine bRet Tryd.results35 F rfl ?_
      first
        | exact ⟨retB (by rw [condOk_kids hkk (by rw [← hr, hrt]), ht, all_drop _ hx, h139, Bool.false_and]), H.below⟩
        | exact ⟨retB (by rw [condOk_kids hkk (by rw [← hr, hrt]), ht, List.drop_eq_nil_of_le (by omega)]; rfl), H.below⟩
        | exact ⟨retB (by clear F H hK ih hR; simp_all [condOk, len_beq0, UInt8.lt_iff_toNat_lt, UInt8.le_iff_toNat_le] <;> (intros; omega)), H.below⟩
     replace h139 := notF h139
     refine wp_skip ?_
     refine hK33 _ _ ?_; clear hK33
     refine cReg ?_
     refine sBin F rfl rfl rfl rfl (bAddN (j := 1) ?_) ?_
     focus omega
     clear F a; intro a F
     refine sMv F rfl rfl rfl ?_;clear F a;intro a F
     refine sNil ?_
     exact ⟨kids.length - (j + 1), by omega, _, ⟨j + 1, rfl, rfl, by omega, by rw [ht, all_drop _ hx, h139, Bool.true_and], H⟩, F.to (by repeat (first | exact trivial | refine Le.cons rfl ?_))⟩
    replace h126 := of_decide_eq_false h126
    refine wp_exit ?_
    refine hK29 _ _ ?_; clear hK29
    refine cSeq (fun K37 hK37 => ?_)
    refine cReg ?_
    refine sAs F rfl rfl rfl ?_;clear F a;intro a F
    refine sNil ?_
    refine hK37 _ _ ?_; clear hK37
    refine wp_ret ?_
    refine bRet Tryd.results35 F rfl ?_
    first
      | exact ⟨retB (by rw [condOk_kids hkk (by rw [← hr, hrt]), ht, all_drop _ hx, h139, Bool.false_and]), H.below⟩
      | exact ⟨retB (by rw [condOk_kids hkk (by rw [← hr, hrt]), ht, List.drop_eq_nil_of_le (by omega)]; rfl), H.below⟩
      | exact ⟨retB (by clear F H hK ih hR; simp_all [condOk, len_beq0, UInt8.lt_iff_toNat_lt, UInt8.le_iff_toNat_le] <;> (intros; omega)), H.below⟩
theorem cond_any (threads locs : Int) (h : Nat) (cs : List Value) (c : Cnd) (w0 : World) (hC : CondAt w0 h cs c) :
    Calls Tryd.prog 12 #[.agg cs.toArray, .int .i64 threads, .int .i64 locs] w0 fun e w' => e = .returned (.bool (condOk threads locs 20 c)) ∧ Below w0.heap.size w0 w' := by
  have H := Own.start w0 none
  refine enterF Tryd.func12 rfl Tryd.ntmps12 rfl (fun a F => ?_)
  refine cSeq (fun K1 hK1 => ?_)
  refine cReg ?_
  refine sBx H F rfl rfl rfl ?_
  clear F a H; intro b3 a w F H
  refine sAs F rfl rfl rfl ?_;clear F a;intro a F
  refine sNil ?_
  refine hK1 _ _ ?_; clear hK1
  refine cSeq (fun K2 hK2 => ?_)
  refine cReg ?_
  refine sMv F rfl rfl rfl ?_;clear F a;intro a F
  refine sMv F rfl rfl rfl ?_;clear F a;intro a F
  refine sCall Tryd.call35 F rfl rfl rfl (condRight_any threads locs 20 (by omega) h b3 0 cs c _ (H.whole 0 rfl) (CondAt.grown H.grown rfl _ _ _ hC)) ?_
  rintro e w ⟨rfl, hb⟩
  replace H := H.grow hb; clear hb
  refine ⟨_, rfl, ?_⟩
  clear F a; intro a F
  refine sAs F rfl rfl rfl ?_;clear F a;intro a F
  refine sNil ?_
  refine hK2 _ _ ?_; clear hK2
  refine wp_ret ?_
  refine bRet Tryd.results12 F rfl ?_
  exact ⟨rfl, H.below⟩
end Go.Proofs.YtmfdpnjgljlkbaaDoor

namespace Go.Proofs.YtmfdpnjgljlkbaaDoor
open Go.RowKit

/-- The strings of a slice. -/
def StrsAt (w : World) (A : Option Addr) (l : List ByteArray) : Prop := RowsAt w A 1 (l.map fun s => [.string s])
theorem StrsAt.get {w : World} {A : Option Addr} {l : List ByteArray} (h : StrsAt w A l) {j : Nat} {s : ByteArray} (hj : l[j]? = some s) : ∃ b off, A = some ⟨b, off, none⟩ ∧ w.cell? ⟨b, off + j * 1, none⟩ = some (.string s) := by
  obtain ⟨b, off, h1, h2⟩ := h j [.string s] (by rw [List.getElem?_map, hj]; rfl)
  exact ⟨b, off, h1, by have := h2 0 _ rfl; rwa [Nat.add_zero] at this⟩
/-- The first place, or none. -/
def idxOf (s : ByteArray) : List ByteArray → Nat → Option Nat
  | [], _ => none
  | x :: r, k => if s.toList == x.toList then some k else idxOf s r (k + 1)
theorem idxOf_at {s x : ByteArray} {l : List ByteArray} {j : Nat} (hx : l[j]? = some x) : idxOf s (l.drop j) j = if s.toList == x.toList then some j else idxOf s (l.drop (j + 1)) (j + 1) := by
  obtain ⟨hj, rfl⟩ := List.getElem?_eq_some_iff.1 hx
  rw [List.drop_eq_getElem_cons hj]
  rfl
def idxI (o : Option Nat) : Int := match o with | some k => k | none => -1
theorem index_any (A : Option Addr) (C : Nat) (l : List ByteArray) (s : ByteArray) (w0 : World) (hA : StrsAt w0 A l) (hl : l.length ≤ 9223372036854775807) :
    Calls Tryd.prog 93 #[.slice A l.length C, .string s] w0 fun e w' => e = .returned (.int .i64 (idxI (idxOf s l 0))) ∧ Below w0.heap.size w0 w' := by
  have H := Own.start w0 none
  refine enterF Tryd.func93 rfl Tryd.ntmps93 rfl (fun a F => ?_)
  refine cSeq (fun K1 hK1 => ?_)
  refine cReg ?_
  refine sAs F rfl rfl rfl ?_;clear F a;intro a F
  refine sNil ?_
  refine hK1 _ _ ?_; clear hK1
  refine cSeq (fun K2 hK2 => ?_)
  refine cSeq (fun K3 hK3 => ?_)
  refine cReg ?_
  refine sMv F rfl rfl rfl ?_;clear F a;intro a F
  refine sLen Tryd.underlying33 F rfl rfl rfl ?_;clear F a;intro a F
  refine sMv F rfl rfl rfl ?_;clear F a;intro a F
  refine sNil ?_
  refine hK3 _ _ ?_; clear hK3
  refine wp_block ?_
  refine cLoopR [0, 1, 7] (fun m ups w => ∃ j : Nat, m = l.length - j ∧ ups = [(8, .int .i64 (j : Int))] ∧ j ≤ l.length ∧ idxOf s l 0 = idxOf s (l.drop j) j ∧ Own w0 none w []) F (l.length) [(8, .int .i64 ((0 : Nat) : Int))] (by repeat (first | exact SubR.nil | (apply SubR.cons; · rfl))) ?_ ?_ ?_
  · exact ⟨0, rfl, rfl, Nat.zero_le _, rfl, H⟩
  · repeat (first | exact trivial | refine Le.cons rfl ?_)
  clear F
  clear H
  intro m ups a w hI F
  obtain ⟨j, rfl, rfl, hj, ht, H⟩ := hI
  refine cSeq (fun K4 hK4 => ?_)
  refine cReg ?_
  refine sBin F rfl rfl rfl rfl bLss ?_;clear F a;intro a F
  refine sNil ?_
  refine hK4 _ _ ?_; clear hK4
  refine cSeq (fun K5 hK5 => ?_)
  refine cIf F rfl (fun h9 => ?_) (fun h9 => ?_)
  ·
   replace h9 := of_decide_eq_true h9
   have hjl : j < l.length := by omega
   obtain ⟨x, hx⟩ : ∃ x, l[j]? = some x := ⟨_, List.getElem?_eq_getElem hjl⟩
   obtain ⟨b, off, rfl, hc⟩ := hA.get hx
   refine wp_skip ?_
   refine hK5 _ _ ?_; clear hK5
   refine cSeq (fun K6 hK6 => ?_)
   refine wp_block ?_
   refine cSeq (fun K7 hK7 => ?_)
   refine cReg ?_
   refine sMv F rfl rfl rfl ?_;clear F a;intro a F
   refine sAs F rfl rfl rfl ?_;clear F a;intro a F
   refine sNil ?_
   refine hK7 _ _ ?_; clear hK7
   refine cSeq (fun K8 hK8 => ?_)
   refine cReg ?_
   refine sMv F rfl rfl rfl ?_;clear F a;intro a F
   refine sMv F rfl rfl rfl ?_;clear F a;intro a F
   refine sMv F rfl rfl rfl ?_;clear F a;intro a F
   refine sIx Tryd.underlying33 Tryd.sizeOf9 F rfl rfl rfl rfl ?_ ?_
   focus (first | omega | decide | (simp; omega))
   clear F a; intro a F
   refine sLd Tryd.isAgg9 F rfl rfl rfl (H.arg hc) ?_;clear F a;intro a F
   refine sBin F rfl rfl rfl rfl bStrEq ?_;clear F a;intro a F
   refine sNil ?_
   refine hK8 _ _ ?_; clear hK8
   refine cIf F rfl (fun h16 => ?_) (fun h16 => ?_)
   ·
    replace h16 := beqT h16
    refine cSeq (fun K9 hK9 => ?_)
    refine cReg ?_
    refine sMv F rfl rfl rfl ?_;clear F a;intro a F
    refine sAs F rfl rfl rfl ?_;clear F a;intro a F
    refine sNil ?_
    refine hK9 _ _ ?_; clear hK9
    refine wp_ret ?_
    simp only [Exit.inBlock, Exit.then]
    refine bRet Tryd.results93 F rfl ?_
    first
      | exact ⟨by rw [ht, idxOf_at hx, if_pos (by simpa using h16)]; rfl, H.below⟩
      | exact ⟨by rw [ht, List.drop_eq_nil_of_le (by omega)]; rfl, H.below⟩
   replace h16 := beqF h16
   refine wp_skip ?_
   refine hK6 _ _ ?_; clear hK6
   refine cReg ?_
   refine sBin F rfl rfl rfl rfl (bAddN (j := 1) ?_) ?_
   focus omega
   clear F a; intro a F
   refine sMv F rfl rfl rfl ?_;clear F a;intro a F
   refine sNil ?_
   exact ⟨l.length - (j + 1), by omega, _, ⟨j + 1, rfl, rfl, by omega, by rw [ht, idxOf_at hx, if_neg (by simpa using h16)], H⟩, F.to (by repeat (first | exact trivial | refine Le.cons rfl ?_))⟩
  replace h9 := of_decide_eq_false h9
  refine wp_exit ?_
  refine hK2 _ _ ?_; clear hK2
  refine cSeq (fun K10 hK10 => ?_)
  refine cReg ?_
  refine sAs F rfl rfl rfl ?_;clear F a;intro a F
  refine sNil ?_
  refine hK10 _ _ ?_; clear hK10
  refine wp_ret ?_
  refine bRet Tryd.results93 F rfl ?_
  first
    | exact ⟨by rw [ht, idxOf_at hx, if_pos (by simpa using h16)]; rfl, H.below⟩
    | exact ⟨by rw [ht, List.drop_eq_nil_of_le (by omega)]; rfl, H.below⟩
theorem contains_any (A : Option Addr) (C : Nat) (l : List ByteArray) (s : ByteArray) (w0 : World) (hA : StrsAt w0 A l) (hl : l.length ≤ 9223372036854775807) :
    Calls Tryd.prog 86 #[.slice A l.length C, .string s] w0 fun e w' => e = .returned (.bool (idxOf s l 0).isSome) ∧ Below w0.heap.size w0 w' := by
  have H := Own.start w0 none
  refine enterF Tryd.func86 rfl Tryd.ntmps86 rfl (fun a F => ?_)
  refine cSeq (fun K1 hK1 => ?_)
  refine cReg ?_
  refine sAs F rfl rfl rfl ?_;clear F a;intro a F
  refine sNil ?_
  refine hK1 _ _ ?_; clear hK1
  refine cSeq (fun K2 hK2 => ?_)
  refine cReg ?_
  refine sMv F rfl rfl rfl ?_;clear F a;intro a F
  refine sMv F rfl rfl rfl ?_;clear F a;intro a F
  refine sCall Tryd.call93 F rfl rfl rfl (index_any A C l s _ hA hl) ?_
  rintro e w ⟨rfl, hb⟩
  replace H := H.grow hb; clear hb
  refine ⟨_, rfl, ?_⟩
  clear F a; intro a F
  refine sBin F rfl rfl rfl rfl bGeq ?_;clear F a;intro a F
  refine sAs F rfl rfl rfl ?_;clear F a;intro a F
  refine sNil ?_
  refine hK2 _ _ ?_; clear hK2
  refine wp_ret ?_
  refine bRet Tryd.results86 F rfl ?_
  exact ⟨retB (by cases idxOf s l 0 <;> simp [idxI]), H.below⟩
end Go.Proofs.YtmfdpnjgljlkbaaDoor

namespace Go.Proofs.YtmfdpnjgljlkbaaDoor
open Go.RowKit

/-- A program. -/
structure Prg where
  name : ByteArray
  locs : List ByteArray
  init : List UInt8
  threads : List (List Ins)
  ask : UInt8
  cond : Cnd
/-- The threads of a slice. -/
def ThreadsAt (w : World) (A : Option Addr) (l : List (List Ins)) : Prop := ∀ (j : Nat) (t : List Ins), l[j]? = some t → ∃ b off B C, A = some ⟨b, off, none⟩ ∧ w.cell? ⟨b, off + j * 1, none⟩ = some (.slice B t.length C) ∧ RowsAt w B 10 (t.map Ins.cells) ∧ t.length ≤ 9223372036854775807
/-- The cells are a program's. -/
structure ProgIn (w : World) (cs : List Value) (p : Prg) (LA : Option Addr) (LC : Nat) (IA : Option Addr) (IC : Nat) (TA : Option Addr) (TC h : Nat) (ccs : List Value) : Prop where
  cs : cs = [.string p.name, .slice LA p.locs.length LC, .slice IA p.init.length IC, .slice TA p.threads.length TC, b8 p.ask] ++ ccs
  name : p.name.size ≤ maxLen
  locs : StrsAt w LA p.locs
  locsN : p.locs.length ≤ 9223372036854775807
  locsC : p.locs.length ≤ LC
  locsS : ∀ s ∈ p.locs, s.size ≤ maxLen
  init : RowsAt w IA 1 (p.init.map fun x => [b8 x])
  initN : p.init.length ≤ 9223372036854775807
  threads : ThreadsAt w TA p.threads
  threadsN : p.threads.length ≤ 9223372036854775807
  cond : CondAt w h ccs p.cond
def ProgAt (w : World) (cs : List Value) (p : Prg) : Prop := ∃ LA LC IA IC TA TC h ccs, ProgIn w cs p LA LC IA IC TA TC h ccs
theorem RowsAt.own {w0 w : World} {rs : List Res} {A : Option Addr} {sz : Nat} {rows : List (List Value)} (h : RowsAt w0 A sz rows) (H : Own w0 none w rs) : RowsAt w A sz rows := fun j cs hj => by
  obtain ⟨b, off, h1, h2⟩ := h j cs hj
  exact ⟨b, off, h1, H.argR h2⟩
theorem ThreadsAt.own {w0 w : World} {rs : List Res} {A : Option Addr} {l : List (List Ins)} (h : ThreadsAt w0 A l) (H : Own w0 none w rs) : ThreadsAt w A l := fun j t hj => by
  obtain ⟨b, off, B, C, h1, h2, h3, h4⟩ := h j t hj
  exact ⟨b, off, B, C, h1, H.arg h2, h3.own H, h4⟩
theorem ProgIn.own {w0 w : World} {rs : List Res} {cs : List Value} {p : Prg} {LA IA TA : Option Addr} {LC IC TC h : Nat} {ccs : List Value} (hp : ProgIn w0 cs p LA LC IA IC TA TC h ccs) (H : Own w0 none w rs) : ProgIn w cs p LA LC IA IC TA TC h ccs :=
  ⟨hp.cs, hp.name, RowsAt.own hp.locs H, hp.locsN, hp.locsC, hp.locsS, RowsAt.own hp.init H, hp.initN, hp.threads.own H, hp.threadsN, CondAt.grown H.grown rfl _ _ _ hp.cond⟩
theorem ProgAt.own {w0 w : World} {rs : List Res} {cs : List Value} {p : Prg} (h : ProgAt w0 cs p) (H : Own w0 none w rs) : ProgAt w cs p := by
  obtain ⟨LA, LC, IA, IC, TA, TC, h, ccs, hp⟩ := h
  exact ⟨LA, LC, IA, IC, TA, TC, h, ccs, hp.own H⟩
theorem condAt_len {w : World} : ∀ {h : Nat} {cs : List Value} {c : Cnd}, CondAt w h cs c → cs.length = 5
  | 0, _, _, h => h.elim
  | _ + 1, cs, .mk _ _ _ _ _, h => by obtain ⟨A, C, rfl, _⟩ := h; rfl
theorem len5 : ∀ {l : List Value}, l.length = 5 → ∃ a b c d e, l = [a, b, c, d, e]
  | [a, b, c, d, e], _ => ⟨a, b, c, d, e, rfl⟩
theorem ProgAt.len10 {w : World} {cs : List Value} {p : Prg} (h : ProgAt w cs p) : ∃ d1 d2 d3 d4 d5 d6 d7 d8 d9 d10, cs = [d1, d2, d3, d4, d5, d6, d7, d8, d9, d10] := by
  obtain ⟨LA, LC, IA, IC, TA, TC, h, ccs, hp⟩ := h
  obtain ⟨c1, c2, c3, c4, c5, rfl⟩ := len5 (condAt_len hp.cond)
  have hcs := hp.cs
  subst hcs
  exact ⟨_, _, _, _, _, _, _, _, _, _, rfl⟩
/-- The k-th of a program's demands, but those that read names. -/
def threadsShort (p : Prg) : Bool := decide (1 ≤ p.threads.length) && decide (p.threads.length ≤ 4) && p.threads.all (fun l => decide (l.length ≤ 12))
def threadsOk (p : Prg) : Bool := p.threads.all (threadOk p.locs.length)
def askOk (p : Prg) : Bool := p.ask == 1 || p.ask == 2 || p.ask == 3
end Go.Proofs.YtmfdpnjgljlkbaaDoor

namespace Go.Proofs.YtmfdpnjgljlkbaaDoor
open Go.RowKit

/-- The program's variable: block V points at block B, which holds the program. -/
structure PvAt (w : World) (V B : Nat) (cs : List Value) (p : Prg) : Prop where
  var : w.rangeAt V 0 [.pointer (some ⟨B, 0, none⟩)]
  blk : w.rangeAt B 0 cs
  prg : ProgAt w cs p
theorem PvAt.own {w0 w : World} {rs : List Res} {V B : Nat} {cs : List Value} {p : Prg} (h : PvAt w0 V B cs p) (H : Own w0 none w rs) : PvAt w V B cs p := ⟨H.argR h.var, H.argR h.blk, h.prg.own H⟩
/-- What a test of a thread answers. -/
def TestF (P : Program) (f : List Ins → Bool) (fv : Value) (w0 : World) : Prop := ∀ (w : World) (rs : List Res) (A : Option Addr) (C : Nat) (l : List Ins), Own w0 none w rs → RowsAt w A 10 (l.map Ins.cells) → l.length ≤ 9223372036854775807 →
  CallsF P fv [.slice A l.length C] w (fun e w' => e = .returned (.bool (f l)) ∧ Below w.heap.size w w')
theorem every_any (f : List Ins → Bool) (fv : Value) (V B : Nat) (cs : List Value) (p : Prg) (w0 : World) (hP : PvAt w0 V B cs p) (hf : TestF Tryd.prog f fv w0) :
    Calls Tryd.prog 68 #[fv, .pointer (some ⟨V, 0, none⟩)] w0 fun e w' => e = .returned (.bool (p.threads.all f)) ∧ Below w0.heap.size w0 w' := by
  obtain ⟨hV, hB, LA, LC, IA, IC, TA, TC, h, ccs, hp⟩ := hP
  have hcs := hp.cs
  subst hcs
  have H := Own.start w0 none
  have hn := hp.threadsN
  refine enterF Tryd.func68 rfl Tryd.ntmps68 rfl (fun a F => ?_)
  refine cSeq (fun K1 hK1 => ?_)
  refine cReg ?_
  refine sAs F rfl rfl rfl ?_;clear F a;intro a F
  refine sNil ?_
  refine hK1 _ _ ?_; clear hK1
  refine cSeq (fun K2 hK2 => ?_)
  refine cSeq (fun K3 hK3 => ?_)
  refine cReg ?_
  refine sLd Tryd.isAgg86 F rfl rfl rfl (H.arg (hV 0 _ rfl)) ?_;clear F a;intro a F
  refine sNc F rfl rfl rfl ?_;clear F a;intro a F
  refine sFa (f := 3) (k := 3) Tryd.underlying37 rfl Tryd.sizeOf35 rfl rfl F rfl rfl rfl ?_;clear F a;intro a F
  refine sLd Tryd.isAgg35 F rfl rfl rfl (H.arg (hB 3 _ rfl)) ?_;clear F a;intro a F
  refine sLen Tryd.underlying35 F rfl rfl rfl ?_;clear F a;intro a F
  refine sMv F rfl rfl rfl ?_;clear F a;intro a F
  refine sNil ?_
  refine hK3 _ _ ?_; clear hK3
  refine wp_block ?_
  refine cLoopR [0, 9, 10] (fun m ups w => ∃ j : Nat, m = p.threads.length - j ∧ ups = [(11, .int .i64 (j : Int))] ∧ j ≤ p.threads.length ∧ p.threads.all f = (p.threads.drop j).all f ∧ Own w0 none w []) F (p.threads.length) [(11, .int .i64 ((0 : Nat) : Int))] (by repeat (first | exact SubR.nil | (apply SubR.cons; · rfl))) ?_ ?_ ?_
  · exact ⟨0, rfl, rfl, Nat.zero_le _, rfl, H⟩
  · repeat (first | exact trivial | refine Le.cons rfl ?_)
  clear F
  clear H
  intro m ups a w hI F
  obtain ⟨j, rfl, rfl, hj, ht, H⟩ := hI
  refine cSeq (fun K4 hK4 => ?_)
  refine cReg ?_
  refine sBin F rfl rfl rfl rfl bLss ?_;clear F a;intro a F
  refine sNil ?_
  refine hK4 _ _ ?_; clear hK4
  refine cSeq (fun K5 hK5 => ?_)
  refine cIf F rfl (fun h12 => ?_) (fun h12 => ?_)
  ·
   replace h12 := of_decide_eq_true h12
   have hjl : j < p.threads.length := by omega
   obtain ⟨t, hx⟩ : ∃ x, p.threads[j]? = some x := ⟨_, List.getElem?_eq_getElem hjl⟩
   obtain ⟨b, off, tA, tC, rfl, hc, hR, hl⟩ := hp.threads j t hx
   refine wp_skip ?_
   refine hK5 _ _ ?_; clear hK5
   refine cSeq (fun K6 hK6 => ?_)
   refine wp_block ?_
   refine cSeq (fun K7 hK7 => ?_)
   refine cReg ?_
   refine sIx Tryd.underlying35 Tryd.sizeOf22 F rfl rfl rfl rfl ?_ ?_
   focus (first | omega | decide | (simp; omega))
   clear F a; intro a F
   refine sLd Tryd.isAgg22 F rfl rfl rfl (H.arg hc) ?_;clear F a;intro a F
   refine sAs F rfl rfl rfl ?_;clear F a;intro a F
   refine sNil ?_
   refine hK7 _ _ ?_; clear hK7
   refine cSeq (fun K8 hK8 => ?_)
   refine cReg ?_
   refine sMv F rfl rfl rfl ?_;clear F a;intro a F
   refine sMv F rfl rfl rfl ?_;clear F a;intro a F
   refine sCallV F rfl rfl rfl rfl (hf _ _ tA tC t H (RowsAt.own hR H) hl) ?_
   rintro e w ⟨rfl, hb⟩
   replace H := H.grow hb; clear hb
   refine ⟨_, rfl, ?_⟩
   clear F a; intro a F
   refine sNot F rfl rfl rfl ?_;clear F a;intro a F
   refine sNil ?_
   refine hK8 _ _ ?_; clear hK8
   refine cIf F rfl (fun h18 => ?_) (fun h18 => ?_)
   ·
    replace h18 := notT h18
    refine cSeq (fun K9 hK9 => ?_)
    refine cReg ?_
    refine sAs F rfl rfl rfl ?_;clear F a;intro a F
    refine sNil ?_
    refine hK9 _ _ ?_; clear hK9
    refine wp_ret ?_
    simp only [Exit.inBlock, Exit.then]
    refine bRet Tryd.results68 F rfl ?_
    first
      | exact ⟨retB (by rw [ht, all_drop _ hx, h18, Bool.false_and]), H.below⟩
      | exact ⟨retB (by rw [ht, List.drop_eq_nil_of_le (by omega)]; rfl), H.below⟩
   replace h18 := notF h18
   refine wp_skip ?_
   refine hK6 _ _ ?_; clear hK6
   refine cReg ?_
   refine sBin F rfl rfl rfl rfl (bAddN (j := 1) ?_) ?_
   focus omega
   clear F a; intro a F
   refine sMv F rfl rfl rfl ?_;clear F a;intro a F
   refine sNil ?_
   exact ⟨p.threads.length - (j + 1), by omega, _, ⟨j + 1, rfl, rfl, by omega, by rw [ht, all_drop _ hx, h18, Bool.true_and], H⟩, F.to (by repeat (first | exact trivial | refine Le.cons rfl ?_))⟩
  replace h12 := of_decide_eq_false h12
  refine wp_exit ?_
  refine hK2 _ _ ?_; clear hK2
  refine cSeq (fun K10 hK10 => ?_)
  refine cReg ?_
  refine sAs F rfl rfl rfl ?_;clear F a;intro a F
  refine sNil ?_
  refine hK10 _ _ ?_; clear hK10
  refine wp_ret ?_
  refine bRet Tryd.results68 F rfl ?_
  first
    | exact ⟨retB (by rw [ht, all_drop _ hx, h18, Bool.false_and]), H.below⟩
    | exact ⟨retB (by rw [ht, List.drop_eq_nil_of_le (by omega)]; rfl), H.below⟩
theorem short_any (w0 : World) : TestF Tryd.prog (fun l => decide (l.length ≤ 12)) (.func (.func 74) #[] #[]) w0 := by
  intro w0 _ A C l _ _ hl
  refine ⟨_, [], [], rfl, Tryd.call74, ?_⟩
  have H := Own.start w0 none
  refine enterF Tryd.func74 rfl Tryd.ntmps74 rfl (fun a F => ?_)
  refine cSeq (fun K1 hK1 => ?_)
  refine cReg ?_
  refine sAs F rfl rfl rfl ?_;clear F a;intro a F
  refine sNil ?_
  refine hK1 _ _ ?_; clear hK1
  refine cSeq (fun K2 hK2 => ?_)
  refine cReg ?_
  refine sMv F rfl rfl rfl ?_;clear F a;intro a F
  refine sLen Tryd.underlying22 F rfl rfl rfl ?_;clear F a;intro a F
  refine sBin F rfl rfl rfl rfl bLeq ?_;clear F a;intro a F
  refine sAs F rfl rfl rfl ?_;clear F a;intro a F
  refine sNil ?_
  refine hK2 _ _ ?_; clear hK2
  refine wp_ret ?_
  refine bRet Tryd.results74 F rfl ?_
  exact ⟨retB (by rw [Bool.eq_iff_iff]; simp; omega), H.below⟩
theorem right_any (V B : Nat) (cs : List Value) (p : Prg) (w0 : World) (hP : PvAt w0 V B cs p) (hN : NeedsAt w0) : TestF Tryd.prog (threadOk p.locs.length) (.func (.func 76) #[] #[.pointer (some ⟨V, 0, none⟩)]) w0 := by
  intro w0' _ A C l H0 hR hl
  refine ⟨_, [], [.pointer (some ⟨V, 0, none⟩)], rfl, Tryd.call76, ?_⟩
  replace hP := hP.own H0
  replace hN := hN.own H0
  clear H0 w0
  obtain ⟨w0, rfl⟩ : ∃ w0, w0 = w0' := ⟨_, rfl⟩
  obtain ⟨hV, hB, LA, LC, IA, IC, TA, TC, h, ccs, hp⟩ := hP
  have hcs := hp.cs
  subst hcs
  have H := Own.start w0 none
  refine enterF Tryd.func76 rfl Tryd.ntmps76 rfl (fun a F => ?_)
  refine cSeq (fun K1 hK1 => ?_)
  refine cReg ?_
  refine sAs F rfl rfl rfl ?_;clear F a;intro a F
  refine sNil ?_
  refine hK1 _ _ ?_; clear hK1
  refine cSeq (fun K2 hK2 => ?_)
  refine cReg ?_
  refine sMv F rfl rfl rfl ?_;clear F a;intro a F
  refine sLd Tryd.isAgg86 F rfl rfl rfl (H.arg (hV 0 _ rfl)) ?_;clear F a;intro a F
  refine sNc F rfl rfl rfl ?_;clear F a;intro a F
  refine sFa (f := 1) (k := 1) Tryd.underlying37 rfl Tryd.sizeOf33 rfl rfl F rfl rfl rfl ?_;clear F a;intro a F
  refine sLd Tryd.isAgg33 F rfl rfl rfl (H.arg (hB 1 _ rfl)) ?_;clear F a;intro a F
  refine sLen Tryd.underlying33 F rfl rfl rfl ?_;clear F a;intro a F
  refine sCall Tryd.call10 F rfl rfl rfl (thread_any A C l p.locs.length _ (RowsAt.own hR H) (hN.own H) hl) ?_
  rintro e w ⟨rfl, hb⟩
  replace H := H.grow hb; clear hb
  refine ⟨_, rfl, ?_⟩
  clear F a; intro a F
  refine sAs F rfl rfl rfl ?_;clear F a;intro a F
  refine sNil ?_
  refine hK2 _ _ ?_; clear hK2
  refine wp_ret ?_
  refine bRet Tryd.results76 F rfl ?_
  exact ⟨rfl, H.below⟩
theorem demand4_any (E V B : Nat) (cs : List Value) (p : Prg) (w0 : World) (hP : PvAt w0 V B cs p) (hE : w0.rangeAt E 0 [.func (.func 68) #[] #[.pointer (some ⟨V, 0, none⟩)]]) :
    Calls Tryd.prog 73 #[.pointer (some ⟨V, 0, none⟩), .pointer (some ⟨E, 0, none⟩)] w0 fun e w' => e = .returned (.bool (threadsShort p)) ∧ Below w0.heap.size w0 w' := by
  have hP0 := hP
  obtain ⟨hV, hB, LA, LC, IA, IC, TA, TC, h, ccs, hp⟩ := hP
  have hcs := hp.cs
  subst hcs
  have H := Own.start w0 none
  refine enterF Tryd.func73 rfl Tryd.ntmps73 rfl (fun a F => ?_)
  refine cSeq (fun K1 hK1 => ?_)
  refine cReg ?_
  refine sAs F rfl rfl rfl ?_;clear F a;intro a F
  refine sNil ?_
  refine hK1 _ _ ?_; clear hK1
  refine cSeq (fun K2 hK2 => ?_)
  refine cReg ?_
  refine sLd Tryd.isAgg86 F rfl rfl rfl (H.arg (hV 0 _ rfl)) ?_;clear F a;intro a F
  refine sNc F rfl rfl rfl ?_;clear F a;intro a F
  refine sFa (f := 3) (k := 3) Tryd.underlying37 rfl Tryd.sizeOf35 rfl rfl F rfl rfl rfl ?_;clear F a;intro a F
  refine sLd Tryd.isAgg35 F rfl rfl rfl (H.arg (hB 3 _ rfl)) ?_;clear F a;intro a F
  refine sLen Tryd.underlying35 F rfl rfl rfl ?_;clear F a;intro a F
  refine sBin F rfl rfl rfl rfl bGeq ?_;clear F a;intro a F
  refine sMv F rfl rfl rfl ?_;clear F a;intro a F
  refine F.split 9 rfl ?_ ?_ <;> (clear F; intro h9 F)
  ·
   replace h9 := of_decide_eq_true h9
   refine sLd Tryd.isAgg86 F rfl rfl rfl (H.arg (hV 0 _ rfl)) ?_;clear F a;intro a F
   refine sNc F rfl rfl rfl ?_;clear F a;intro a F
   refine sFa (f := 3) (k := 3) Tryd.underlying37 rfl Tryd.sizeOf35 rfl rfl F rfl rfl rfl ?_;clear F a;intro a F
   refine sLd Tryd.isAgg35 F rfl rfl rfl (H.arg (hB 3 _ rfl)) ?_;clear F a;intro a F
   refine sLen Tryd.underlying35 F rfl rfl rfl ?_;clear F a;intro a F
   refine sBin F rfl rfl rfl rfl bLeq ?_;clear F a;intro a F
   refine sPk F rfl rfl rfl rfl ?_;clear F a;intro a F
   refine sMv F rfl rfl rfl ?_;clear F a;intro a F
   refine F.split 17 rfl ?_ ?_ <;> (clear F; intro h17 F)
   ·
    replace h17 := of_decide_eq_true h17
    refine sLd Tryd.isAgg106 F rfl rfl rfl (H.arg (hE 0 _ rfl)) ?_;clear F a;intro a F
    refine sCallF F rfl rfl rfl Tryd.call68 rfl (every_any _ _ V B _ p _ (hP0.own H) (short_any _)) ?_
    rintro e w ⟨rfl, hb⟩
    replace H := H.grow hb; clear hb
    refine ⟨_, rfl, ?_⟩
    clear F a; intro a F
    refine sPk F rfl rfl rfl rfl ?_;clear F a;intro a F
    refine sAs F rfl rfl rfl ?_;clear F a;intro a F
    refine sNil ?_
    refine hK2 _ _ ?_; clear hK2
    refine wp_ret ?_
    refine bRet Tryd.results73 F rfl ?_
    exact ⟨retB (by clear F hP0 hB; simp_all [threadsShort] <;> (intros; omega)), H.below⟩
   replace h17 := of_decide_eq_false h17
   refine sSk F rfl rfl ?_;clear F a;intro a F
   refine sSk F rfl rfl ?_;clear F a;intro a F
   refine sPk F rfl rfl rfl rfl ?_;clear F a;intro a F
   refine sAs F rfl rfl rfl ?_;clear F a;intro a F
   refine sNil ?_
   refine hK2 _ _ ?_; clear hK2
   refine wp_ret ?_
   refine bRet Tryd.results73 F rfl ?_
   exact ⟨retB (by clear F hP0 hB; simp_all [threadsShort] <;> (intros; omega)), H.below⟩
  replace h9 := of_decide_eq_false h9
  refine sSk F rfl rfl ?_;clear F a;intro a F
  refine sSk F rfl rfl ?_;clear F a;intro a F
  refine sSk F rfl rfl ?_;clear F a;intro a F
  refine sSk F rfl rfl ?_;clear F a;intro a F
  refine sSk F rfl rfl ?_;clear F a;intro a F
  refine sSk F rfl rfl ?_;clear F a;intro a F
  refine sPk F rfl rfl rfl rfl ?_;clear F a;intro a F
  refine sMv F rfl rfl rfl ?_;clear F a;intro a F
  refine sSk F rfl rfl ?_;clear F a;intro a F
  refine sSk F rfl rfl ?_;clear F a;intro a F
  refine sPk F rfl rfl rfl rfl ?_;clear F a;intro a F
  refine sAs F rfl rfl rfl ?_;clear F a;intro a F
  refine sNil ?_
  refine hK2 _ _ ?_; clear hK2
  refine wp_ret ?_
  refine bRet Tryd.results73 F rfl ?_
  exact ⟨retB (by clear F hP0 hB; simp_all [threadsShort] <;> (intros; omega)), H.below⟩
theorem demand5_any (E V B : Nat) (cs : List Value) (p : Prg) (w0 : World) (hP : PvAt w0 V B cs p) (hN : NeedsAt w0) (hE : w0.rangeAt E 0 [.func (.func 68) #[] #[.pointer (some ⟨V, 0, none⟩)]]) :
    Calls Tryd.prog 75 #[.pointer (some ⟨E, 0, none⟩), .pointer (some ⟨V, 0, none⟩)] w0 fun e w' => e = .returned (.bool (threadsOk p)) ∧ Below w0.heap.size w0 w' := by
  have H := Own.start w0 none
  refine enterF Tryd.func75 rfl Tryd.ntmps75 rfl (fun a F => ?_)
  refine cSeq (fun K1 hK1 => ?_)
  refine cReg ?_
  refine sAs F rfl rfl rfl ?_;clear F a;intro a F
  refine sNil ?_
  refine hK1 _ _ ?_; clear hK1
  refine cSeq (fun K2 hK2 => ?_)
  refine cReg ?_
  refine sLd Tryd.isAgg106 F rfl rfl rfl (H.arg (hE 0 _ rfl)) ?_;clear F a;intro a F
  refine sFn F rfl rfl rfl rfl ?_;clear F a;intro a F
  refine sCallF F rfl rfl rfl Tryd.call68 rfl (every_any _ _ V B _ p _ (hP.own H) (right_any V B cs p _ (hP.own H) (hN.own H))) ?_
  rintro e w ⟨rfl, hb⟩
  replace H := H.grow hb; clear hb
  refine ⟨_, rfl, ?_⟩
  clear F a; intro a F
  refine sAs F rfl rfl rfl ?_;clear F a;intro a F
  refine sNil ?_
  refine hK2 _ _ ?_; clear hK2
  refine wp_ret ?_
  refine bRet Tryd.results75 F rfl ?_
  exact ⟨rfl, H.below⟩
theorem demand6_any (V B : Nat) (cs : List Value) (p : Prg) (w0 : World) (hP : PvAt w0 V B cs p) :
    Calls Tryd.prog 77 #[.pointer (some ⟨V, 0, none⟩)] w0 fun e w' => e = .returned (.bool (askOk p)) ∧ Below w0.heap.size w0 w' := by
  obtain ⟨hV, hB, LA, LC, IA, IC, TA, TC, h, ccs, hp⟩ := hP
  have hcs := hp.cs
  subst hcs
  have H := Own.start w0 none
  refine enterF Tryd.func77 rfl Tryd.ntmps77 rfl (fun a F => ?_)
  refine cSeq (fun K1 hK1 => ?_)
  refine cReg ?_
  refine sAs F rfl rfl rfl ?_;clear F a;intro a F
  refine sNil ?_
  refine hK1 _ _ ?_; clear hK1
  refine cSeq (fun K2 hK2 => ?_)
  refine cReg ?_
  refine sLd Tryd.isAgg86 F rfl rfl rfl (H.arg (hV 0 _ rfl)) ?_;clear F a;intro a F
  refine sNc F rfl rfl rfl ?_;clear F a;intro a F
  refine sFa (f := 4) (k := 4) Tryd.underlying37 rfl Tryd.sizeOf5 rfl rfl F rfl rfl rfl ?_;clear F a;intro a F
  refine sLd Tryd.isAgg5 F rfl rfl rfl (H.arg (hB 4 _ rfl)) ?_;clear F a;intro a F
  refine sBin F rfl rfl rfl rfl (bEqlB (y := 1)) ?_;clear F a;intro a F
  refine sMv F rfl rfl rfl ?_;clear F a;intro a F
  refine F.split 7 rfl ?_ ?_ <;> (clear F; intro h7 F)
  ·
   replace h7 := beqT h7
   refine sSk F rfl rfl ?_;clear F a;intro a F
   refine sSk F rfl rfl ?_;clear F a;intro a F
   refine sSk F rfl rfl ?_;clear F a;intro a F
   refine sSk F rfl rfl ?_;clear F a;intro a F
   refine sSk F rfl rfl ?_;clear F a;intro a F
   refine sPk F rfl rfl rfl rfl ?_;clear F a;intro a F
   refine sMv F rfl rfl rfl ?_;clear F a;intro a F
   refine sSk F rfl rfl ?_;clear F a;intro a F
   refine sSk F rfl rfl ?_;clear F a;intro a F
   refine sSk F rfl rfl ?_;clear F a;intro a F
   refine sSk F rfl rfl ?_;clear F a;intro a F
   refine sSk F rfl rfl ?_;clear F a;intro a F
   refine sPk F rfl rfl rfl rfl ?_;clear F a;intro a F
   refine sAs F rfl rfl rfl ?_;clear F a;intro a F
   refine sNil ?_
   refine hK2 _ _ ?_; clear hK2
   refine wp_ret ?_
   refine bRet Tryd.results77 F rfl ?_
   exact ⟨retB (by clear F hB; simp_all [askOk]), H.below⟩
  replace h7 := beqF h7
  refine sLd Tryd.isAgg86 F rfl rfl rfl (H.arg (hV 0 _ rfl)) ?_;clear F a;intro a F
  refine sNc F rfl rfl rfl ?_;clear F a;intro a F
  refine sFa (f := 4) (k := 4) Tryd.underlying37 rfl Tryd.sizeOf5 rfl rfl F rfl rfl rfl ?_;clear F a;intro a F
  refine sLd Tryd.isAgg5 F rfl rfl rfl (H.arg (hB 4 _ rfl)) ?_;clear F a;intro a F
  refine sBin F rfl rfl rfl rfl (bEqlB (y := 2)) ?_;clear F a;intro a F
  refine sPk F rfl rfl rfl rfl ?_;clear F a;intro a F
  refine sMv F rfl rfl rfl ?_;clear F a;intro a F
  refine F.split 14 rfl ?_ ?_ <;> (clear F; intro h14 F)
  ·
   replace h14 := beqT h14
   refine sSk F rfl rfl ?_;clear F a;intro a F
   refine sSk F rfl rfl ?_;clear F a;intro a F
   refine sSk F rfl rfl ?_;clear F a;intro a F
   refine sSk F rfl rfl ?_;clear F a;intro a F
   refine sSk F rfl rfl ?_;clear F a;intro a F
   refine sPk F rfl rfl rfl rfl ?_;clear F a;intro a F
   refine sAs F rfl rfl rfl ?_;clear F a;intro a F
   refine sNil ?_
   refine hK2 _ _ ?_; clear hK2
   refine wp_ret ?_
   refine bRet Tryd.results77 F rfl ?_
   exact ⟨retB (by clear F hB; simp_all [askOk]), H.below⟩
  replace h14 := beqF h14
  refine sLd Tryd.isAgg86 F rfl rfl rfl (H.arg (hV 0 _ rfl)) ?_;clear F a;intro a F
  refine sNc F rfl rfl rfl ?_;clear F a;intro a F
  refine sFa (f := 4) (k := 4) Tryd.underlying37 rfl Tryd.sizeOf5 rfl rfl F rfl rfl rfl ?_;clear F a;intro a F
  refine sLd Tryd.isAgg5 F rfl rfl rfl (H.arg (hB 4 _ rfl)) ?_;clear F a;intro a F
  refine sBin F rfl rfl rfl rfl (bEqlB (y := 3)) ?_;clear F a;intro a F
  refine sPk F rfl rfl rfl rfl ?_;clear F a;intro a F
  refine sAs F rfl rfl rfl ?_;clear F a;intro a F
  refine sNil ?_
  refine hK2 _ _ ?_; clear hK2
  refine wp_ret ?_
  refine bRet Tryd.results77 F rfl ?_
  exact ⟨retB (by clear F hB; simp_all [askOk]), H.below⟩
set_option maxRecDepth 10000 in
theorem demand7_any (V B : Nat) (cs : List Value) (p : Prg) (w0 : World) (hP : PvAt w0 V B cs p) :
    Calls Tryd.prog 78 #[.pointer (some ⟨V, 0, none⟩)] w0 fun e w' => e = .returned (.bool (condOk p.threads.length p.locs.length 20 p.cond)) ∧ Below w0.heap.size w0 w' := by
  obtain ⟨hV, hB, LA, LC, IA, IC, TA, TC, h, ccs, hp⟩ := hP
  have hcs := hp.cs
  subst hcs
  obtain ⟨c0, c1, c2, c3, c4, rfl⟩ := len5 (condAt_len hp.cond)
  have H := Own.start w0 none
  refine enterF Tryd.func78 rfl Tryd.ntmps78 rfl (fun a F => ?_)
  refine cSeq (fun K1 hK1 => ?_)
  refine cReg ?_
  refine sAs F rfl rfl rfl ?_;clear F a;intro a F
  refine sNil ?_
  refine hK1 _ _ ?_; clear hK1
  refine cSeq (fun K2 hK2 => ?_)
  refine cRegDO (by kernel_rfl) H ?_
  replace H := H.drew
  refine dTake (k := 0) (by kernel_rfl) (by kernel_rfl) F rfl rfl rfl (fun w H => rLd Tryd.isAgg86 F rfl (H.arg (hV 0 _ rfl))) H (fun _ _ _ h => h) ?_;clear F a;intro a F
  refine dTake (k := 1) (by kernel_rfl) (by kernel_rfl) F rfl rfl rfl (fun w H => rNc F rfl) H (fun _ _ _ h => h) ?_;clear F a;intro a F
  refine dTake (k := 2) (by kernel_rfl) (by kernel_rfl) F rfl rfl rfl (fun w H => rFa (f := 5) (k := 5) Tryd.underlying37 rfl Tryd.sizeOf25 rfl rfl F rfl) H (fun _ _ _ h => h) ?_;clear F a;intro a F
  refine dTake (k := 3) (by kernel_rfl) (by kernel_rfl) F rfl rfl rfl (fun w H => rLr Tryd.underlying25 rfl ?si F rfl (H.argR (subR hB 5 5))) H (fun _ _ _ h => h) ?_
  case si => exact info_size Tryd.sizeOf25
  clear F a; intro a F
  refine dTake (k := 4) (by kernel_rfl) (by kernel_rfl) F rfl rfl rfl (fun w H => rLd Tryd.isAgg86 F rfl (H.arg (hV 0 _ rfl))) H (fun _ _ _ h => h) ?_;clear F a;intro a F
  refine dTake (k := 5) (by kernel_rfl) (by kernel_rfl) F rfl rfl rfl (fun w H => rNc F rfl) H (fun _ _ _ h => h) ?_;clear F a;intro a F
  refine dTake (k := 6) (by kernel_rfl) (by kernel_rfl) F rfl rfl rfl (fun w H => rFa (f := 3) (k := 3) Tryd.underlying37 rfl Tryd.sizeOf35 rfl rfl F rfl) H (fun _ _ _ h => h) ?_;clear F a;intro a F
  refine dTake (k := 7) (by kernel_rfl) (by kernel_rfl) F rfl rfl rfl (fun w H => rLd Tryd.isAgg35 F rfl (H.arg (hB 3 _ rfl))) H (fun _ _ _ h => h) ?_;clear F a;intro a F
  refine dTake (k := 8) (by kernel_rfl) (by kernel_rfl) F rfl rfl rfl (fun w H => rLen Tryd.underlying35 F rfl) H (fun _ _ _ h => h) ?_;clear F a;intro a F
  refine dTake (k := 9) (by kernel_rfl) (by kernel_rfl) F rfl rfl rfl (fun w H => rLd Tryd.isAgg86 F rfl (H.arg (hV 0 _ rfl))) H (fun _ _ _ h => h) ?_;clear F a;intro a F
  refine dTake (k := 10) (by kernel_rfl) (by kernel_rfl) F rfl rfl rfl (fun w H => rNc F rfl) H (fun _ _ _ h => h) ?_;clear F a;intro a F
  refine dTake (k := 11) (by kernel_rfl) (by kernel_rfl) F rfl rfl rfl (fun w H => rFa (f := 1) (k := 1) Tryd.underlying37 rfl Tryd.sizeOf33 rfl rfl F rfl) H (fun _ _ _ h => h) ?_;clear F a;intro a F
  refine dTake (k := 12) (by kernel_rfl) (by kernel_rfl) F rfl rfl rfl (fun w H => rLd Tryd.isAgg33 F rfl (H.arg (hB 1 _ rfl))) H (fun _ _ _ h => h) ?_;clear F a;intro a F
  refine dTake (k := 13) (by kernel_rfl) (by kernel_rfl) F rfl rfl rfl (fun w H => rLen Tryd.underlying33 F rfl) H (fun _ _ _ h => h) ?_;clear F a;intro a F
  refine dOne (k := 14) (by kernel_rfl) F rfl (oCall Tryd.call12 F rfl rfl (cond_any _ _ h [c0, c1, c2, c3, c4] p.cond _ (CondAt.grown H.grown rfl _ _ _ hp.cond)) ?_)
  rintro e w ⟨rfl, hb⟩
  replace H := H.grow hb; clear hb
  refine ⟨_, rfl, ?_⟩
  clear F a; intro a F
  refine dPartO (j := 14) rfl (by kernel_rfl) (by kernel_rfl) H ?_
  refine dTake (k := 15) (by kernel_rfl) (by kernel_rfl) F rfl rfl rfl (fun w H => rAs F rfl) H (fun _ _ _ h => h) ?_;clear F a;intro a F
  refine dNil (k := 16) ?_ rfl
  refine hK2 _ _ ?_; clear hK2
  refine wp_ret ?_
  refine bRet Tryd.results78 F rfl ?_
  exact ⟨rfl, H.below⟩
end Go.Proofs.YtmfdpnjgljlkbaaDoor
