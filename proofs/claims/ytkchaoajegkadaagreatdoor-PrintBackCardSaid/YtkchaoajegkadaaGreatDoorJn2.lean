/-
  Plain Lean: instructions, and when an instruction and a thread are valid. Nothing of the program. Conditions: none.
 
  Package check: argRight, has, needed, modeRight, fnRight. Conditions: the spot lies in memory; block 0 holds the table of needs.
 
  Package check: needed, modeRight, fnRight, conditions. Conditions: the spot lies in memory; block 0 holds the table of needs.
 
  Package check: the conditions of an instruction, as closures. Conditions: the spot lies in memory; block 0 holds the table of needs.
 
  Package check: Thread. Conditions: the slice holds instructions; block 0 holds the table of needs.
 
  Plain Lean: conditions and when one is valid; how one lies in memory. Conditions: none.
 
  Package check: condRight, Cond. Conditions: the condition lies in memory.
 
  slices.Index and slices.Contains of strings. Conditions: the slice holds the strings.
 
  Plain Lean: programs, and how one lies in memory. Conditions: none.
 
  Package check: the demands on a program that read no names. Conditions: the program lies in memory; block 0 holds the table of needs.
-/
import Derived.Test.YtkchaoajegkadaaGreatDoorVcK
import Derived.Test.YtkchaoajegkadaaGreatDoorLexK
import Derived.Test.YtkchaoajegkadaaGreatDoorJn1
set_option linter.unusedSimpArgs false
set_option linter.unusedVariables false
namespace Go.Proofs.YtkchaoajegkadaaGreatDoor
-- CkK
open Go.Proofs.Tryz

structure Ins where
  op : UInt8
  dst : UInt8
  loc : UInt8
  aR : Bool
  aN : UInt8
  bR : Bool
  bN : UInt8
  fn : UInt8
  mode : UInt8
  skip : UInt8
deriving DecidableEq
def Ins.cells (x : Ins) : List Value := [b8 x.op, b8 x.dst, b8 x.loc, .bool x.aR, b8 x.aN, .bool x.bR, b8 x.bN, b8 x.fn, b8 x.mode, b8 x.skip]
def needOf (op : UInt8) : UInt8 := if op = 1 then 35 else if op = 2 then 38 else if op = 3 then 29 else if op = 4 then 7 else if op = 5 then 7 else if op = 6 then 15 else if op = 7 then 32 else if op = 8 then 92 else 0
def hasB (op f : UInt8) : Bool := (needOf op &&& f) != 0
def Ins.needed (x : Ins) : Ins where
  op := x.op
  dst := bif hasB x.op 1 then x.dst else 0
  loc := bif hasB x.op 2 then x.loc else 0
  aR := bif hasB x.op 4 then x.aR else false
  aN := bif hasB x.op 4 then x.aN else 0
  bR := bif hasB x.op 8 then x.bR else false
  bN := bif hasB x.op 8 then x.bN else 0
  fn := bif hasB x.op 16 then x.fn else 0
  mode := bif hasB x.op 32 then x.mode else 0
  skip := bif hasB x.op 64 then x.skip else 0
end Go.Proofs.YtkchaoajegkadaaGreatDoor

namespace Go.Proofs.YtkchaoajegkadaaGreatDoor
open Go.Proofs.Tryz
open Go.RowKit

theorem retB {a b : Bool} (h : a = b) : (Ending.returned (.bool a) : Ending) = .returned (.bool b) := by rw [h]
def NeedsAt (w : World) : Prop := ∀ i : UInt8, i < 9 → w.cell? ⟨0, i.toNat, none⟩ = some (b8 (needOf i))
theorem NeedsAt.at {w : World} (h : NeedsAt w) (op : UInt8) (ho : op < 9) : w.cell? ⟨0, 0 + op.toNat * 1, none⟩ = some (b8 (needOf op)) := by
  rw [Nat.zero_add, Nat.mul_one]; exact h op ho

end Go.Proofs.YtkchaoajegkadaaGreatDoor

namespace Go.Proofs.YtkchaoajegkadaaGreatDoor
open Go.Proofs.Tryz
open Go.RowKit

end Go.Proofs.YtkchaoajegkadaaGreatDoor

namespace Go.Proofs.YtkchaoajegkadaaGreatDoor
open Go.Proofs.Tryz
open Go.RowKit

end Go.Proofs.YtkchaoajegkadaaGreatDoor

namespace Go.Proofs.YtkchaoajegkadaaGreatDoor
open Go.Proofs.Tryz
open Go.RowKit

theorem NeedsAt.own {w0 w : World} {rs : List Res} (hN : NeedsAt w0) (H : Own w0 none w rs) : NeedsAt w := fun i hi => H.arg (hN i hi)

end Go.Proofs.YtkchaoajegkadaaGreatDoor

namespace Go.Proofs.YtkchaoajegkadaaGreatDoor
open Go.Proofs.Tryz
open Go.RowKit

inductive Cnd where
  | mk (kind thread n val : UInt8) (kids : List Cnd)
def Cnd.kids : Cnd → List Cnd | .mk _ _ _ _ l => l
def CondAt (w : World) : Nat → List Value → Cnd → Prop
  | 0, _, _ => False
  | h + 1, cs, .mk k t n v kids => ∃ A C, cs = [b8 k, b8 t, b8 n, b8 v, .slice A kids.length C] ∧ kids.length ≤ 9223372036854775807 ∧
      ∀ j kid, kids[j]? = some kid → ∃ b off cs', A = some ⟨b, off, none⟩ ∧ w.rangeAt b (off + j * 5) cs' ∧ CondAt w h cs' kid
theorem CondAt.grown {w w' : World} {row : Option Nat} (hg : w.grownBy w' row) (hr : row = none) : ∀ (h : Nat) (cs : List Value) (c : Cnd), CondAt w h cs c → CondAt w' h cs c
  | 0, _, _, hc => hc
  | h + 1, cs, .mk k t n v kids, hc => by
    obtain ⟨A, C, h1, h2, h3⟩ := hc
    refine ⟨A, C, h1, h2, fun j kid hj => ?_⟩
    obtain ⟨b, off, cs', h4, h5, h6⟩ := h3 j kid hj
    exact ⟨b, off, cs', h4, fun i u hu => hg.cell (h5 i u hu) (by subst hr; simp), CondAt.grown hg hr h cs' kid h6⟩
end Go.Proofs.YtkchaoajegkadaaGreatDoor

namespace Go.Proofs.YtkchaoajegkadaaGreatDoor
open Go.Proofs.Tryz
open Go.RowKit

end Go.Proofs.YtkchaoajegkadaaGreatDoor

namespace Go.Proofs.YtkchaoajegkadaaGreatDoor
open Go.Proofs.Tryz
open Go.RowKit

def StrsAt (w : World) (A : Option Addr) (l : List ByteArray) : Prop := RowsAt w A 1 (l.map fun s => [.string s])
theorem StrsAt.get {w : World} {A : Option Addr} {l : List ByteArray} (h : StrsAt w A l) {j : Nat} {s : ByteArray} (hj : l[j]? = some s) : ∃ b off, A = some ⟨b, off, none⟩ ∧ w.cell? ⟨b, off + j * 1, none⟩ = some (.string s) := by
  obtain ⟨b, off, h1, h2⟩ := h j [.string s] (by rw [List.getElem?_map, hj]; rfl)
  exact ⟨b, off, h1, by have := h2 0 _ rfl; rwa [Nat.add_zero] at this⟩
def idxOf (s : ByteArray) : List ByteArray → Nat → Option Nat
  | [], _ => none
  | x :: r, k => if s.toList == x.toList then some k else idxOf s r (k + 1)
theorem idxOf_at {s x : ByteArray} {l : List ByteArray} {j : Nat} (hx : l[j]? = some x) : idxOf s (l.drop j) j = if s.toList == x.toList then some j else idxOf s (l.drop (j + 1)) (j + 1) := by
  obtain ⟨hj, rfl⟩ := List.getElem?_eq_some_iff.1 hx
  rw [List.drop_eq_getElem_cons hj]
  rfl
def idxI (o : Option Nat) : Int := match o with | some k => k | none => -1
theorem index_any (A : Option Addr) (C : Nat) (l : List ByteArray) (s : ByteArray) (w0 : World) (hA : StrsAt w0 A l) (hl : l.length ≤ 9223372036854775807) :
    Calls Tryz.prog 150 #[.slice A l.length C, .string s] w0 fun e w' => e = .returned (.int .i64 (idxI (idxOf s l 0))) ∧ Below w0.heap.size w0 w' := by
  have H := Own.start w0 none
  refine enterF func150 rfl ntmps150 rfl (fun a F => ?_);refine cSR fun K1 hK1=>sAs F rfl rfl rfl (qNK hK1 ?_);clear hK1;clear F a;intro a F;refine cSeq (fun K2 hK2 => ?_);refine cSR fun K3 hK3=>sMv F rfl rfl rfl (qLen underlying22 rfl rfl rfl (qMv rfl rfl rfl (qNK hK3 ?_)));clear hK3;clear F a;intro a F;refine wp_block ?_
  refine cLoopR [0, 1, 7] (fun m ups w => ∃ j : Nat, m = l.length - j ∧ ups = [(8, .int .i64 (j : Int))] ∧ j ≤ l.length ∧ idxOf s l 0 = idxOf s (l.drop j) j ∧ Own w0 none w []) F (l.length) [(8, .int .i64 ((0 : Nat) : Int))] (by repeat (first | exact SubR.nil | (apply SubR.cons; · rfl))) ?_ ?_ ?_
  · exact ⟨0, rfl, rfl, Nat.zero_le _, rfl, H⟩
  · repeat (first | exact trivial | refine Le.cons rfl ?_)
  clear F
  clear H
  intro m ups a w hI F
  obtain ⟨j, rfl, rfl, hj, ht, H⟩ := hI
  refine cSR fun K4 hK4=>sBin F rfl rfl rfl rfl bLss (qNK hK4 ?_);clear hK4;clear F a;intro a F;refine cSeq (fun K5 hK5 => ?_)
  refine cIf F rfl (fun h9 => ?_) (fun h9 => ?_)
  ·
   replace h9 := of_decide_eq_true h9
   have hjl : j < l.length := by omega
   obtain ⟨x, hx⟩ : ∃ x, l[j]? = some x := ⟨_, List.getElem?_eq_getElem hjl⟩
   obtain ⟨b, off, rfl, hc⟩ := hA.get hx
   refine wp_skip (hK5 _ _ ?_);clear hK5;refine cSeq (fun K6 hK6 => ?_);refine wp_block ?_;refine cSR fun K7 hK7=>sMv F rfl rfl rfl (qAs rfl rfl rfl (qNK hK7 (qSR fun K8 hK8=>qMv rfl rfl rfl (qMv rfl rfl rfl (qMv rfl rfl rfl ?_)))));clear hK7;clear F a;intro a F
   refine sIx underlying22 sizeOf9 F rfl rfl rfl rfl ?_ ?_
   focus (first | omega | decide | (simp; omega))
   clear F a; intro a F;refine sLd isAgg9 F rfl rfl rfl (H.arg hc) (qBin rfl rfl rfl rfl bStrEq (qNK hK8 ?_));clear hK8;clear F a;intro a F
   refine cIf F rfl (fun h16 => ?_) (fun h16 => ?_)
   ·
    replace h16 := beqT h16;refine cSR fun K9 hK9=>sMv F rfl rfl rfl (qAs rfl rfl rfl (qNK hK9 ?_));clear hK9;clear F a;intro a F;refine wp_ret ?_;simp only [Exit.inBlock, Exit.then];refine bRet results150 F rfl ?_
    first
      | exact ⟨by rw [ht, idxOf_at hx, if_pos (by simpa using h16)]; rfl, H.below⟩
      | exact ⟨by rw [ht, List.drop_eq_nil_of_le (by omega)]; rfl, H.below⟩
   replace h16 := beqF h16;refine wp_skip (hK6 _ _ (cReg ?_));clear hK6
   refine sBin F rfl rfl rfl rfl (bAddN (j := 1) ?_) ?_
   focus omega
   clear F a; intro a F;refine sMv F rfl rfl rfl ?_;clear F a;intro a F;refine sNil ?_
   exact ⟨l.length - (j + 1), by omega, _, ⟨j + 1, rfl, rfl, by omega, by rw [ht, idxOf_at hx, if_neg (by simpa using h16)], H⟩, F.to (by repeat (first | exact trivial | refine Le.cons rfl ?_))⟩
  replace h9 := of_decide_eq_false h9;refine wp_exit ?_;refine hK2 _ _ (cSR fun K10 hK10=>sAs F rfl rfl rfl (qNK hK10 ?_));clear hK2 hK10;clear F a;intro a F;refine wp_ret ?_;refine bRet results150 F rfl ?_
  first
    | exact ⟨by rw [ht, idxOf_at hx, if_pos (by simpa using h16)]; rfl, H.below⟩
    | exact ⟨by rw [ht, List.drop_eq_nil_of_le (by omega)]; rfl, H.below⟩
theorem contains_any (A : Option Addr) (C : Nat) (l : List ByteArray) (s : ByteArray) (w0 : World) (hA : StrsAt w0 A l) (hl : l.length ≤ 9223372036854775807) :
    Calls Tryz.prog 128 #[.slice A l.length C, .string s] w0 fun e w' => e = .returned (.bool (idxOf s l 0).isSome) ∧ Below w0.heap.size w0 w' := by
  have H := Own.start w0 none
  refine enterF func128 rfl ntmps128 rfl (fun a F => ?_);refine cSR fun K1 hK1=>sAs F rfl rfl rfl (qNK hK1 (qSR fun K2 hK2=>qMv rfl rfl rfl (qMv rfl rfl rfl ?_)));clear hK1;clear F a;intro a F;refine sCall call150 F rfl rfl rfl (index_any A C l s _ hA hl) ?_;rintro e w ⟨rfl, hb⟩;replace H := H.grow hb; clear hb;refine ⟨_, rfl, ?_⟩;clear F a; intro a F;refine sBin F rfl rfl rfl rfl bGeq (qAs rfl rfl rfl (qNK hK2 ?_));clear hK2;clear F a;intro a F;refine wp_ret ?_;refine bRet results128 F rfl ?_
  exact ⟨retB (by cases idxOf s l 0 <;> simp [idxI]), H.below⟩
end Go.Proofs.YtkchaoajegkadaaGreatDoor

namespace Go.Proofs.YtkchaoajegkadaaGreatDoor
open Go.Proofs.Tryz
open Go.RowKit

structure Prg where
  name : ByteArray
  locs : List ByteArray
  init : List UInt8
  threads : List (List Ins)
  ask : UInt8
  cond : Cnd
def ThreadsAt (w : World) (A : Option Addr) (l : List (List Ins)) : Prop := ∀ (j : Nat) (t : List Ins), l[j]? = some t → ∃ b off B C, A = some ⟨b, off, none⟩ ∧ w.cell? ⟨b, off + j * 1, none⟩ = some (.slice B t.length C) ∧ RowsAt w B 10 (t.map Ins.cells) ∧ t.length ≤ 9223372036854775807
structure ProgIn (w : World) (cs : List Value) (p : Prg) (LA : Option Addr) (LC : Nat) (IA : Option Addr) (IC : Nat) (TA : Option Addr) (TC h : Nat) (ccs : List Value) : Prop where
  cs : cs = [.string p.name, .slice LA p.locs.length LC, .slice IA p.init.length IC, .slice TA p.threads.length TC, b8 p.ask] ++ ccs
  name : p.name.size ≤ maxLen
  locs : StrsAt w LA p.locs
  locsN : p.locs.length ≤ 9223372036854775807
  locsC : p.locs.length ≤ LC
  locsS : ∀ s ∈ p.locs, s.size ≤ maxLen
  init : RowsAt w IA 1 (p.init.map fun x => [b8 x])
  initN : p.init.length ≤ 9223372036854775807
  threads : ThreadsAt w TA p.threads
  threadsN : p.threads.length ≤ 9223372036854775807
  cond : CondAt w h ccs p.cond
def ProgAt (w : World) (cs : List Value) (p : Prg) : Prop := ∃ LA LC IA IC TA TC h ccs, ProgIn w cs p LA LC IA IC TA TC h ccs
theorem RowsAt.own {w0 w : World} {rs : List Res} {A : Option Addr} {sz : Nat} {rows : List (List Value)} (h : RowsAt w0 A sz rows) (H : Own w0 none w rs) : RowsAt w A sz rows := fun j cs hj => by
  obtain ⟨b, off, h1, h2⟩ := h j cs hj
  exact ⟨b, off, h1, H.argR h2⟩
theorem ThreadsAt.own {w0 w : World} {rs : List Res} {A : Option Addr} {l : List (List Ins)} (h : ThreadsAt w0 A l) (H : Own w0 none w rs) : ThreadsAt w A l := fun j t hj => by
  obtain ⟨b, off, B, C, h1, h2, h3, h4⟩ := h j t hj
  exact ⟨b, off, B, C, h1, H.arg h2, h3.own H, h4⟩
theorem ProgIn.own {w0 w : World} {rs : List Res} {cs : List Value} {p : Prg} {LA IA TA : Option Addr} {LC IC TC h : Nat} {ccs : List Value} (hp : ProgIn w0 cs p LA LC IA IC TA TC h ccs) (H : Own w0 none w rs) : ProgIn w cs p LA LC IA IC TA TC h ccs :=
  ⟨hp.cs, hp.name, RowsAt.own hp.locs H, hp.locsN, hp.locsC, hp.locsS, RowsAt.own hp.init H, hp.initN, hp.threads.own H, hp.threadsN, CondAt.grown H.grown rfl _ _ _ hp.cond⟩
theorem ProgAt.own {w0 w : World} {rs : List Res} {cs : List Value} {p : Prg} (h : ProgAt w0 cs p) (H : Own w0 none w rs) : ProgAt w cs p := by
  obtain ⟨LA, LC, IA, IC, TA, TC, h, ccs, hp⟩ := h
  exact ⟨LA, LC, IA, IC, TA, TC, h, ccs, hp.own H⟩
theorem condAt_len {w : World} : ∀ {h : Nat} {cs : List Value} {c : Cnd}, CondAt w h cs c → cs.length = 5
  | 0, _, _, h => h.elim
  | _ + 1, cs, .mk _ _ _ _ _, h => by obtain ⟨A, C, rfl, _⟩ := h; rfl
theorem len5 : ∀ {l : List Value}, l.length = 5 → ∃ a b c d e, l = [a, b, c, d, e]
  | [a, b, c, d, e], _ => ⟨a, b, c, d, e, rfl⟩
theorem ProgAt.len10 {w : World} {cs : List Value} {p : Prg} (h : ProgAt w cs p) : ∃ d1 d2 d3 d4 d5 d6 d7 d8 d9 d10, cs = [d1, d2, d3, d4, d5, d6, d7, d8, d9, d10] := by
  obtain ⟨LA, LC, IA, IC, TA, TC, h, ccs, hp⟩ := h
  obtain ⟨c1, c2, c3, c4, c5, rfl⟩ := len5 (condAt_len hp.cond)
  have hcs := hp.cs
  subst hcs
  exact ⟨_, _, _, _, _, _, _, _, _, _, rfl⟩
end Go.Proofs.YtkchaoajegkadaaGreatDoor

namespace Go.Proofs.YtkchaoajegkadaaGreatDoor
open Go.Proofs.Tryz
open Go.RowKit

structure PvAt (w : World) (V B : Nat) (cs : List Value) (p : Prg) : Prop where
  var : w.rangeAt V 0 [.pointer (some ⟨B, 0, none⟩)]
  blk : w.rangeAt B 0 cs
  prg : ProgAt w cs p
theorem PvAt.own {w0 w : World} {rs : List Res} {V B : Nat} {cs : List Value} {p : Prg} (h : PvAt w0 V B cs p) (H : Own w0 none w rs) : PvAt w V B cs p := ⟨H.argR h.var, H.argR h.blk, h.prg.own H⟩
-- PrP
structure PS where
  pos : Nat
  names : List ByteArray
def PS.next (s : PS) : PS := ⟨s.pos + 1, s.names⟩
structure PX where
  ts : List Tok
  size : Nat
  fixed : Bool
inductive Rs (α : Type) where
  | ok (v : α) (s : PS)
  | no (p : Nat) (e : Nat)
def Rs.bind {α β : Type} : Rs α → (α → PS → Rs β) → Rs β
  | .ok v s, f => f v s
  | .no p e, _ => .no p e
section
variable (c : PX)
def PX.kind (i : Nat) : Nat := match c.ts[i]? with | some t => t.kind | none => 0
def PX.text (i : Nat) : ByteArray := match c.ts[i]? with | some t => t.text | none => ByteArray.empty
def PX.place (i : Nat) : Nat := match c.ts[i]? with | some t => t.pos | none => c.size
def PX.word (i : Nat) : ByteArray := if c.kind i = 1 then c.text i else ByteArray.empty
def PX.is (i : Nat) (s : List UInt8) : Bool := c.kind i == 3 && (c.text i).toList == s
def PX.kw (i : Nat) (s : List UInt8) : Bool := (c.word i).toList == s
def failP {α : Type} (s : PS) (e : Nat) : Rs α := .no (c.place s.pos) e
def signP (str : List UInt8) (s : PS) : Rs Unit := if c.is s.pos str then .ok () s.next else failP c s 50
def endP (s : PS) : Rs Unit := if c.kind s.pos = 4 then .ok () s.next else failP c s 50
def numQ (s : PS) : Rs UInt8 := if c.kind s.pos = 2 ∧ numOk (c.text s.pos) = true then .ok (UInt8.ofNat (numV (c.text s.pos))) s.next else failP c s 50
def regQ (s : PS) : Rs UInt8 := if regOk (c.word s.pos) = true then .ok (UInt8.ofNat (regV (c.word s.pos)).toNat) s.next else failP c s 50
def argP' (s : PS) : Rs (Bool × UInt8) := if c.kind s.pos = 2 then (numQ c s).bind fun n t => .ok (false, n) t else (regQ c s).bind fun n t => .ok (true, n) t
def locP (s : PS) : Rs UInt8 :=
  if nameOk (c.word s.pos) = true then
    match idxOf (c.word s.pos) s.names 0 with
    | some k => .ok (UInt8.ofNat k) s.next
    | none => if c.fixed = true then failP c s 6 else if s.names.length = 6 then failP c s 5 else .ok (UInt8.ofNat s.names.length) ⟨s.pos + 1, s.names ++ [c.word s.pos]⟩
  else failP c s 50
/-! ### Instructions -/
def zIns : Ins := ⟨0, 0, 0, false, 0, false, 0, 0, 0, 0⟩
def fenceP (s : PS) : Rs Ins :=
  if c.kw (s.pos + 1) [108, 111, 97, 100, 115] then .ok { zIns with op := 7, mode := 4 } s.next.next
  else if c.kw (s.pos + 1) [115, 116, 111, 114, 101, 115] then .ok { zIns with op := 7, mode := 5 } s.next.next
  else .ok { zIns with op := 7, mode := 3 } s.next
def testP (s : PS) : Option UInt8 := if c.is s.pos [61, 61] then some 4 else if c.is s.pos [33, 61] then some 5 else if c.is s.pos [60] then some 6 else none
def fnP (s : PS) : Option UInt8 := if c.is s.pos [43] then some 1 else if c.is s.pos [45] then some 2 else if c.is s.pos [94] then some 3 else none
def skipP (s : PS) : Rs Ins := (numQ c s.next).bind fun n s1 =>
  if c.kw s1.pos [105, 102] then
    (argP' c s1.next).bind fun x s2 => match testP c s2 with
      | some f => (argP' c s2.next).bind fun y s3 => .ok { zIns with op := 8, skip := n, aR := x.1, aN := x.2, bR := y.1, bN := y.2, fn := f } s3
      | none => failP c s2 50
  else failP c s1 50
def storeP (s : PS) : Rs Ins := (locP c s).bind fun k s1 => (signP c [61] s1).bind fun _ s2 => (argP' c s2).bind fun x s3 =>
  if c.kw s3.pos [114, 101, 108] then .ok { zIns with op := 2, loc := k, aR := x.1, aN := x.2, mode := 2 } s3.next
  else .ok { zIns with op := 2, loc := k, aR := x.1, aN := x.2 } s3
def moveP' (d : UInt8) (s : PS) : Rs Ins := (argP' c s).bind fun x s1 => match fnP c s1 with
  | some f => (argP' c s1.next).bind fun y s2 => .ok { zIns with op := 3, dst := d, aR := x.1, aN := x.2, bR := y.1, bN := y.2, fn := f } s2
  | none => failP c s1 50
def assignP (s : PS) : Rs Ins := (regQ c s).bind fun d s1 => (signP c [61] s1).bind fun _ s2 =>
  if c.kw s2.pos [115, 119, 97, 112] then (locP c s2.next).bind fun k s3 => (argP' c s3).bind fun x s4 => .ok { zIns with op := 4, dst := d, loc := k, aR := x.1, aN := x.2 } s4
  else if c.kw s2.pos [102, 101, 116, 99, 104] then (locP c s2.next).bind fun k s3 => (argP' c s3).bind fun x s4 => .ok { zIns with op := 5, dst := d, loc := k, aR := x.1, aN := x.2 } s4
  else if c.kw s2.pos [99, 97, 115] then (locP c s2.next).bind fun k s3 => (argP' c s3).bind fun x s4 => (argP' c s4).bind fun y s5 => .ok { zIns with op := 6, dst := d, loc := k, aR := x.1, aN := x.2, bR := y.1, bN := y.2 } s5
  else if nameOk (c.word s2.pos) = true then (locP c s2).bind fun k s3 =>
    if c.kw s3.pos [97, 99, 113] then .ok { zIns with op := 1, dst := d, loc := k, mode := 1 } s3.next else .ok { zIns with op := 1, dst := d, loc := k } s3
  else moveP' c d s2
def startP (i : Nat) : Nat := if c.kw i [102, 101, 110, 99, 101] then 0 else if c.kw i [115, 107, 105, 112] then 1 else if regOk (c.word i) = true then 2 else 3
def mayP (i : Nat) : Bool := c.kw i [102, 101, 110, 99, 101] || c.kw i [115, 107, 105, 112] || regOk (c.word i) || nameOk (c.word i)
def insP (k : Nat) (s : PS) : Rs Ins := if k = 0 then fenceP c s else if k = 1 then skipP c s else if k = 2 then assignP c s else storeP c s
/-! ### Conditions -/
def sevL (part : PS → Rs Cnd) (str : List UInt8) : Nat → List Cnd → PS → Rs (List Cnd)
  | 0, _, s => failP c s 50
  | f + 1, ks, s => if c.is s.pos str then (part s.next).bind fun k t => sevL part str f (ks ++ [k]) t else .ok ks s
def sevP (kind : UInt8) (str : List UInt8) (part : PS → Rs Cnd) (s : PS) : Rs Cnd := (part s).bind fun k t =>
  if c.is t.pos str then (sevL c part str c.ts.length [k] t).bind fun ks u => .ok (.mk kind 0 0 0 ks) u else .ok k t
def factP : Nat → PS → Rs Cnd
  | 0, s => failP c s 50
  | n + 1, s =>
    if c.is s.pos [33] then (factP n s.next).bind fun k t => .ok (.mk 5 0 0 0 [k]) t
    else if c.is s.pos [40] then (sevP c 4 [124] (sevP c 3 [38] (factP n)) s.next).bind fun k t => (signP c [41] t).bind fun _ u => .ok k u
    else if c.kw s.pos [116, 114, 117, 101] then .ok (.mk 0 0 0 0 []) s.next
    else if c.kind s.pos = 2 then (numQ c s).bind fun t s1 => (signP c [58] s1).bind fun _ s2 => (regQ c s2).bind fun n s3 => (signP c [61] s3).bind fun _ s4 => (numQ c s4).bind fun v s5 => .ok (.mk 1 t n v []) s5
    else (locP c s).bind fun n s1 => (signP c [61] s1).bind fun _ s2 => (numQ c s2).bind fun v s3 => .ok (.mk 2 0 n v []) s3
def conjP (n : Nat) (s : PS) : Rs Cnd := sevP c 3 [38] (factP c n) s
def disjP (n : Nat) (s : PS) : Rs Cnd := sevP c 4 [124] (conjP c n) s
/-! ### Programs -/
structure QL where
  name : ByteArray
  init : List UInt8
  threads : List (List Ins)
  ask : UInt8
  cond : Cnd
  wh : Nat
  query : Nat
def zQL : QL := ⟨ByteArray.empty, [], [], 0, .mk 0 0 0 0 [], 0, 0⟩
def testL (q : QL) (s : PS) : Rs QL := if q.wh = 0 then (if (c.word s.next.pos).toList = [] then failP c s.next 50 else .ok { q with name := c.word s.next.pos, wh := 1 } s.next.next) else failP c s 50
def initL : Nat → QL → PS → Rs QL
  | 0, _, s => failP c s 50
  | f + 1, q, s => match idxOf (c.word s.pos) s.names 0 with
    | some _ => failP c s 51
    | none => (locP c s).bind fun _ s1 => (signP c [61] s1).bind fun _ s2 => (numQ c s2).bind fun v s3 =>
      if c.kind s3.pos = 4 then .ok { q with init := q.init ++ [v], wh := 2 } s3 else initL f { q with init := q.init ++ [v] } s3
def threadL (q : QL) (s : PS) : Rs QL := if q.wh = 1 ∨ q.wh = 2 ∨ q.wh = 3 then (if q.threads.length = 4 then failP c s 5 else .ok { q with threads := q.threads ++ [[]], wh := 3 } s.next) else failP c s 50
def lastAdd (l : List (List Ins)) (x : Ins) : List (List Ins) := l.take (l.length - 1) ++ [l.getD (l.length - 1) [] ++ [x]]
def addL (q : QL) (s : PS) : Rs QL :=
  if q.wh = 3 then
    if mayP c s.pos = true then
      if (q.threads.getD (q.threads.length - 1) []).length = 12 then failP c s 5
      else (insP c (startP c s.pos) s).bind fun x t => .ok { q with threads := lastAdd q.threads x } t
    else failP c s 50
  else failP c s 50
def askL (k : UInt8) (q : QL) (s : PS) : Rs QL := if q.wh = 3 then (disjP c (c.ts.length + 1) s.next).bind fun d t => .ok { q with ask := k, cond := d, wh := 4, query := c.place s.pos } t else failP c s 50
def lineL (q : QL) (s : PS) : Rs QL :=
  if c.kw s.pos [116, 101, 115, 116] then testL c q s
  else if c.kw s.pos [105, 110, 105, 116] then (if q.wh = 1 then initL c (c.ts.length + 1) q s.next else failP c s 50)
  else if c.kw s.pos [116, 104, 114, 101, 97, 100] then threadL c q s
  else if c.kw s.pos [115, 111, 109, 101] then askL c 1 q s
  else if c.kw s.pos [110, 111, 110, 101] then askL c 2 q s
  else if c.kw s.pos [97, 108, 108] then askL c 3 q s
  else addL c q s
def linesL : Nat → QL → PS → Rs QL
  | 0, _, s => failP c s 50
  | f + 1, q, s => if q.wh = 4 then .ok q s else (lineL c q s).bind fun q' t => (endP c t).bind fun _ u => linesL f q' u
def lineI (s : PS) : Rs Ins := if mayP c s.pos = true then (insP c (startP c s.pos) s).bind fun x t => (endP c t).bind fun _ u => if u.pos < c.ts.length then failP c u 50 else .ok x u else failP c s 50
end
def depC : Cnd → Nat
  | .mk _ _ _ _ kids => depL kids + 1
where depL : List Cnd → Nat
  | [] => 0
  | k :: r => max (depC k) (depL r)
def condP (c : PX) (s : PS) : Rs Cnd := (disjP c (c.ts.length + 1) s).bind fun x t => (endP c t).bind fun _ u =>
  if u.pos < c.ts.length then failP c u 50 else if 20 < depC x then .no (c.place s.pos) 5 else .ok x u
def padI (l : List UInt8) (n : Nat) : List UInt8 := l ++ List.replicate (n - l.length) 0
def progP (c : PX) : Rs Prg := (linesL c (c.ts.length + 2) zQL ⟨0, []⟩).bind fun q s =>
  if s.pos < c.ts.length then failP c s 50
  else if 20 < depC q.cond then .no q.query 5
  else .ok ⟨q.name, s.names, padI q.init s.names.length, q.threads, q.ask, q.cond⟩ s
-- TrQ
open Go.RowKit
set_option maxRecDepth 100000

def TreeIn (S : Nat → Prop) (w : World) : Nat → List Value → Cnd → Prop
  | 0, _, _ => False
  | h + 1, cs, .mk k t n v kids => ∃ A C, cs = [b8 k, b8 t, b8 n, b8 v, .slice A kids.length C] ∧ kids.length ≤ 9223372036854775807 ∧
      ∀ j kid, kids[j]? = some kid → ∃ b off cs', A = some ⟨b, off, none⟩ ∧ S b ∧ w.rangeAt b (off + j * 5) cs' ∧ TreeIn S w h cs' kid
theorem TreeIn.at {S : Nat → Prop} {w : World} : ∀ {h : Nat} {cs : List Value} {c : Cnd}, TreeIn S w h cs c → CondAt w h cs c
  | 0, _, _, hc => hc
  | h + 1, cs, .mk k t n v kids, ⟨A, C, h1, h2, h3⟩ => ⟨A, C, h1, h2, fun j kid hj => by
    obtain ⟨b, off, cs', h4, _, h6, h7⟩ := h3 j kid hj
    exact ⟨b, off, cs', h4, h6, h7.at⟩⟩
theorem range_same {w w' : World} {b o : Nat} {cs : List Value} (h : w'.heap[b]? = w.heap[b]?) (hr : w.rangeAt b o cs) : w'.rangeAt b o cs := fun k v hk => by
  have := hr k v hk
  unfold World.cell? at this ⊢
  simp only [h]
  exact this
theorem TreeIn.loc {S T : Nat → Prop} {w w' : World} (hs : ∀ b, S b → w'.heap[b]? = w.heap[b]?) (hT : ∀ b, S b → T b) : ∀ {h : Nat} {cs : List Value} {c : Cnd}, TreeIn S w h cs c → TreeIn T w' h cs c
  | 0, _, _, hc => hc
  | h + 1, cs, .mk k t n v kids, ⟨A, C, h1, h2, h3⟩ => ⟨A, C, h1, h2, fun j kid hj => by
    obtain ⟨b, off, cs', h4, h5, h6, h7⟩ := h3 j kid hj
    exact ⟨b, off, cs', h4, hT b h5, range_same (hs b h5) h6, h7.loc hs hT⟩⟩
def Res.tree (S : Nat → Prop) (h : Nat) (cs : List Value) (c : Cnd) : Res := ⟨S, fun w => TreeIn S w h cs c, fun _ _ hb hp => hp.loc hb (fun _ h => h)⟩
def Res.forest (S : Nat → Prop) (h : Nat) (rows : List (List Value)) (kids : List Cnd) : Res :=
  ⟨S, fun w => ∀ (j : Nat) (r : List Value) (kid : Cnd), rows[j]? = some r → kids[j]? = some kid → TreeIn S w h r kid, fun _ _ hb hp j r kid h1 h2 => (hp j r kid h1 h2).loc hb (fun _ h => h)⟩
theorem condShape {w : World} : ∀ {h : Nat} {cs : List Value} {c : Cnd}, CondAt w h cs c → ∃ k t n v A m C, cs = [b8 k, b8 t, b8 n, b8 v, .slice A m C]
  | 0, _, _, h => h.elim
  | _ + 1, cs, .mk _ _ _ _ _, h => by obtain ⟨A, C, rfl, _⟩ := h; exact ⟨_, _, _, _, _, _, _, rfl⟩
theorem Own.plant {w0 w : World} {row : Option Nat} {S T : Nat → Prop} {h : Nat} {cs : List Value} {c : Cnd} {rows : List (List Value)} {kids : List Cnd} {rs : List Res} (H : Own w0 row w (.tree T h cs c :: .forest S h rows kids :: rs)) (hk : kids[rows.length]? = some c) :
    Own w0 row w (.forest (fun b => T b ∨ S b) h (rows ++ [cs]) kids :: rs) := by
  have hT : TreeIn T w h cs c := H.pred 0 _ rfl
  have hS : ∀ (j : Nat) (r : List Value) (kid : Cnd), rows[j]? = some r → kids[j]? = some kid → TreeIn S w h r kid := H.pred 1 _ rfl
  refine H.fuse (.forest (fun b => T b ∨ S b) h (rows ++ [cs]) kids) (show ∀ (j : Nat) (r : List Value) (kid : Cnd), (rows ++ [cs])[j]? = some r → kids[j]? = some kid → TreeIn (fun b => T b ∨ S b) w h r kid from fun j r kid h1 h2 => ?_) (fun b hb => hb)
  rcases Nat.lt_or_ge j rows.length with hj | hj
  · rw [List.getElem?_append_left hj] at h1
    exact (hS j r kid h1 h2).loc (fun _ _ => rfl) (fun _ h => .inr h)
  · rw [List.getElem?_append_right hj] at h1
    obtain e : j - rows.length = 0 := by
      rcases Nat.eq_zero_or_pos (j - rows.length) with e | e
      · exact e
      · rw [List.getElem?_eq_none (by simp; omega)] at h1; cases h1
    rw [e] at h1
    obtain rfl : j = rows.length := by omega
    rw [hk] at h2
    cases h1; cases h2
    exact hT.loc (fun _ _ => rfl) (fun _ h => .inl h)
theorem Own.grown1 {w0 w : World} {row : Option Nat} {S : Nat → Prop} {h c : Nat} {e : TypeId} {A : Option Addr} {rows : List (List Value)} {kids : List Cnd} {rs : List Res} (k t n v : UInt8) (H : Own w0 row w (.forest S h rows kids :: .rws e 5 (.slice A rows.length c) rows :: rs)) (hl : rows.length = kids.length)
    (hr : ∀ r ∈ rows, r.length = 5) (hm : kids.length ≤ 9223372036854775807) :
    Own w0 row w (.tree (fun b => S b ∨ (Value.slice A rows.length c).ownBlock = some b) (h + 1) [b8 k, b8 t, b8 n, b8 v, .slice A rows.length c] (.mk k t n v kids) :: rs) := by
  have hS : ∀ (j : Nat) (r : List Value) (kid : Cnd), rows[j]? = some r → kids[j]? = some kid → TreeIn S w h r kid := H.pred 0 _ rfl
  refine H.fuse (.tree (fun b => S b ∨ (Value.slice A rows.length c).ownBlock = some b) (h + 1) [b8 k, b8 t, b8 n, b8 v, .slice A rows.length c] (.mk k t n v kids)) (show TreeIn (fun b => S b ∨ (Value.slice A rows.length c).ownBlock = some b) w (h + 1) [b8 k, b8 t, b8 n, b8 v, .slice A rows.length c] (.mk k t n v kids) from ⟨A, c, by rw [hl], hm, fun j kid hj => ?_⟩) (fun b hb => hb)
  have hjl : j < rows.length := by rw [hl]; exact (List.getElem?_eq_some_iff.1 hj).1
  obtain ⟨r, hrj⟩ : ∃ r, rows[j]? = some r := ⟨_, List.getElem?_eq_getElem hjl⟩
  obtain ⟨b, off, rfl, h2⟩ := H.rowsAt 1 rfl hr (by omega) j r hrj
  exact ⟨b, off, r, rfl, .inr rfl, h2, (hS j r kid hrj hj).loc (fun _ _ => rfl) (fun _ h => .inl h)⟩
theorem TreeIn.deeper {S : Nat → Prop} {w : World} : ∀ {h : Nat} (m : Nat) {cs : List Value} {c : Cnd}, TreeIn S w h cs c → TreeIn S w (h + m) cs c
  | 0, _, _, _, hc => hc.elim
  | h + 1, m, cs, .mk k t n v kids, ⟨A, C, h1, h2, h3⟩ => by
    rw [show h + 1 + m = (h + m) + 1 by omega]
    exact ⟨A, C, h1, h2, fun j kid hj => by
      obtain ⟨b, off, cs', h4, h5, h6, h7⟩ := h3 j kid hj
      exact ⟨b, off, cs', h4, h5, h6, h7.deeper m⟩⟩
theorem Own.deeper {w0 w : World} {row : Option Nat} {S : Nat → Prop} {h : Nat} {cs : List Value} {c : Cnd} {rs : List Res} (m : Nat) (H : Own w0 row w (.tree S h cs c :: rs)) : Own w0 row w (.tree S (h + m) cs c :: rs) :=
  H.seen (.tree S (h + m) cs c) ((H.pred 0 _ rfl : TreeIn S w h cs c).deeper m) (fun _ hb => hb)
def Res.held (S : Nat → Prop) (A : Option Addr) (sz : Nat) (rows : List (List Value)) : Res :=
  ⟨S, fun w => ∀ (j : Nat) (cs : List Value), rows[j]? = some cs → ∃ b off, A = some ⟨b, off, none⟩ ∧ S b ∧ w.rangeAt b (off + j * sz) cs, fun _ _ hb hp j cs h => by
    obtain ⟨b, off, h1, h2, h3⟩ := hp j cs h
    exact ⟨b, off, h1, h2, range_same (hb b h2) h3⟩⟩
theorem Own.held {w0 w : World} {row : Option Nat} {S : Nat → Prop} {A : Option Addr} {sz : Nat} {rows : List (List Value)} {rs : List Res} (H : Own w0 row w rs) (i : Nat) (hi : rs[i]? = some (.held S A sz rows)) : RowsAt w A sz rows := fun j cs h => by
  obtain ⟨b, off, h1, _, h3⟩ := (H.pred i _ hi : ∀ (j : Nat) (cs : List Value), rows[j]? = some cs → ∃ b off, A = some ⟨b, off, .none⟩ ∧ S b ∧ w.rangeAt b (off + j * sz) cs) j cs h
  exact ⟨b, off, h1, h3⟩
theorem Own.toHeld {w0 w : World} {row : Option Nat} {e : TypeId} {n c sz : Nat} {A : Option Addr} {rows : List (List Value)} {rs : List Res} (H : Own w0 row w (.rws e sz (.slice A n c) rows :: rs)) (hr : ∀ r ∈ rows, r.length = sz) (hsz : 0 < sz) :
    Own w0 row w (.held (fun b => (Value.slice A n c).ownBlock = some b) A sz rows :: rs) := by
  have h := H.rowsAt 0 rfl hr hsz
  refine H.seen (.held (fun b => (Value.slice A n c).ownBlock = some b) A sz rows) (show ∀ (j : Nat) (cs : List Value), rows[j]? = some cs → ∃ b off, A = some ⟨b, off, .none⟩ ∧ (Value.slice A n c).ownBlock = some b ∧ w.rangeAt b (off + j * sz) cs from fun j cs hj => ?_) (fun b hb => hb)
  obtain ⟨b, off, h1, h2⟩ := h j cs hj
  exact ⟨b, off, h1, by rw [h1]; rfl, h2⟩

-- PrQ
open Go.RowKit
set_option maxRecDepth 100000

/-! ### The parser's memory -/
def rowsT (ts : List Tok) : List (List Value) := ts.map Tok.cells
theorem rowsT_len {ts : List Tok} : ∀ r ∈ rowsT ts, r.length = 3 := by
  intro r hr
  obtain ⟨t, _, rfl⟩ := List.mem_map.1 hr
  rfl
def strC (l : List ByteArray) : List (List Value) := l.map fun s => [.string s]
theorem strC_len {l : List ByteArray} : ∀ r ∈ strC l, r.length = 1 := by
  intro r hr
  obtain ⟨t, _, rfl⟩ := List.mem_map.1 hr
  rfl
def PX.lim (c : PX) : Nat := bif c.fixed then 1000 else 6
theorem PX.lim_le (c : PX) : c.lim ≤ 1000 := by unfold PX.lim; cases c.fixed <;> decide
theorem PX.lim_six {c : PX} (h : ¬ c.fixed = true) : c.lim = 6 := by unfold PX.lim; cases hf : c.fixed with | true => exact absurd hf h | false => rfl
def Res.nms (W : World) (fx : Bool) (A : Option Addr) (C : Nat) (l : List ByteArray) : Res :=
  bif fx then ⟨fun _ => False, fun _ => RowsAt W A 1 (strC l), fun _ _ _ h => h⟩ else .rws 9 1 (.slice A l.length C) (strC l)
theorem nmsAt {W w : World} {rs : List Res} {fx : Bool} {A : Option Addr} {C : Nat} {l : List ByteArray} (H : Own W none w rs) (i : Nat) (hi : rs[i]? = some (.nms W fx A C l)) : StrsAt w A l := by
  cases fx with
  | true => exact RowsAt.own (show RowsAt W A 1 (strC l) from H.pred i _ hi) H
  | false => exact H.rowsAt i hi strC_len Nat.zero_lt_one
def curC (c : PX) (A : Option Addr) (C : Nat) (s : PS) (Y : List Value) : List Value := .slice A c.ts.length C :: .int .i64 (s.pos : Int) :: .int .i64 (c.size : Int) :: Y
def parC (c : PX) (A : Option Addr) (C : Nat) (s : PS) (B : Option Addr) (D : Nat) (X : List Value) : List Value := curC c A C s (.slice B s.names.length D :: .bool c.fixed :: X)
def flt (p e : Nat) : List PanicEntry := [{ v := .iface 101 (.agg #[.int .i64 (p : Int), .int .i64 (e : Int)]), recovered := false }]
def Ans {α : Type} (W : World) (rs : List Res) (r : Rs α) (K : α → PS → Ending → World → Prop) (e : Ending) (w' : World) : Prop :=
  match r with
  | .ok v s => K v s e w'
  | .no p er => e = .panicked (flt p er) ∧ Own W none w' rs
theorem Ans.cases {α : Type} {W w' : World} {rs : List Res} {r : Rs α} {K : α → PS → Ending → World → Prop} {e : Ending} (h : Ans W rs r K e w') :
    (∃ p er, r = .no p er ∧ e = .panicked (flt p er) ∧ Own W none w' rs) ∨ ∃ v s, r = .ok v s ∧ K v s e w' := by
  cases r with
  | ok v s => exact .inr ⟨v, s, rfl, h⟩
  | no p er => exact .inl ⟨p, er, rfl, h.1, h.2⟩
theorem Ans.no {α : Type} {W w' : World} {rs : List Res} {r : Rs α} {K : α → PS → Ending → World → Prop} {p er : Nat} (h : r = .no p er) (H : Own W none w' rs) : Ans W rs r K (.panicked (flt p er)) w' := by subst h; exact ⟨rfl, H⟩
theorem Ans.ok {α : Type} {W w' : World} {rs : List Res} {r : Rs α} {K : α → PS → Ending → World → Prop} {e : Ending} {v : α} {s : PS} (h : r = .ok v s) (hk : K v s e w') : Ans W rs r K e w' := by subst h; exact hk
theorem lit_toList (l : List UInt8) : (⟨l.toArray⟩ : ByteArray).toList = l := by rw [toList_data]
theorem heldRow {W w : World} {rs : List Res} (H : Own W none w rs) (i : Nat) {S : Nat → Prop} {g o sz j : Nat} {rows : List (List Value)} {cs : List Value} (hi : rs[i]? = some (.held S (some ⟨g, o, none⟩) sz rows)) (hj : rows[j]? = some cs) : w.rangeAt g (o + j * sz) cs := by
  obtain ⟨g', o', h1, h2⟩ := H.held i hi j cs hj
  cases h1
  exact h2
theorem rowsT_get {ts : List Tok} {j : Nat} {t : Tok} (h : ts[j]? = some t) : (rowsT ts)[j]? = some t.cells := by unfold rowsT; rw [List.getElem?_map, h]; rfl
def PX.atP (c : PX) (i : Nat) : Nat := match c.ts[i]? with | some t => t.pos | none => 0
theorem px_some {c : PX} {i : Nat} {t : Tok} (h : c.ts[i]? = some t) : c.kind i = t.kind ∧ c.text i = t.text ∧ c.atP i = t.pos ∧ c.place i = t.pos := by
  refine ⟨?_, ?_, ?_, ?_⟩
  · unfold PX.kind; rw [h]
  · unfold PX.text; rw [h]
  · unfold PX.atP; rw [h]
  · unfold PX.place; rw [h]
theorem px_none {c : PX} {i : Nat} (h : c.ts.length ≤ i) : c.kind i = 0 ∧ c.text i = ByteArray.empty ∧ c.atP i = 0 ∧ c.place i = c.size := by
  have h := List.getElem?_eq_none h
  refine ⟨?_, ?_, ?_, ?_⟩
  · unfold PX.kind; rw [h]
  · unfold PX.text; rw [h]
  · unfold PX.atP; rw [h]
  · unfold PX.place; rw [h]
structure PX.Ok (c : PX) : Prop where
  few : c.ts.length ≤ 1000000
  size : c.size ≤ 1000000
  text : ∀ (i : Nat) (t : Tok), c.ts[i]? = some t → t.text.size ≤ 1000000 ∧ t.pos ≤ 1000000 ∧ t.kind ≤ 4
-- PtP
def numT (n : UInt8) : List UInt8 :=
  if n.toNat < 10 then [48 + n] else if n.toNat < 100 then [48 + n / 10, 48 + n % 10] else [48 + n / 100, 48 + n / 10 % 10, 48 + n % 10]
def regT (n : UInt8) : List UInt8 := 114 :: numT n
def argT (r : Bool) (n : UInt8) : List UInt8 := if r then regT n else numT n
def locT (locs : List ByteArray) (n : UInt8) : List UInt8 := match locs[n.toNat]? with | some s => s.toList | none => [63]
def fnT (fn first last : UInt8) : List UInt8 :=
  if fn.toNat < first.toNat ∨ last.toNat < fn.toNat then [63] else if fn = 1 then [43] else if fn = 2 then [45] else if fn = 3 then [94] else if fn = 4 then [61, 61] else if fn = 5 then [33, 61] else [60]
def modeT (m plain special : UInt8) (word : List UInt8) : List (List UInt8) := if m = plain then [] else if m = special then [word] else [[63]]
def insT (locs : List ByteArray) (x : Ins) : List (List UInt8) :=
  if x.op = 1 then [regT x.dst, [61], locT locs x.loc] ++ modeT x.mode 0 1 [97, 99, 113]
  else if x.op = 2 then [locT locs x.loc, [61], argT x.aR x.aN] ++ modeT x.mode 0 2 [114, 101, 108]
  else if x.op = 3 then [regT x.dst, [61], argT x.aR x.aN, fnT x.fn 1 3, argT x.bR x.bN]
  else if x.op = 4 then [regT x.dst, [61], [115, 119, 97, 112], locT locs x.loc, argT x.aR x.aN]
  else if x.op = 5 then [regT x.dst, [61], [102, 101, 116, 99, 104], locT locs x.loc, argT x.aR x.aN]
  else if x.op = 6 then [regT x.dst, [61], [99, 97, 115], locT locs x.loc, argT x.aR x.aN, argT x.bR x.bN]
  else if x.op = 7 then [102, 101, 110, 99, 101] :: (if x.mode = 4 then [[108, 111, 97, 100, 115]] else modeT x.mode 3 5 [115, 116, 111, 114, 101, 115])
  else if x.op = 8 then [[115, 107, 105, 112], numT x.skip, [105, 102], argT x.aR x.aN, fnT x.fn 4 6, argT x.bR x.bN]
  else [[63]]
def condWd (locs : List ByteArray) : Cnd → List (List UInt8)
  | .mk k t n v kids =>
    if k = 0 then [[116, 114, 117, 101]]
    else if k = 1 then [numT t ++ [58] ++ regT n, [61], numT v]
    else if k = 2 then [locT locs n, [61], numT v]
    else if k = 5 then [33] :: kidsT true [] true kids
    else if k = 3 then kidsT true [[38]] true kids
    else if k = 4 then kidsT false [[124]] true kids
    else [[63]]
where
  /-- The kids' words: with parentheses for conjunctions too; what stands between them; the first of them. -/
  kidsT (and : Bool) (mid : List (List UInt8)) : Bool → List Cnd → List (List UInt8)
  | _, [] => []
  | first, .mk k t n v kids :: r => (if first then [] else mid) ++ (if k = 4 ∨ and = true ∧ k = 3 then [40] :: (condWd locs (.mk k t n v kids) ++ [[41]]) else condWd locs (.mk k t n v kids)) ++ kidsT and mid false r
abbrev WS := List UInt8 × Bool
def wordW (w : WS) (s : List UInt8) : WS := (w.1 ++ (if w.2 then [32] else []) ++ s, true)
def wordsW (w : WS) (l : List (List UInt8)) : WS := l.foldl wordW w
def lineW (w : WS) : WS := (w.1 ++ [10], false)
def codeW (locs : List ByteArray) : Bool → WS → List Ins → WS
  | _, w, [] => w
  | first, w, x :: r => codeW locs false (wordsW (if first then w else lineW w) (insT locs x)) r
def initW (init : List UInt8) : Nat → WS → List ByteArray → WS
  | _, w, [] => w
  | i, w, s :: r => initW init (i + 1) (let u := wordsW w [s.toList, [61]]; match init[i]? with | some v => wordsW u [numT v] | none => u) r
def threadW (locs : List ByteArray) (w : WS) (l : List Ins) : WS :=
  let u := codeW locs true (lineW (wordsW w [[116, 104, 114, 101, 97, 100]])) l
  if l.length = 0 then u else lineW u
def askT (k : UInt8) : List UInt8 := if k = 1 then [115, 111, 109, 101] else if k = 2 then [110, 111, 110, 101] else if k = 3 then [97, 108, 108] else [63]
def progW (p : Prg) : WS :=
  let w0 := lineW (wordsW ([], false) [[116, 101, 115, 116], p.name.toList])
  let w1 := if p.locs.length = 0 then w0 else lineW (initW p.init 0 (wordsW w0 [[105, 110, 105, 116]]) p.locs)
  let w2 := p.threads.foldl (threadW p.locs) w1
  lineW (wordsW (wordsW w2 [askT p.ask]) (condWd p.locs p.cond))
def printT (p : Prg) : List UInt8 := (progW p).1
end Go.Proofs.YtkchaoajegkadaaGreatDoor
