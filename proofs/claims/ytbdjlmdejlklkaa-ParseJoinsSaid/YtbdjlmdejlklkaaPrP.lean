/-
  Plain Lean: what package parse computes from tokens. Nothing of the program. Conditions: none.
-/
import Derived.Test.YtbdjlmdejlklkaaLexK
import Derived.Test.YtbdjlmdejlklkaaCkK
set_option linter.unusedSimpArgs false
set_option linter.unusedVariables false
namespace Go.Proofs.Ytbdjlmdejlklkaa

/-- What a parser's functions turn: the place in the list of tokens, and the names. -/
structure PS where
  pos : Nat
  names : List ByteArray
def PS.next (s : PS) : PS := ⟨s.pos + 1, s.names⟩
/-- What they read: the tokens, the source's length; whether no name is added. -/
structure PX where
  ts : List Tok
  size : Nat
  fixed : Bool
/-- An answer: a value and the state behind, or a fault: its place and its number. -/
inductive Rs (α : Type) where
  | ok (v : α) (s : PS)
  | no (p : Nat) (e : Nat)
def Rs.bind {α β : Type} : Rs α → (α → PS → Rs β) → Rs β
  | .ok v s, f => f v s
  | .no p e, _ => .no p e
section
variable (c : PX)
def PX.kind (i : Nat) : Nat := match c.ts[i]? with | some t => t.kind | none => 0
def PX.text (i : Nat) : ByteArray := match c.ts[i]? with | some t => t.text | none => ByteArray.empty
def PX.place (i : Nat) : Nat := match c.ts[i]? with | some t => t.pos | none => c.size
def PX.word (i : Nat) : ByteArray := if c.kind i = 1 then c.text i else ByteArray.empty
def PX.is (i : Nat) (s : List UInt8) : Bool := c.kind i == 3 && (c.text i).toList == s
/-- The current token is the keyword. -/
def PX.kw (i : Nat) (s : List UInt8) : Bool := (c.word i).toList == s
def failP {α : Type} (s : PS) (e : Nat) : Rs α := .no (c.place s.pos) e
def needP {α : Type} (b : Bool) (s : PS) (r : Rs α) : Rs α := if b then r else failP c s 50
def signP (str : List UInt8) (s : PS) : Rs Unit := if c.is s.pos str then .ok () s.next else failP c s 50
def endP (s : PS) : Rs Unit := if c.kind s.pos = 4 then .ok () s.next else failP c s 50
def numQ (s : PS) : Rs UInt8 := if c.kind s.pos = 2 ∧ numOk (c.text s.pos) = true then .ok (UInt8.ofNat (numV (c.text s.pos))) s.next else failP c s 50
def regQ (s : PS) : Rs UInt8 := if regOk (c.word s.pos) = true then .ok (UInt8.ofNat (regV (c.word s.pos)).toNat) s.next else failP c s 50
/-- An argument: a register, and its number. -/
def argP' (s : PS) : Rs (Bool × UInt8) := if c.kind s.pos = 2 then (numQ c s).bind fun n t => .ok (false, n) t else (regQ c s).bind fun n t => .ok (true, n) t
def locP (s : PS) : Rs UInt8 :=
  if nameOk (c.word s.pos) = true then
    match idxOf (c.word s.pos) s.names 0 with
    | some k => .ok (UInt8.ofNat k) s.next
    | none => if c.fixed = true then failP c s 6 else if s.names.length = 6 then failP c s 5 else .ok (UInt8.ofNat s.names.length) ⟨s.pos + 1, s.names ++ [c.word s.pos]⟩
  else failP c s 50
/-! ### Instructions -/
def zIns : Ins := ⟨0, 0, 0, false, 0, false, 0, 0, 0, 0⟩
def fenceP (s : PS) : Rs Ins :=
  if c.kw (s.pos + 1) [108, 111, 97, 100, 115] then .ok { zIns with op := 7, mode := 4 } s.next.next
  else if c.kw (s.pos + 1) [115, 116, 111, 114, 101, 115] then .ok { zIns with op := 7, mode := 5 } s.next.next
  else .ok { zIns with op := 7, mode := 3 } s.next
/-- The test of a skip. -/
def testP (s : PS) : Option UInt8 := if c.is s.pos [61, 61] then some 4 else if c.is s.pos [33, 61] then some 5 else if c.is s.pos [60] then some 6 else none
def fnP (s : PS) : Option UInt8 := if c.is s.pos [43] then some 1 else if c.is s.pos [45] then some 2 else if c.is s.pos [94] then some 3 else none
def skipP (s : PS) : Rs Ins := (numQ c s.next).bind fun n s1 =>
  if c.kw s1.pos [105, 102] then
    (argP' c s1.next).bind fun x s2 => match testP c s2 with
      | some f => (argP' c s2.next).bind fun y s3 => .ok { zIns with op := 8, skip := n, aR := x.1, aN := x.2, bR := y.1, bN := y.2, fn := f } s3
      | none => failP c s2 50
  else failP c s1 50
def storeP (s : PS) : Rs Ins := (locP c s).bind fun k s1 => (signP c [61] s1).bind fun _ s2 => (argP' c s2).bind fun x s3 =>
  if c.kw s3.pos [114, 101, 108] then .ok { zIns with op := 2, loc := k, aR := x.1, aN := x.2, mode := 2 } s3.next
  else .ok { zIns with op := 2, loc := k, aR := x.1, aN := x.2 } s3
def moveP' (d : UInt8) (s : PS) : Rs Ins := (argP' c s).bind fun x s1 => match fnP c s1 with
  | some f => (argP' c s1.next).bind fun y s2 => .ok { zIns with op := 3, dst := d, aR := x.1, aN := x.2, bR := y.1, bN := y.2, fn := f } s2
  | none => failP c s1 50
def assignP (s : PS) : Rs Ins := (regQ c s).bind fun d s1 => (signP c [61] s1).bind fun _ s2 =>
  if c.kw s2.pos [115, 119, 97, 112] then (locP c s2.next).bind fun k s3 => (argP' c s3).bind fun x s4 => .ok { zIns with op := 4, dst := d, loc := k, aR := x.1, aN := x.2 } s4
  else if c.kw s2.pos [102, 101, 116, 99, 104] then (locP c s2.next).bind fun k s3 => (argP' c s3).bind fun x s4 => .ok { zIns with op := 5, dst := d, loc := k, aR := x.1, aN := x.2 } s4
  else if c.kw s2.pos [99, 97, 115] then (locP c s2.next).bind fun k s3 => (argP' c s3).bind fun x s4 => (argP' c s4).bind fun y s5 => .ok { zIns with op := 6, dst := d, loc := k, aR := x.1, aN := x.2, bR := y.1, bN := y.2 } s5
  else if nameOk (c.word s2.pos) = true then (locP c s2).bind fun k s3 =>
    if c.kw s3.pos [97, 99, 113] then .ok { zIns with op := 1, dst := d, loc := k, mode := 1 } s3.next else .ok { zIns with op := 1, dst := d, loc := k } s3
  else moveP' c d s2
/-- What parses the instruction that begins here: 0 a fence, 1 a skip, 2 an assignment, 3 a store. -/
def startP (i : Nat) : Nat := if c.kw i [102, 101, 110, 99, 101] then 0 else if c.kw i [115, 107, 105, 112] then 1 else if regOk (c.word i) = true then 2 else 3
def mayP (i : Nat) : Bool := c.kw i [102, 101, 110, 99, 101] || c.kw i [115, 107, 105, 112] || regOk (c.word i) || nameOk (c.word i)
def insP (k : Nat) (s : PS) : Rs Ins := if k = 0 then fenceP c s else if k = 1 then skipP c s else if k = 2 then assignP c s else storeP c s
/-! ### Conditions -/
/-- The parts behind a sign. -/
def sevL (part : PS → Rs Cnd) (str : List UInt8) : Nat → List Cnd → PS → Rs (List Cnd)
  | 0, _, s => failP c s 50
  | f + 1, ks, s => if c.is s.pos str then (part s.next).bind fun k t => sevL part str f (ks ++ [k]) t else .ok ks s
def sevP (kind : UInt8) (str : List UInt8) (part : PS → Rs Cnd) (s : PS) : Rs Cnd := (part s).bind fun k t =>
  if c.is t.pos str then (sevL c part str c.ts.length [k] t).bind fun ks u => .ok (.mk kind 0 0 0 ks) u else .ok k t
def factP : Nat → PS → Rs Cnd
  | 0, s => failP c s 50
  | n + 1, s =>
    if c.is s.pos [33] then (factP n s.next).bind fun k t => .ok (.mk 5 0 0 0 [k]) t
    else if c.is s.pos [40] then (sevP c 4 [124] (sevP c 3 [38] (factP n)) s.next).bind fun k t => (signP c [41] t).bind fun _ u => .ok k u
    else if c.kw s.pos [116, 114, 117, 101] then .ok (.mk 0 0 0 0 []) s.next
    else if c.kind s.pos = 2 then (numQ c s).bind fun t s1 => (signP c [58] s1).bind fun _ s2 => (regQ c s2).bind fun n s3 => (signP c [61] s3).bind fun _ s4 => (numQ c s4).bind fun v s5 => .ok (.mk 1 t n v []) s5
    else (locP c s).bind fun n s1 => (signP c [61] s1).bind fun _ s2 => (numQ c s2).bind fun v s3 => .ok (.mk 2 0 n v []) s3
def conjP (n : Nat) (s : PS) : Rs Cnd := sevP c 3 [38] (factP c n) s
def disjP (n : Nat) (s : PS) : Rs Cnd := sevP c 4 [124] (conjP c n) s
/-! ### Programs -/
structure QL where
  name : ByteArray
  init : List UInt8
  threads : List (List Ins)
  ask : UInt8
  cond : Cnd
  wh : Nat
  query : Nat
def zQL : QL := ⟨ByteArray.empty, [], [], 0, .mk 0 0 0 0 [], 0, 0⟩
def testL (q : QL) (s : PS) : Rs QL := if q.wh = 0 then (if (c.word s.next.pos).toList = [] then failP c s.next 50 else .ok { q with name := c.word s.next.pos, wh := 1 } s.next.next) else failP c s 50
def initL : Nat → QL → PS → Rs QL
  | 0, _, s => failP c s 50
  | f + 1, q, s => match idxOf (c.word s.pos) s.names 0 with
    | some _ => failP c s 51
    | none => (locP c s).bind fun _ s1 => (signP c [61] s1).bind fun _ s2 => (numQ c s2).bind fun v s3 =>
      if c.kind s3.pos = 4 then .ok { q with init := q.init ++ [v], wh := 2 } s3 else initL f { q with init := q.init ++ [v] } s3
def threadL (q : QL) (s : PS) : Rs QL := if q.wh = 1 ∨ q.wh = 2 ∨ q.wh = 3 then (if q.threads.length = 4 then failP c s 5 else .ok { q with threads := q.threads ++ [[]], wh := 3 } s.next) else failP c s 50
/-- The last thread gets one instruction more. -/
def lastAdd (l : List (List Ins)) (x : Ins) : List (List Ins) := l.take (l.length - 1) ++ [l.getD (l.length - 1) [] ++ [x]]
def addL (q : QL) (s : PS) : Rs QL :=
  if q.wh = 3 then
    if mayP c s.pos = true then
      if (q.threads.getD (q.threads.length - 1) []).length = 12 then failP c s 5
      else (insP c (startP c s.pos) s).bind fun x t => .ok { q with threads := lastAdd q.threads x } t
    else failP c s 50
  else failP c s 50
def askL (k : UInt8) (q : QL) (s : PS) : Rs QL := if q.wh = 3 then (disjP c (c.ts.length + 1) s.next).bind fun d t => .ok { q with ask := k, cond := d, wh := 4, query := c.place s.pos } t else failP c s 50
def lineL (q : QL) (s : PS) : Rs QL :=
  if c.kw s.pos [116, 101, 115, 116] then testL c q s
  else if c.kw s.pos [105, 110, 105, 116] then (if q.wh = 1 then initL c (c.ts.length + 1) q s.next else failP c s 50)
  else if c.kw s.pos [116, 104, 114, 101, 97, 100] then threadL c q s
  else if c.kw s.pos [115, 111, 109, 101] then askL c 1 q s
  else if c.kw s.pos [110, 111, 110, 101] then askL c 2 q s
  else if c.kw s.pos [97, 108, 108] then askL c 3 q s
  else addL c q s
def linesL : Nat → QL → PS → Rs QL
  | 0, _, s => failP c s 50
  | f + 1, q, s => if q.wh = 4 then .ok q s else (lineL c q s).bind fun q' t => (endP c t).bind fun _ u => linesL f q' u
/-- An instruction alone, to the source's end. -/
def lineI (s : PS) : Rs Ins := if mayP c s.pos = true then (insP c (startP c s.pos) s).bind fun x t => (endP c t).bind fun _ u => if u.pos < c.ts.length then failP c u 50 else .ok x u else failP c s 50
end
def depC : Cnd → Nat
  | .mk _ _ _ _ kids => depL kids + 1
where depL : List Cnd → Nat
  | [] => 0
  | k :: r => max (depC k) (depL r)
/-- A condition alone, to the source's end. -/
def condP (c : PX) (s : PS) : Rs Cnd := (disjP c (c.ts.length + 1) s).bind fun x t => (endP c t).bind fun _ u =>
  if u.pos < c.ts.length then failP c u 50 else if 20 < depC x then .no (c.place s.pos) 5 else .ok x u
def padI (l : List UInt8) (n : Nat) : List UInt8 := l ++ List.replicate (n - l.length) 0
def progP (c : PX) : Rs Prg := (linesL c (c.ts.length + 2) zQL ⟨0, []⟩).bind fun q s =>
  if s.pos < c.ts.length then failP c s 50
  else if 20 < depC q.cond then .no q.query 5
  else .ok ⟨q.name, s.names, padI q.init s.names.length, q.threads, q.ask, q.cond⟩ s
end Go.Proofs.Ytbdjlmdejlklkaa
