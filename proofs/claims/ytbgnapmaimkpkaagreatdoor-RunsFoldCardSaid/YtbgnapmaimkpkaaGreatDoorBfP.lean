/-
  Plain Lean: machines with store buffers (a store of thread t: its location at 42 + 24 t + 2 i, its value behind; the buffer's length at 138 + t). Conditions: none.
-/
import Derived.Test.YtbgnapmaimkpkaaGreatDoorAtK
set_option linter.unusedSimpArgs false
set_option linter.unusedVariables false
namespace Go.Proofs.YtbgnapmaimkpkaaGreatDoor

structure Pss where
  t : UInt8
  d : Bool
  l : UInt8
deriving DecidableEq
def Pss.cells (x : Pss) : List Value := [b8 x.t, .bool x.d, b8 x.l]
def manyB (s : By) (t : Nat) : Nat := (s (138 + t)).toNat
def bLoc (s : By) (t i : Nat) : UInt8 := s (42 + t * 24 + i * 2)
def bVal (s : By) (t i : Nat) : UInt8 := s (42 + t * 24 + i * 2 + 1)
def knownM (m : UInt8) : Bool := decide (1 ≤ m) && decide (m ≤ 3)
def bareP (s : By) : By := fun i => if i < 42 then s i else 0
def mostB (p : Prg) (m : UInt8) (s : By) (t : Nat) : Nat := if m ≠ 1 ∧ t < p.threads.length then (s (t * 9)).toNat else 0
def slotOk (p : Prg) (m : UInt8) (s : By) (t i : Nat) : Bool :=
  if manyB s t ≤ i then bLoc s t i == 0 && bVal s t i == 0
  else decide ((bLoc s t i).toNat < p.locs.length) && !(m == 3 && decide (0 < i) && decide (bLoc s t i < bLoc s t (i - 1)))
def fitsP (p : Prg) (m : UInt8) (s : By) (t : Nat) : Bool := decide (manyB s t ≤ mostB p m s t) && allB 12 (slotOk p m s t)
def rightM (p : Prg) (m : UInt8) (s : By) : Bool := knownM m && rightS p (bareP s) && allB 4 (fitsP p m s)
def readyI (x : Ins) (m : UInt8) (s : By) (t : Nat) : Bool :=
  if x.op = 4 ∨ x.op = 5 ∨ x.op = 6 then s (138 + t) == 0
  else if x.op = 7 then !(x.mode == 3 || (m == 3 && x.mode == 5)) || s (138 + t) == 0
  else true
def enabledM (p : Prg) (m : UInt8) (s : By) (t : Nat) : Bool := match nextI p s t with
  | some x => readyI x m s t
  | none => false
def drainAt (m : UInt8) (s : By) (t i : Nat) : Pss := ⟨UInt8.ofNat t, true, if m = 3 then bLoc s t i else 0⟩
def drains (m : UInt8) (s : By) (t : Nat) : Nat → List Pss
  | 0 => []
  | n + 1 => if n = 0 ∨ (m = 3 ∧ bLoc s t n ≠ bLoc s t (n - 1)) then drains m s t n ++ [drainAt m s t n] else drains m s t n
def movesT (p : Prg) (m : UInt8) (s : By) (t : Nat) : List Pss := (if enabledM p m s t = true then [⟨UInt8.ofNat t, false, 0⟩] else []) ++ drains m s t (manyB s t)
def movesN (p : Prg) (m : UInt8) (s : By) : Nat → List Pss
  | 0 => []
  | n + 1 => movesN p m s n ++ movesT p m s n
def movesM (p : Prg) (m : UInt8) (s : By) : List Pss := movesN p m s p.threads.length
def movesR (p : Prg) (m : UInt8) (s : By) : List Pss := if rightM p m s then movesM p m s else []
def addAt (m : UInt8) (s : By) (t : Nat) (loc : UInt8) : Nat → Nat
  | 0 => 0
  | n + 1 => if m = 3 ∧ loc < bLoc s t n then addAt m s t loc n else n + 1
def stP (loc val : UInt8) : By := fun i => if i = 0 then loc else if i = 1 then val else 0
def addR (s : By) (t a : Nat) (st : By) : By := put (lay (lay s (42 + t * 24 + (a + 1) * 2) ((manyB s t - a) * 2) (cut s (42 + t * 24 + a * 2))) (42 + t * 24 + a * 2) 2 st) (138 + t) (s (138 + t) + 1)
def addP (m : UInt8) (s : By) (t : Nat) (st : By) : By := addR s t (addAt m s t (st 0) (manyB s t)) st
def drainN (m : UInt8) (s : By) (t : Nat) (loc : UInt8) : Nat → Nat → Nat
  | 0, i => i
  | f + 1, i => if m = 3 ∧ bLoc s t i ≠ loc then drainN m s t loc f (i + 1) else i
def drainI (m : UInt8) (s : By) (t : Nat) (loc : UInt8) : Nat := drainN m s t loc (manyB s t) 0
def drainR (s : By) (t a : Nat) : By :=
  put (put (lay (lay s (42 + t * 24 + a * 2) ((manyB s t - 1 - a) * 2) (cut s (42 + t * 24 + (a + 1) * 2))) (42 + t * 24 + (manyB s t - 1) * 2) 2 zb) (138 + t) (s (138 + t) - 1)) (36 + (bLoc s t a).toNat) (bVal s t a)
def drainP (m : UInt8) (s : By) (t : Nat) (loc : UInt8) : By := drainR s t (drainI m s t loc)
def seenN (s : By) (t : Nat) (loc : UInt8) : Nat → UInt8
  | 0 => s (36 + loc.toNat)
  | n + 1 => if bLoc s t n = loc then bVal s t n else seenN s t loc n
def seenP (s : By) (t : Nat) (loc : UInt8) : UInt8 := seenN s t loc (min (manyB s t) 12)
def execP (m : UInt8) (x : Ins) (s : By) (t : Nat) : By :=
  if x.op = 1 then lay s (t * 9) 9 (farP x (cut s (t * 9)) (seenP s t x.loc))
  else if x.op = 2 then lay (if m = 1 then put s (36 + x.loc.toNat) (valA x (cut s (t * 9))) else addP m s t (stP x.loc (valA x (cut s (t * 9))))) (t * 9) 9 (put (cut s (t * 9)) 0 (s (t * 9) + 1))
  else if x.op = 4 ∨ x.op = 5 ∨ x.op = 6 then moveP x s t
  else lay s (t * 9) 9 (localP x (cut s (t * 9)))
def stepM (p : Prg) (m : UInt8) (s : By) (x : Pss) : By :=
  if x.d = true then drainP m s x.t.toNat x.l
  else match nextI p s x.t.toNat with
    | some i => execP m i s x.t.toNat
    | none => s
def pickM (picks : List UInt8) (n : Nat) (l : List Pss) : Pss := l.getD (match picks[n]? with | some x => x.toNat % l.length | none => 0) ⟨0, false, 0⟩
def playM (p : Prg) (m : UInt8) (picks : List UInt8) : Nat → By → List Pss → By × List Pss
  | 0, s, run => (s, run)
  | n + 1, s, run => let l := movesM p m s
    if l = [] then (s, run) else playM p m picks n (stepM p m s (pickM picks run.length l)) (run ++ [pickM picks run.length l])
end Go.Proofs.YtbgnapmaimkpkaaGreatDoor
