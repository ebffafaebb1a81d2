/-
  WALK2. The law PathReads. Conditions: the slices lie in memory; the tables.
-/
import Derived.Test.YtklpiodciblabaaGreatDoorPl1
set_option linter.unusedSimpArgs false
set_option linter.unusedVariables false
namespace Go.Proofs.YtklpiodciblabaaGreatDoor
open Go.Proofs.Tryz
open Go.RowKit
set_option maxRecDepth 100000
theorem rows_take8 {w : World} {A : Option Addr} {l : List UInt8} (h : RowsAt w A 1 (l.map fun x => [b8 x])) (n : Nat) : RowsAt w A 1 ((l.take n).map fun x => [b8 x]) := fun j c hj => h j c (by
  rw [List.map_take, List.getElem?_take] at hj
  split at hj
  · exact hj
  · cases hj)
end Go.Proofs.YtklpiodciblabaaGreatDoor
