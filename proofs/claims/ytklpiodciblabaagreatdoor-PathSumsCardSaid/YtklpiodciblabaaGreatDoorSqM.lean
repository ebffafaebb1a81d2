/-
  WALK2. The law PathAtomic. Conditions: the tables.
-/
import Derived.Test.YtklpiodciblabaaGreatDoorSqL
set_option linter.unusedSimpArgs false
set_option linter.unusedVariables false
namespace Go.Proofs.YtklpiodciblabaaGreatDoor
open Go.Proofs.Tryz
open Go.RowKit
set_option maxRecDepth 100000
theorem fol_done {l : List Ins} {reads : List UInt8} {r : RunP} (hl : threadOk 6 l = true) (h : followP l reads = .done r) : followR l reads = ⟨runPath r, false, 0⟩ := by rw [followR_ok hl h]; rfl
end Go.Proofs.YtklpiodciblabaaGreatDoor
