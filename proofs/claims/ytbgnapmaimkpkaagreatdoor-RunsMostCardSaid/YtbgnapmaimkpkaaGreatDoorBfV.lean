/-
  Plain Lean: a run without store buffers, on the machines that have them. Conditions: none.
-/
import Derived.Test.YtbgnapmaimkpkaaGreatDoorBfU
import Derived.Test.YtbgnapmaimkpkaaGreatDoorBfG
set_option linter.unusedSimpArgs false
set_option linter.unusedVariables false
namespace Go.Proofs.YtbgnapmaimkpkaaGreatDoor

end Go.Proofs.YtbgnapmaimkpkaaGreatDoor
