/-
  Plain Lean: what the laws on plays share. Conditions: none.
-/
import Derived.Test.YtbgnapmaimkpkaaGreatDoorBfW
set_option linter.unusedSimpArgs false
set_option linter.unusedVariables false
namespace Go.Proofs.YtbgnapmaimkpkaaGreatDoor
open Go.RowKit

end Go.Proofs.YtbgnapmaimkpkaaGreatDoor
