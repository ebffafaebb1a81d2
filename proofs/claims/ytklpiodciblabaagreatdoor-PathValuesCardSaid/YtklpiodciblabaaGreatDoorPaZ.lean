/-
  append(x, make([]E, n)...) onto a slice of the function's own. Conditions: none.
-/
import Derived.Test.YtklpiodciblabaaGreatDoorPaI
import Derived.Laws.AppendOwn
set_option linter.unusedSimpArgs false
set_option linter.unusedVariables false
namespace Go.Proofs.YtklpiodciblabaaGreatDoor
open Go.RowKit
set_option maxRecDepth 100000
section
variable {P : Program} {w : World}
end
section
variable {P : Program} {l : List Oper} {Q : Exit → Act → World → Prop} {N : Nat} {a : Act} {env : List (Nat × Value)} {rest : List Oper} {d : Tmp} {ty : TypeId} {pos : String} {af : Array Edge} {g : Option (Nat × Bool)} {w0 w : World} {row : Option Nat} {rs : List Res}
end
end Go.Proofs.YtklpiodciblabaaGreatDoor
