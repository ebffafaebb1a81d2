/-
  Plain Lean: the depth of a condition. Conditions: none.
-/
import Derived.Test.YtmfdpnjgljlkbaaDoorCkK
set_option linter.unusedSimpArgs false
set_option linter.unusedVariables false
namespace Go.Proofs.YtmfdpnjgljlkbaaDoor
mutual
/-- How deep a condition is. -/
def deepC : Cnd → Nat
  | .mk _ _ _ _ l => deepL l + 1
def deepL : List Cnd → Nat
  | [] => 0
  | c :: r => max (deepC c) (deepL r)
end
end Go.Proofs.YtmfdpnjgljlkbaaDoor
