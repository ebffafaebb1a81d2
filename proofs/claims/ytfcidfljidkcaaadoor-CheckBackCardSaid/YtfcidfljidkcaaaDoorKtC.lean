/-
  WALK2. seisinkit: LentInses. Conditions: the slice lies in memory; it is short.
-/
import Derived.Test.YtfcidfljidkcaaaDoorKtB
import Derived.Test.YtfcidfljidkcaaaDoorKtA
set_option linter.unusedSimpArgs false
set_option linter.unusedVariables false
namespace Go.Proofs.YtfcidfljidkcaaaDoor
open Go.RowKit
set_option maxRecDepth 100000

def marksI (k n : Nat) : List Ins := (List.range n).map (markI k)
theorem marksI_length (k n : Nat) : (marksI k n).length = n := by simp [marksI]
theorem marksI_succ (k n : Nat) : marksI k (n + 1) = marksI k n ++ [markI k n] := by simp [marksI, List.range_succ]
theorem one_ins (x : Ins) : x.cells.all (·.oneCell') = true := rfl

end Go.Proofs.YtfcidfljidkcaaaDoor
