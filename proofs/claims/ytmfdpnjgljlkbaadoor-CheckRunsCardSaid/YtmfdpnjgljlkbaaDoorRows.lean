/-
  NARROWER THAN 'FOR EVERY INPUT', by the rows' own cells (each row's printed sentence says how): CheckParts: loops, laid · CheckFolds: loops, laid · CheckRuns: loops, laid · CheckBack: loops, laid.
  DERIVED. THE GIVEN ROWS OF THIS SEAT. 4 by the template 'for every input the law returns true; each argument reads behind the call as it read before'; 0 by the template 'total and deterministic' (their statements: YtmfdpnjgljlkbaaDoorTotals.lean).
  GIVEN WITH THE SEED: the statements are not yours to turn. If you find one false, say at which input.
  Laid BY PROGRAM, IN A SANDBOX (cutbox-rows.mjs): the forced cells as the released guide's own fill.sh prints them over the translation 3a7d09da579ee23d… (all of the seat's roots in one cut). By AI agents, Wed Nov 11 2026. No macro, syntax, notation, axiom, sorry.
-/
import Derived.Test.YtmfdpnjgljlkbaaDoorChecked
import GoSem.Claim
import GoSem.ClaimJoined
import GoSem.ClaimMapViews
import Derived.JoinedTies
import Derived.KernelRfl
namespace Go.Proofs.YtmfdpnjgljlkbaaDoor
/- THE CELL 'sum', in the pinned program and in every row, IS THE sha256 OF THE DUMP (.gsa) THAT YtmfdpnjgljlkbaaDoorProg.lean LOADS. Nothing in Lean hashes anything: it is a label: what it is worth is what the hold of that sum in a sandbox is worth. -/
noncomputable def Tryd.pinned : Pinned := { name := "ytmfdpnjgljlkbaadoor", sum := "3a7d09da579ee23de02e95f54921336e3ab9e554848ad14b301880e1dfe28e33", checked := Tryd.checked }
namespace Rows
def none {H : Type} : Left H := { results := [], args := [] }

/- WHAT THE LISTED PACKAGE-LEVEL VARIABLES READ AS WHEN THE CALL BEGINS. Each datum BY PROGRAM (the guide's laid-datum.mjs) off the statement by which the dump's own 'gosem.cut.vars' lays the variable. In a bare row this is a premise. The card (YtmfdpnjgljlkbaaDoorCards.lean) ties it to the program's text. -/
def laid_seisin_check_needs {H : Type} : DataW H := .agg [.lit (.int .u8 0), .lit (.int .u8 35), .lit (.int .u8 38), .lit (.int .u8 29), .lit (.int .u8 7), .lit (.int .u8 7), .lit (.int .u8 15), .lit (.int .u8 32), .lit (.int .u8 92)]

/-- 'seisinlaw07.CheckParts': WHATEVER THE INPUT: true; the input reads as it did. -/
def checkPartsSpec : ChangeSpec := { name := "checkParts", fn := fun _ => fun
  | [d1, d2, d3, d4] => { results := [.lit (.bool true)], args := [d1, d2, d3, d4] }
  | _ => none }
def checkPartsRow : OpenClaim := { program := "ytmfdpnjgljlkbaadoor", sum := "3a7d09da579ee23de02e95f54921336e3ab9e554848ad14b301880e1dfe28e33", func := "seisin/seisinlaw07.CheckParts", spec := "checkParts", unfollowed := true, recurses := true, named := ["seisin/check.needs"], loops := true, apart := false, laid := [("seisin/check.needs", laid_seisin_check_needs)] }
def CheckPartsSaid : Prop := checkPartsRow.holds Tryd.pinned (OpenSpec.ofChange checkPartsSpec)

/-- ITS FALSE NEIGHBOUR: 'it returns false'. Refute it at one input. -/
def checkPartsWrong : ChangeSpec := { name := "checkParts", fn := fun _ => fun
  | [d1, d2, d3, d4] => { results := [.lit (.bool false)], args := [d1, d2, d3, d4] }
  | _ => none }
def CheckPartsWrongFalsely : Prop := checkPartsRow.holds Tryd.pinned (OpenSpec.ofChange checkPartsWrong)

/-- 'seisinlaw07.CheckFolds': WHATEVER THE INPUT: true; the input reads as it did. -/
def checkFoldsSpec : ChangeSpec := { name := "checkFolds", fn := fun _ => fun
  | [d] => { results := [.lit (.bool true)], args := [d] }
  | _ => none }
def checkFoldsRow : OpenClaim := { program := "ytmfdpnjgljlkbaadoor", sum := "3a7d09da579ee23de02e95f54921336e3ab9e554848ad14b301880e1dfe28e33", func := "seisin/seisinlaw07.CheckFolds", spec := "checkFolds", unfollowed := true, recurses := true, named := ["seisin/check.needs"], loops := true, apart := false, laid := [("seisin/check.needs", laid_seisin_check_needs)] }
def CheckFoldsSaid : Prop := checkFoldsRow.holds Tryd.pinned (OpenSpec.ofChange checkFoldsSpec)

/-- ITS FALSE NEIGHBOUR: 'it returns false'. Refute it at one input. -/
def checkFoldsWrong : ChangeSpec := { name := "checkFolds", fn := fun _ => fun
  | [d] => { results := [.lit (.bool false)], args := [d] }
  | _ => none }
def CheckFoldsWrongFalsely : Prop := checkFoldsRow.holds Tryd.pinned (OpenSpec.ofChange checkFoldsWrong)

/-- 'seisinlaw07.CheckRuns': WHATEVER THE INPUT: true; the input reads as it did. -/
def checkRunsSpec : ChangeSpec := { name := "checkRuns", fn := fun _ => fun
  | [d1, d2, d3] => { results := [.lit (.bool true)], args := [d1, d2, d3] }
  | _ => none }
def checkRunsRow : OpenClaim := { program := "ytmfdpnjgljlkbaadoor", sum := "3a7d09da579ee23de02e95f54921336e3ab9e554848ad14b301880e1dfe28e33", func := "seisin/seisinlaw07.CheckRuns", spec := "checkRuns", unfollowed := true, recurses := true, named := ["seisin/check.needs"], loops := true, apart := false, laid := [("seisin/check.needs", laid_seisin_check_needs)] }
def CheckRunsSaid : Prop := checkRunsRow.holds Tryd.pinned (OpenSpec.ofChange checkRunsSpec)

/-- ITS FALSE NEIGHBOUR: 'it returns false'. Refute it at one input. -/
def checkRunsWrong : ChangeSpec := { name := "checkRuns", fn := fun _ => fun
  | [d1, d2, d3] => { results := [.lit (.bool false)], args := [d1, d2, d3] }
  | _ => none }
def CheckRunsWrongFalsely : Prop := checkRunsRow.holds Tryd.pinned (OpenSpec.ofChange checkRunsWrong)

/-- 'seisinlaw07.CheckBack': WHATEVER THE INPUT: true; the input reads as it did. -/
def checkBackSpec : ChangeSpec := { name := "checkBack", fn := fun _ => fun
  | [d1, d2, d3, d4] => { results := [.lit (.bool true)], args := [d1, d2, d3, d4] }
  | _ => none }
def checkBackRow : OpenClaim := { program := "ytmfdpnjgljlkbaadoor", sum := "3a7d09da579ee23de02e95f54921336e3ab9e554848ad14b301880e1dfe28e33", func := "seisin/seisinlaw07.CheckBack", spec := "checkBack", unfollowed := true, recurses := true, named := ["seisin/check.needs"], loops := true, apart := false, laid := [("seisin/check.needs", laid_seisin_check_needs)] }
def CheckBackSaid : Prop := checkBackRow.holds Tryd.pinned (OpenSpec.ofChange checkBackSpec)

/-- ITS FALSE NEIGHBOUR: 'it returns false'. Refute it at one input. -/
def checkBackWrong : ChangeSpec := { name := "checkBack", fn := fun _ => fun
  | [d1, d2, d3, d4] => { results := [.lit (.bool false)], args := [d1, d2, d3, d4] }
  | _ => none }
def CheckBackWrongFalsely : Prop := checkBackRow.holds Tryd.pinned (OpenSpec.ofChange checkBackWrong)

/- THE SECOND FORM. 'bulk': how many values and letters a reading holds, each counted each time it is reached (what is shared counts as often as it is met; a slice's spare places count too). A statement '..UptoSaid' is the law's where the arguments, and the package variables that the reading takes, are together of bulk at most 1048576: NARROWER than '..Said'. Prove '..Said' where nothing that the law and all that it calls make is longer than what came in: it says more and counts as full. Else prove '..UptoSaid'. A law counts once. -/
mutual
def uptoBulk {H : Type} : DataW H → Nat
  | .lit (.string bytes) => bytes.length + 1
  | .lit _ => 1
  | .nil => 1
  | .ptr d => uptoBulk d + 1
  | .slice elems spare => uptoBulkAll elems + uptoBulkAll spare + 1
  | .agg parts => uptoBulkAll parts + 1
  | .iface _ d => uptoBulk d + 1
  | .map entries => uptoBulkEntries entries + 1
  | .held _ => 1
def uptoBulkAll {H : Type} : List (DataW H) → Nat
  | [] => 0
  | d :: r => uptoBulk d + uptoBulkAll r
def uptoBulkEntries {H : Type} : List (Lit × DataW H) → Nat
  | [] => 0
  | x :: r => uptoBulkEntry x + uptoBulkEntries r
def uptoBulkEntry {H : Type} : Lit × DataW H → Nat
  | (.string bytes, d) => bytes.length + uptoBulk d + 1
  | (_, d) => uptoBulk d + 1
 end
def uptoSmall : (H : Type) → List (DataW H) → Bool := fun _ ds => decide (uptoBulkAll ds ≤ 1048576)
def OpenSpec.upto (s : _root_.Go.ChangeSpec) : _root_.Go.OpenSpec := { _root_.Go.OpenSpec.ofChange s with cond := some uptoSmall }

/-- 'seisinlaw07.CheckParts', WHERE WHAT IT READS IS OF BULK AT MOST 1048576: true; the input reads as it did. -/
def checkPartsUptoRow : OpenClaim := { program := "ytmfdpnjgljlkbaadoor", sum := "3a7d09da579ee23de02e95f54921336e3ab9e554848ad14b301880e1dfe28e33", func := "seisin/seisinlaw07.CheckParts", spec := "checkParts", unfollowed := true, recurses := true, named := ["seisin/check.needs"], loops := true, apart := false, laid := [("seisin/check.needs", laid_seisin_check_needs)], narrowed := true }
def CheckPartsUptoSaid : Prop := checkPartsUptoRow.holds Tryd.pinned (OpenSpec.upto checkPartsSpec)

/-- 'seisinlaw07.CheckFolds', WHERE WHAT IT READS IS OF BULK AT MOST 1048576: true; the input reads as it did. -/
def checkFoldsUptoRow : OpenClaim := { program := "ytmfdpnjgljlkbaadoor", sum := "3a7d09da579ee23de02e95f54921336e3ab9e554848ad14b301880e1dfe28e33", func := "seisin/seisinlaw07.CheckFolds", spec := "checkFolds", unfollowed := true, recurses := true, named := ["seisin/check.needs"], loops := true, apart := false, laid := [("seisin/check.needs", laid_seisin_check_needs)], narrowed := true }
def CheckFoldsUptoSaid : Prop := checkFoldsUptoRow.holds Tryd.pinned (OpenSpec.upto checkFoldsSpec)

/-- 'seisinlaw07.CheckRuns', WHERE WHAT IT READS IS OF BULK AT MOST 1048576: true; the input reads as it did. -/
def checkRunsUptoRow : OpenClaim := { program := "ytmfdpnjgljlkbaadoor", sum := "3a7d09da579ee23de02e95f54921336e3ab9e554848ad14b301880e1dfe28e33", func := "seisin/seisinlaw07.CheckRuns", spec := "checkRuns", unfollowed := true, recurses := true, named := ["seisin/check.needs"], loops := true, apart := false, laid := [("seisin/check.needs", laid_seisin_check_needs)], narrowed := true }
def CheckRunsUptoSaid : Prop := checkRunsUptoRow.holds Tryd.pinned (OpenSpec.upto checkRunsSpec)

/-- 'seisinlaw07.CheckBack', WHERE WHAT IT READS IS OF BULK AT MOST 1048576: true; the input reads as it did. -/
def checkBackUptoRow : OpenClaim := { program := "ytmfdpnjgljlkbaadoor", sum := "3a7d09da579ee23de02e95f54921336e3ab9e554848ad14b301880e1dfe28e33", func := "seisin/seisinlaw07.CheckBack", spec := "checkBack", unfollowed := true, recurses := true, named := ["seisin/check.needs"], loops := true, apart := false, laid := [("seisin/check.needs", laid_seisin_check_needs)], narrowed := true }
def CheckBackUptoSaid : Prop := checkBackUptoRow.holds Tryd.pinned (OpenSpec.upto checkBackSpec)

end Rows
end Go.Proofs.YtmfdpnjgljlkbaaDoor
