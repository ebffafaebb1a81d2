/-
  NARROWER THAN 'FOR EVERY INPUT', by the rows' own cells (each row's printed sentence says how): AtomicCommutes: loops, laid · AtomicSums: laid · AtomicTells: loops, laid · AtomicSteps: loops, laid · AtomicPlays: loops, laid · AtomicWrong: loops, laid.
  DERIVED. THE GIVEN ROWS OF THIS SEAT. 6 by the template 'for every input the law returns true; each argument reads behind the call as it read before'; 0 by the template 'total and deterministic' (their statements: YtfemniboggnbiaaDoorTotals.lean).
  GIVEN WITH THE SEED: the statements are not yours to turn. If you find one false, say at which input.
  Laid BY PROGRAM, IN A SANDBOX (cutbox-rows.mjs): the forced cells as the released guide's own fill.sh prints them over the translation 57a3c4ae97cdc17e… (all of the seat's roots in one cut). By AI agents, Wed Nov 11 2026. No macro, syntax, notation, axiom, sorry.
-/
import Derived.Test.YtfemniboggnbiaaDoorChecked
import GoSem.Claim
import GoSem.ClaimJoined
import GoSem.ClaimMapViews
import Derived.JoinedTies
import Derived.KernelRfl
namespace Go.Proofs.YtfemniboggnbiaaDoor
/- THE CELL 'sum', in the pinned program and in every row, IS THE sha256 OF THE DUMP (.gsa) THAT YtfemniboggnbiaaDoorProg.lean LOADS. Nothing in Lean hashes anything: it is a label: what it is worth is what the hold of that sum in a sandbox is worth. -/
noncomputable def Tryd.pinned : Pinned := { name := "ytfemniboggnbiaadoor", sum := "57a3c4ae97cdc17ebb2454581769125a8c8813161aca4d15e761fa2f47e2655b", checked := Tryd.checked }
namespace Rows
def none {H : Type} : Left H := { results := [], args := [] }

/- WHAT THE LISTED PACKAGE-LEVEL VARIABLES READ AS WHEN THE CALL BEGINS. Each datum BY PROGRAM (the guide's laid-datum.mjs) off the statement by which the dump's own 'gosem.cut.vars' lays the variable. In a bare row this is a premise. The card (YtfemniboggnbiaaDoorCards.lean) ties it to the program's text. -/
def laid_seisin_check_needs {H : Type} : DataW H := .agg [.lit (.int .u8 0), .lit (.int .u8 35), .lit (.int .u8 38), .lit (.int .u8 29), .lit (.int .u8 7), .lit (.int .u8 7), .lit (.int .u8 15), .lit (.int .u8 32), .lit (.int .u8 92)]

/-- 'seisinlaw13.AtomicCommutes': WHATEVER THE INPUT: true; the input reads as it did. -/
def atomicCommutesSpec : ChangeSpec := { name := "atomicCommutes", fn := fun _ => fun
  | [d1, d2, d3, d4] => { results := [.lit (.bool true)], args := [d1, d2, d3, d4] }
  | _ => none }
def atomicCommutesRow : OpenClaim := { program := "ytfemniboggnbiaadoor", sum := "57a3c4ae97cdc17ebb2454581769125a8c8813161aca4d15e761fa2f47e2655b", func := "seisin/seisinlaw13.AtomicCommutes", spec := "atomicCommutes", unfollowed := true, recurses := true, named := ["seisin/check.needs"], loops := true, apart := false, laid := [("seisin/check.needs", laid_seisin_check_needs)] }
def AtomicCommutesSaid : Prop := atomicCommutesRow.holds Tryd.pinned (OpenSpec.ofChange atomicCommutesSpec)

/-- ITS FALSE NEIGHBOUR: 'it returns false'. Refute it at one input. -/
def atomicCommutesWrong : ChangeSpec := { name := "atomicCommutes", fn := fun _ => fun
  | [d1, d2, d3, d4] => { results := [.lit (.bool false)], args := [d1, d2, d3, d4] }
  | _ => none }
def AtomicCommutesWrongFalsely : Prop := atomicCommutesRow.holds Tryd.pinned (OpenSpec.ofChange atomicCommutesWrong)

/-- 'seisinlaw13.AtomicSums': WHATEVER THE INPUT: true; the input reads as it did. -/
def atomicSumsSpec : ChangeSpec := { name := "atomicSums", fn := fun _ => fun
  | [d1, d2, d3, d4] => { results := [.lit (.bool true)], args := [d1, d2, d3, d4] }
  | _ => none }
def atomicSumsRow : OpenClaim := { program := "ytfemniboggnbiaadoor", sum := "57a3c4ae97cdc17ebb2454581769125a8c8813161aca4d15e761fa2f47e2655b", func := "seisin/seisinlaw13.AtomicSums", spec := "atomicSums", unfollowed := true, recurses := true, named := ["seisin/check.needs"], apart := false, laid := [("seisin/check.needs", laid_seisin_check_needs)] }
def AtomicSumsSaid : Prop := atomicSumsRow.holds Tryd.pinned (OpenSpec.ofChange atomicSumsSpec)

/-- ITS FALSE NEIGHBOUR: 'it returns false'. Refute it at one input. -/
def atomicSumsWrong : ChangeSpec := { name := "atomicSums", fn := fun _ => fun
  | [d1, d2, d3, d4] => { results := [.lit (.bool false)], args := [d1, d2, d3, d4] }
  | _ => none }
def AtomicSumsWrongFalsely : Prop := atomicSumsRow.holds Tryd.pinned (OpenSpec.ofChange atomicSumsWrong)

/-- 'seisinlaw13.AtomicTells': WHATEVER THE INPUT: true; the input reads as it did. -/
def atomicTellsSpec : ChangeSpec := { name := "atomicTells", fn := fun _ => fun
  | [d1, d2, d3, d4, d5, d6] => { results := [.lit (.bool true)], args := [d1, d2, d3, d4, d5, d6] }
  | _ => none }
def atomicTellsRow : OpenClaim := { program := "ytfemniboggnbiaadoor", sum := "57a3c4ae97cdc17ebb2454581769125a8c8813161aca4d15e761fa2f47e2655b", func := "seisin/seisinlaw13.AtomicTells", spec := "atomicTells", unfollowed := true, recurses := true, named := ["seisin/check.needs"], loops := true, apart := false, laid := [("seisin/check.needs", laid_seisin_check_needs)] }
def AtomicTellsSaid : Prop := atomicTellsRow.holds Tryd.pinned (OpenSpec.ofChange atomicTellsSpec)

/-- ITS FALSE NEIGHBOUR: 'it returns false'. Refute it at one input. -/
def atomicTellsWrong : ChangeSpec := { name := "atomicTells", fn := fun _ => fun
  | [d1, d2, d3, d4, d5, d6] => { results := [.lit (.bool false)], args := [d1, d2, d3, d4, d5, d6] }
  | _ => none }
def AtomicTellsWrongFalsely : Prop := atomicTellsRow.holds Tryd.pinned (OpenSpec.ofChange atomicTellsWrong)

/-- 'seisinlaw13.AtomicSteps': WHATEVER THE INPUT: true; the input reads as it did. -/
def atomicStepsSpec : ChangeSpec := { name := "atomicSteps", fn := fun _ => fun
  | [d1, d2, d3] => { results := [.lit (.bool true)], args := [d1, d2, d3] }
  | _ => none }
def atomicStepsRow : OpenClaim := { program := "ytfemniboggnbiaadoor", sum := "57a3c4ae97cdc17ebb2454581769125a8c8813161aca4d15e761fa2f47e2655b", func := "seisin/seisinlaw13.AtomicSteps", spec := "atomicSteps", unfollowed := true, recurses := true, named := ["seisin/check.needs"], loops := true, apart := false, laid := [("seisin/check.needs", laid_seisin_check_needs)] }
def AtomicStepsSaid : Prop := atomicStepsRow.holds Tryd.pinned (OpenSpec.ofChange atomicStepsSpec)

/-- ITS FALSE NEIGHBOUR: 'it returns false'. Refute it at one input. -/
def atomicStepsWrong : ChangeSpec := { name := "atomicSteps", fn := fun _ => fun
  | [d1, d2, d3] => { results := [.lit (.bool false)], args := [d1, d2, d3] }
  | _ => none }
def AtomicStepsWrongFalsely : Prop := atomicStepsRow.holds Tryd.pinned (OpenSpec.ofChange atomicStepsWrong)

/-- 'seisinlaw13.AtomicPlays': WHATEVER THE INPUT: true; the input reads as it did. -/
def atomicPlaysSpec : ChangeSpec := { name := "atomicPlays", fn := fun _ => fun
  | [d1, d2] => { results := [.lit (.bool true)], args := [d1, d2] }
  | _ => none }
def atomicPlaysRow : OpenClaim := { program := "ytfemniboggnbiaadoor", sum := "57a3c4ae97cdc17ebb2454581769125a8c8813161aca4d15e761fa2f47e2655b", func := "seisin/seisinlaw13.AtomicPlays", spec := "atomicPlays", unfollowed := true, recurses := true, named := ["seisin/check.needs"], loops := true, apart := false, laid := [("seisin/check.needs", laid_seisin_check_needs)] }
def AtomicPlaysSaid : Prop := atomicPlaysRow.holds Tryd.pinned (OpenSpec.ofChange atomicPlaysSpec)

/-- ITS FALSE NEIGHBOUR: 'it returns false'. Refute it at one input. -/
def atomicPlaysWrong : ChangeSpec := { name := "atomicPlays", fn := fun _ => fun
  | [d1, d2] => { results := [.lit (.bool false)], args := [d1, d2] }
  | _ => none }
def AtomicPlaysWrongFalsely : Prop := atomicPlaysRow.holds Tryd.pinned (OpenSpec.ofChange atomicPlaysWrong)

/-- 'seisinlaw13.AtomicWrong': WHATEVER THE INPUT: true; the input reads as it did. -/
def atomicWrongSpec : ChangeSpec := { name := "atomicWrong", fn := fun _ => fun
  | [d1, d2, d3, d4] => { results := [.lit (.bool true)], args := [d1, d2, d3, d4] }
  | _ => none }
def atomicWrongRow : OpenClaim := { program := "ytfemniboggnbiaadoor", sum := "57a3c4ae97cdc17ebb2454581769125a8c8813161aca4d15e761fa2f47e2655b", func := "seisin/seisinlaw13.AtomicWrong", spec := "atomicWrong", unfollowed := true, recurses := true, named := ["seisin/check.needs"], loops := true, apart := false, laid := [("seisin/check.needs", laid_seisin_check_needs)] }
def AtomicWrongSaid : Prop := atomicWrongRow.holds Tryd.pinned (OpenSpec.ofChange atomicWrongSpec)

/-- ITS FALSE NEIGHBOUR: 'it returns false'. Refute it at one input. -/
def atomicWrongWrong : ChangeSpec := { name := "atomicWrong", fn := fun _ => fun
  | [d1, d2, d3, d4] => { results := [.lit (.bool false)], args := [d1, d2, d3, d4] }
  | _ => none }
def AtomicWrongWrongFalsely : Prop := atomicWrongRow.holds Tryd.pinned (OpenSpec.ofChange atomicWrongWrong)

/- THE SECOND FORM. 'bulk': how many values and letters a reading holds, each counted each time it is reached (what is shared counts as often as it is met; a slice's spare places count too). A statement '..UptoSaid' is the law's where the arguments, and the package variables that the reading takes, are together of bulk at most 1048576: NARROWER than '..Said'. Prove '..Said' where nothing that the law and all that it calls make is longer than what came in: it says more and counts as full. Else prove '..UptoSaid'. A law counts once. -/
mutual
def uptoBulk {H : Type} : DataW H → Nat
  | .lit (.string bytes) => bytes.length + 1
  | .lit _ => 1
  | .nil => 1
  | .ptr d => uptoBulk d + 1
  | .slice elems spare => uptoBulkAll elems + uptoBulkAll spare + 1
  | .agg parts => uptoBulkAll parts + 1
  | .iface _ d => uptoBulk d + 1
  | .map entries => uptoBulkEntries entries + 1
  | .held _ => 1
def uptoBulkAll {H : Type} : List (DataW H) → Nat
  | [] => 0
  | d :: r => uptoBulk d + uptoBulkAll r
def uptoBulkEntries {H : Type} : List (Lit × DataW H) → Nat
  | [] => 0
  | x :: r => uptoBulkEntry x + uptoBulkEntries r
def uptoBulkEntry {H : Type} : Lit × DataW H → Nat
  | (.string bytes, d) => bytes.length + uptoBulk d + 1
  | (_, d) => uptoBulk d + 1
 end
def uptoSmall : (H : Type) → List (DataW H) → Bool := fun _ ds => decide (uptoBulkAll ds ≤ 1048576)
def OpenSpec.upto (s : _root_.Go.ChangeSpec) : _root_.Go.OpenSpec := { _root_.Go.OpenSpec.ofChange s with cond := some uptoSmall }

/-- 'seisinlaw13.AtomicCommutes', WHERE WHAT IT READS IS OF BULK AT MOST 1048576: true; the input reads as it did. -/
def atomicCommutesUptoRow : OpenClaim := { program := "ytfemniboggnbiaadoor", sum := "57a3c4ae97cdc17ebb2454581769125a8c8813161aca4d15e761fa2f47e2655b", func := "seisin/seisinlaw13.AtomicCommutes", spec := "atomicCommutes", unfollowed := true, recurses := true, named := ["seisin/check.needs"], loops := true, apart := false, laid := [("seisin/check.needs", laid_seisin_check_needs)], narrowed := true }
def AtomicCommutesUptoSaid : Prop := atomicCommutesUptoRow.holds Tryd.pinned (OpenSpec.upto atomicCommutesSpec)

/-- 'seisinlaw13.AtomicSums', WHERE WHAT IT READS IS OF BULK AT MOST 1048576: true; the input reads as it did. -/
def atomicSumsUptoRow : OpenClaim := { program := "ytfemniboggnbiaadoor", sum := "57a3c4ae97cdc17ebb2454581769125a8c8813161aca4d15e761fa2f47e2655b", func := "seisin/seisinlaw13.AtomicSums", spec := "atomicSums", unfollowed := true, recurses := true, named := ["seisin/check.needs"], apart := false, laid := [("seisin/check.needs", laid_seisin_check_needs)], narrowed := true }
def AtomicSumsUptoSaid : Prop := atomicSumsUptoRow.holds Tryd.pinned (OpenSpec.upto atomicSumsSpec)

/-- 'seisinlaw13.AtomicTells', WHERE WHAT IT READS IS OF BULK AT MOST 1048576: true; the input reads as it did. -/
def atomicTellsUptoRow : OpenClaim := { program := "ytfemniboggnbiaadoor", sum := "57a3c4ae97cdc17ebb2454581769125a8c8813161aca4d15e761fa2f47e2655b", func := "seisin/seisinlaw13.AtomicTells", spec := "atomicTells", unfollowed := true, recurses := true, named := ["seisin/check.needs"], loops := true, apart := false, laid := [("seisin/check.needs", laid_seisin_check_needs)], narrowed := true }
def AtomicTellsUptoSaid : Prop := atomicTellsUptoRow.holds Tryd.pinned (OpenSpec.upto atomicTellsSpec)

/-- 'seisinlaw13.AtomicSteps', WHERE WHAT IT READS IS OF BULK AT MOST 1048576: true; the input reads as it did. -/
def atomicStepsUptoRow : OpenClaim := { program := "ytfemniboggnbiaadoor", sum := "57a3c4ae97cdc17ebb2454581769125a8c8813161aca4d15e761fa2f47e2655b", func := "seisin/seisinlaw13.AtomicSteps", spec := "atomicSteps", unfollowed := true, recurses := true, named := ["seisin/check.needs"], loops := true, apart := false, laid := [("seisin/check.needs", laid_seisin_check_needs)], narrowed := true }
def AtomicStepsUptoSaid : Prop := atomicStepsUptoRow.holds Tryd.pinned (OpenSpec.upto atomicStepsSpec)

/-- 'seisinlaw13.AtomicPlays', WHERE WHAT IT READS IS OF BULK AT MOST 1048576: true; the input reads as it did. -/
def atomicPlaysUptoRow : OpenClaim := { program := "ytfemniboggnbiaadoor", sum := "57a3c4ae97cdc17ebb2454581769125a8c8813161aca4d15e761fa2f47e2655b", func := "seisin/seisinlaw13.AtomicPlays", spec := "atomicPlays", unfollowed := true, recurses := true, named := ["seisin/check.needs"], loops := true, apart := false, laid := [("seisin/check.needs", laid_seisin_check_needs)], narrowed := true }
def AtomicPlaysUptoSaid : Prop := atomicPlaysUptoRow.holds Tryd.pinned (OpenSpec.upto atomicPlaysSpec)

/-- 'seisinlaw13.AtomicWrong', WHERE WHAT IT READS IS OF BULK AT MOST 1048576: true; the input reads as it did. -/
def atomicWrongUptoRow : OpenClaim := { program := "ytfemniboggnbiaadoor", sum := "57a3c4ae97cdc17ebb2454581769125a8c8813161aca4d15e761fa2f47e2655b", func := "seisin/seisinlaw13.AtomicWrong", spec := "atomicWrong", unfollowed := true, recurses := true, named := ["seisin/check.needs"], loops := true, apart := false, laid := [("seisin/check.needs", laid_seisin_check_needs)], narrowed := true }
def AtomicWrongUptoSaid : Prop := atomicWrongUptoRow.holds Tryd.pinned (OpenSpec.upto atomicWrongSpec)

end Rows
end Go.Proofs.YtfemniboggnbiaaDoor
