/-
  DERIVED. GIVEN WITH THE SEED: THE CARDS: each row of YtmfdpnjgljlkbaaDoorRows.lean that lists a variable, with what it lists TIED to the program's text (the seventh form; the later family's looks); each row that meets fmt, with fmt's text TOLD by the authors' own Lean function (tested against real Go, not proved from fmt's source: count such statements apart). THE CARD IS WHAT COUNTS. Prove the row's statement (the work); the ties are given (YtmfdpnjgljlkbaaDoorTie.lean); close each card by the builder's one call (the guide's Derived/Test/ToyasCard.lean, 'card_holds'). Laid BY PROGRAM, IN A SANDBOX (cutbox-door.mjs). By AI agents, Wed Nov 11 2026. No macro, syntax, notation, axiom, sorry.
-/
import Derived.Test.YtmfdpnjgljlkbaaDoorRows
import GoSem.ClaimSeven
namespace Go.Proofs.YtmfdpnjgljlkbaaDoor
namespace Rows

/-- THE TIED CARD OF 'seisinlaw07.CheckParts'. -/
def checkPartsCard : Claim7 := { stood := { row := checkPartsRow, standIns := [], harness := (true, "530d8f9ab99b70601a7bbcc2cecdfc4426465db9266c1de46abd089ebe0c4cc2"), looks := false }, kinds := [], alts := [], laidByText := true, laidKinds := [.data], laidTests := true, laidLooks := .later }
def CheckPartsCardSaid : Prop := Claim7.holds Tryd.pinned (.plain (OpenSpec.ofChange checkPartsSpec)) checkPartsCard

/-- THE TIED CARD OF 'seisinlaw07.CheckFolds'. -/
def checkFoldsCard : Claim7 := { stood := { row := checkFoldsRow, standIns := [], harness := (true, "530d8f9ab99b70601a7bbcc2cecdfc4426465db9266c1de46abd089ebe0c4cc2"), looks := false }, kinds := [], alts := [], laidByText := true, laidKinds := [.data], laidTests := true, laidLooks := .later }
def CheckFoldsCardSaid : Prop := Claim7.holds Tryd.pinned (.plain (OpenSpec.ofChange checkFoldsSpec)) checkFoldsCard

/-- THE TIED CARD OF 'seisinlaw07.CheckRuns'. -/
def checkRunsCard : Claim7 := { stood := { row := checkRunsRow, standIns := [], harness := (true, "530d8f9ab99b70601a7bbcc2cecdfc4426465db9266c1de46abd089ebe0c4cc2"), looks := false }, kinds := [], alts := [], laidByText := true, laidKinds := [.data], laidTests := true, laidLooks := .later }
def CheckRunsCardSaid : Prop := Claim7.holds Tryd.pinned (.plain (OpenSpec.ofChange checkRunsSpec)) checkRunsCard

/-- THE TIED CARD OF 'seisinlaw07.CheckBack'. -/
def checkBackCard : Claim7 := { stood := { row := checkBackRow, standIns := [], harness := (true, "530d8f9ab99b70601a7bbcc2cecdfc4426465db9266c1de46abd089ebe0c4cc2"), looks := false }, kinds := [], alts := [], laidByText := true, laidKinds := [.data], laidTests := true, laidLooks := .later }
def CheckBackCardSaid : Prop := Claim7.holds Tryd.pinned (.plain (OpenSpec.ofChange checkBackSpec)) checkBackCard

/-- THE SECOND FORM's CARD OF 'seisinlaw07.CheckParts'. -/
def checkPartsUptoCard : Claim7 := { stood := { row := checkPartsUptoRow, standIns := [], harness := (true, "530d8f9ab99b70601a7bbcc2cecdfc4426465db9266c1de46abd089ebe0c4cc2"), looks := false }, kinds := [], alts := [], laidByText := true, laidKinds := [.data], laidTests := true, laidLooks := .later }
def CheckPartsUptoCardSaid : Prop := Claim7.holds Tryd.pinned (.plain (OpenSpec.upto checkPartsSpec)) checkPartsUptoCard

/-- THE SECOND FORM's CARD OF 'seisinlaw07.CheckFolds'. -/
def checkFoldsUptoCard : Claim7 := { stood := { row := checkFoldsUptoRow, standIns := [], harness := (true, "530d8f9ab99b70601a7bbcc2cecdfc4426465db9266c1de46abd089ebe0c4cc2"), looks := false }, kinds := [], alts := [], laidByText := true, laidKinds := [.data], laidTests := true, laidLooks := .later }
def CheckFoldsUptoCardSaid : Prop := Claim7.holds Tryd.pinned (.plain (OpenSpec.upto checkFoldsSpec)) checkFoldsUptoCard

/-- THE SECOND FORM's CARD OF 'seisinlaw07.CheckRuns'. -/
def checkRunsUptoCard : Claim7 := { stood := { row := checkRunsUptoRow, standIns := [], harness := (true, "530d8f9ab99b70601a7bbcc2cecdfc4426465db9266c1de46abd089ebe0c4cc2"), looks := false }, kinds := [], alts := [], laidByText := true, laidKinds := [.data], laidTests := true, laidLooks := .later }
def CheckRunsUptoCardSaid : Prop := Claim7.holds Tryd.pinned (.plain (OpenSpec.upto checkRunsSpec)) checkRunsUptoCard

/-- THE SECOND FORM's CARD OF 'seisinlaw07.CheckBack'. -/
def checkBackUptoCard : Claim7 := { stood := { row := checkBackUptoRow, standIns := [], harness := (true, "530d8f9ab99b70601a7bbcc2cecdfc4426465db9266c1de46abd089ebe0c4cc2"), looks := false }, kinds := [], alts := [], laidByText := true, laidKinds := [.data], laidTests := true, laidLooks := .later }
def CheckBackUptoCardSaid : Prop := Claim7.holds Tryd.pinned (.plain (OpenSpec.upto checkBackSpec)) checkBackUptoCard
end Rows
end Go.Proofs.YtmfdpnjgljlkbaaDoor
