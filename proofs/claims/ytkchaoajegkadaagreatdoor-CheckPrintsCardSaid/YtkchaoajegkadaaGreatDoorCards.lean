/-
  DERIVED. GIVEN WITH THE SEED: THE CARDS: each row of YtkchaoajegkadaaGreatDoorRows.lean that lists a variable, with what it lists TIED to the program's text (the seventh form; the later family's looks); each row that meets fmt, with fmt's text TOLD by the authors' own Lean function (tested against real Go, not proved from fmt's source: count such statements apart). THE CARD IS WHAT COUNTS. Prove the row's statement (the work); the ties are given (YtkchaoajegkadaaGreatDoorTie.lean); close each card by the builder's one call (the guide's Derived/Test/ToyasCard.lean, 'card_holds'). Laid BY PROGRAM, IN A SANDBOX (cutbox-door.mjs). By AI agents, Wed Nov 11 2026. No macro, syntax, notation, axiom, sorry.
-/
import Derived.Test.YtkchaoajegkadaaGreatDoorRows
import GoSem.ClaimSeven
namespace Go.Proofs.YtkchaoajegkadaaGreatDoor
namespace Rows

/-- THE TIED CARD OF 'seisinlaw06.PrintBack'. -/
def printBackCard : Claim7 := { stood := { row := printBackRow, standIns := [], harness := (true, "79015c4bc606bc7354b127f6291400ddc389b16e6f8eff96b9c01b0e89db55f2"), looks := true }, kinds := [], alts := [], laidByText := true, laidKinds := [.data, .data, .data], laidTests := true, laidLooks := .later }
def PrintBackCardSaid : Prop := Claim7.holds Tryz.pinned (.plain (OpenSpec.ofChange printBackSpec)) printBackCard

/-- THE TIED CARD OF 'seisinlaw06.PrintRead'. -/
def printReadCard : Claim7 := { stood := { row := printReadRow, standIns := [], harness := (true, "79015c4bc606bc7354b127f6291400ddc389b16e6f8eff96b9c01b0e89db55f2"), looks := true }, kinds := [], alts := [], laidByText := true, laidKinds := [.data, .data, .data], laidTests := true, laidLooks := .later }
def PrintReadCardSaid : Prop := Claim7.holds Tryz.pinned (.plain (OpenSpec.ofChange printReadSpec)) printReadCard

/-- THE TIED CARD OF 'seisinlaw06.PrintUnlike'. -/
def printUnlikeCard : Claim7 := { stood := { row := printUnlikeRow, standIns := [], harness := (true, "79015c4bc606bc7354b127f6291400ddc389b16e6f8eff96b9c01b0e89db55f2"), looks := true }, kinds := [], alts := [], laidByText := true, laidKinds := [.data, .data, .data], laidTests := true, laidLooks := .later }
def PrintUnlikeCardSaid : Prop := Claim7.holds Tryz.pinned (.plain (OpenSpec.ofChange printUnlikeSpec)) printUnlikeCard

/-- THE TIED CARD OF 'seisinlaw07.CheckPrints'. -/
def checkPrintsCard : Claim7 := { stood := { row := checkPrintsRow, standIns := [], harness := (true, "79015c4bc606bc7354b127f6291400ddc389b16e6f8eff96b9c01b0e89db55f2"), looks := true }, kinds := [], alts := [], laidByText := true, laidKinds := [.data, .data, .data, .data], laidTests := true, laidLooks := .later }
def CheckPrintsCardSaid : Prop := Claim7.holds Tryz.pinned (.plain (OpenSpec.ofChange checkPrintsSpec)) checkPrintsCard

/-- THE SECOND FORM's CARD OF 'seisinlaw06.PrintBack'. -/
def printBackUptoCard : Claim7 := { stood := { row := printBackUptoRow, standIns := [], harness := (true, "79015c4bc606bc7354b127f6291400ddc389b16e6f8eff96b9c01b0e89db55f2"), looks := true }, kinds := [], alts := [], laidByText := true, laidKinds := [.data, .data, .data], laidTests := true, laidLooks := .later }
def PrintBackUptoCardSaid : Prop := Claim7.holds Tryz.pinned (.plain (OpenSpec.upto printBackSpec)) printBackUptoCard

/-- THE SECOND FORM's CARD OF 'seisinlaw06.PrintRead'. -/
def printReadUptoCard : Claim7 := { stood := { row := printReadUptoRow, standIns := [], harness := (true, "79015c4bc606bc7354b127f6291400ddc389b16e6f8eff96b9c01b0e89db55f2"), looks := true }, kinds := [], alts := [], laidByText := true, laidKinds := [.data, .data, .data], laidTests := true, laidLooks := .later }
def PrintReadUptoCardSaid : Prop := Claim7.holds Tryz.pinned (.plain (OpenSpec.upto printReadSpec)) printReadUptoCard

/-- THE SECOND FORM's CARD OF 'seisinlaw06.PrintUnlike'. -/
def printUnlikeUptoCard : Claim7 := { stood := { row := printUnlikeUptoRow, standIns := [], harness := (true, "79015c4bc606bc7354b127f6291400ddc389b16e6f8eff96b9c01b0e89db55f2"), looks := true }, kinds := [], alts := [], laidByText := true, laidKinds := [.data, .data, .data], laidTests := true, laidLooks := .later }
def PrintUnlikeUptoCardSaid : Prop := Claim7.holds Tryz.pinned (.plain (OpenSpec.upto printUnlikeSpec)) printUnlikeUptoCard

/-- THE SECOND FORM's CARD OF 'seisinlaw07.CheckPrints'. -/
def checkPrintsUptoCard : Claim7 := { stood := { row := checkPrintsUptoRow, standIns := [], harness := (true, "79015c4bc606bc7354b127f6291400ddc389b16e6f8eff96b9c01b0e89db55f2"), looks := true }, kinds := [], alts := [], laidByText := true, laidKinds := [.data, .data, .data, .data], laidTests := true, laidLooks := .later }
def CheckPrintsUptoCardSaid : Prop := Claim7.holds Tryz.pinned (.plain (OpenSpec.upto checkPrintsSpec)) checkPrintsUptoCard
end Rows
end Go.Proofs.YtkchaoajegkadaaGreatDoor
