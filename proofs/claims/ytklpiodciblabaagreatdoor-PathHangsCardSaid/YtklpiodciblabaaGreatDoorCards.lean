/-
  DERIVED. GIVEN WITH THE SEED: THE CARDS: each row of YtklpiodciblabaaGreatDoorRows.lean that lists a variable, with what it lists TIED to the program's text (the seventh form; the later family's looks); each row that meets fmt, with fmt's text TOLD by the authors' own Lean function (tested against real Go, not proved from fmt's source: count such statements apart). THE CARD IS WHAT COUNTS. Prove the row's statement (the work); the ties are given (YtklpiodciblabaaGreatDoorTie.lean); close each card by the builder's one call (the guide's Derived/Test/ToyasCard.lean, 'card_holds'). Laid BY PROGRAM, IN A SANDBOX (cutbox-door.mjs). By AI agents, Wed Nov 11 2026. No macro, syntax, notation, axiom, sorry.
-/
import Derived.Test.YtklpiodciblabaaGreatDoorRows
import GoSem.ClaimSeven
namespace Go.Proofs.YtklpiodciblabaaGreatDoor
namespace Rows

/-- THE TIED CARD OF 'seisinlaw08.PathFront'. -/
def pathFrontCard : Claim7 := { stood := { row := pathFrontRow, standIns := [], harness := (true, "42611e43cd3e3c7bc4334ad29eb6aefe74086f4fe1ed5272e9845f2fba025633"), looks := false }, kinds := [], alts := [], laidByText := true, laidKinds := [.data, .data], laidTests := true, laidLooks := .later }
def PathFrontCardSaid : Prop := Claim7.holds Tryz.pinned (.plain (OpenSpec.ofChange pathFrontSpec)) pathFrontCard

/-- THE TIED CARD OF 'seisinlaw08.PathHangs'. -/
def pathHangsCard : Claim7 := { stood := { row := pathHangsRow, standIns := [], harness := (true, "42611e43cd3e3c7bc4334ad29eb6aefe74086f4fe1ed5272e9845f2fba025633"), looks := false }, kinds := [], alts := [], laidByText := true, laidKinds := [.data, .data], laidTests := true, laidLooks := .later }
def PathHangsCardSaid : Prop := Claim7.holds Tryz.pinned (.plain (OpenSpec.ofChange pathHangsSpec)) pathHangsCard

/-- THE TIED CARD OF 'seisinlaw08.PathValues'. -/
def pathValuesCard : Claim7 := { stood := { row := pathValuesRow, standIns := [], harness := (true, "42611e43cd3e3c7bc4334ad29eb6aefe74086f4fe1ed5272e9845f2fba025633"), looks := false }, kinds := [], alts := [], laidByText := true, laidKinds := [.data, .data], laidTests := true, laidLooks := .later }
def PathValuesCardSaid : Prop := Claim7.holds Tryz.pinned (.plain (OpenSpec.ofChange pathValuesSpec)) pathValuesCard

/-- THE TIED CARD OF 'seisinlaw08.PathSums'. -/
def pathSumsCard : Claim7 := { stood := { row := pathSumsRow, standIns := [], harness := (true, "42611e43cd3e3c7bc4334ad29eb6aefe74086f4fe1ed5272e9845f2fba025633"), looks := false }, kinds := [], alts := [], laidByText := true, laidKinds := [.data, .data], laidTests := true, laidLooks := .later }
def PathSumsCardSaid : Prop := Claim7.holds Tryz.pinned (.plain (OpenSpec.ofChange pathSumsSpec)) pathSumsCard

/-- THE TIED CARD OF 'seisinlaw08.PathAtomic'. -/
def pathAtomicCard : Claim7 := { stood := { row := pathAtomicRow, standIns := [], harness := (true, "42611e43cd3e3c7bc4334ad29eb6aefe74086f4fe1ed5272e9845f2fba025633"), looks := false }, kinds := [], alts := [], laidByText := true, laidKinds := [.data, .data], laidTests := true, laidLooks := .later }
def PathAtomicCardSaid : Prop := Claim7.holds Tryz.pinned (.plain (OpenSpec.ofChange pathAtomicSpec)) pathAtomicCard

/-- THE TIED CARD OF 'seisinlaw08.PathTells'. -/
def pathTellsCard : Claim7 := { stood := { row := pathTellsRow, standIns := [], harness := (true, "42611e43cd3e3c7bc4334ad29eb6aefe74086f4fe1ed5272e9845f2fba025633"), looks := false }, kinds := [], alts := [], laidByText := true, laidKinds := [.data, .data], laidTests := true, laidLooks := .later }
def PathTellsCardSaid : Prop := Claim7.holds Tryz.pinned (.plain (OpenSpec.ofChange pathTellsSpec)) pathTellsCard

/-- THE TIED CARD OF 'seisinlaw08.PathReads'. -/
def pathReadsCard : Claim7 := { stood := { row := pathReadsRow, standIns := [], harness := (true, "42611e43cd3e3c7bc4334ad29eb6aefe74086f4fe1ed5272e9845f2fba025633"), looks := false }, kinds := [], alts := [], laidByText := true, laidKinds := [.data, .data], laidTests := true, laidLooks := .later }
def PathReadsCardSaid : Prop := Claim7.holds Tryz.pinned (.plain (OpenSpec.ofChange pathReadsSpec)) pathReadsCard

/-- THE TIED CARD OF 'seisinlaw08.PathAll'. -/
def pathAllCard : Claim7 := { stood := { row := pathAllRow, standIns := [], harness := (true, "42611e43cd3e3c7bc4334ad29eb6aefe74086f4fe1ed5272e9845f2fba025633"), looks := false }, kinds := [], alts := [], laidByText := true, laidKinds := [.data, .data], laidTests := true, laidLooks := .later }
def PathAllCardSaid : Prop := Claim7.holds Tryz.pinned (.plain (OpenSpec.ofChange pathAllSpec)) pathAllCard

/-- THE SECOND FORM's CARD OF 'seisinlaw08.PathFront'. -/
def pathFrontUptoCard : Claim7 := { stood := { row := pathFrontUptoRow, standIns := [], harness := (true, "42611e43cd3e3c7bc4334ad29eb6aefe74086f4fe1ed5272e9845f2fba025633"), looks := false }, kinds := [], alts := [], laidByText := true, laidKinds := [.data, .data], laidTests := true, laidLooks := .later }
def PathFrontUptoCardSaid : Prop := Claim7.holds Tryz.pinned (.plain (OpenSpec.upto pathFrontSpec)) pathFrontUptoCard

/-- THE SECOND FORM's CARD OF 'seisinlaw08.PathHangs'. -/
def pathHangsUptoCard : Claim7 := { stood := { row := pathHangsUptoRow, standIns := [], harness := (true, "42611e43cd3e3c7bc4334ad29eb6aefe74086f4fe1ed5272e9845f2fba025633"), looks := false }, kinds := [], alts := [], laidByText := true, laidKinds := [.data, .data], laidTests := true, laidLooks := .later }
def PathHangsUptoCardSaid : Prop := Claim7.holds Tryz.pinned (.plain (OpenSpec.upto pathHangsSpec)) pathHangsUptoCard

/-- THE SECOND FORM's CARD OF 'seisinlaw08.PathValues'. -/
def pathValuesUptoCard : Claim7 := { stood := { row := pathValuesUptoRow, standIns := [], harness := (true, "42611e43cd3e3c7bc4334ad29eb6aefe74086f4fe1ed5272e9845f2fba025633"), looks := false }, kinds := [], alts := [], laidByText := true, laidKinds := [.data, .data], laidTests := true, laidLooks := .later }
def PathValuesUptoCardSaid : Prop := Claim7.holds Tryz.pinned (.plain (OpenSpec.upto pathValuesSpec)) pathValuesUptoCard

/-- THE SECOND FORM's CARD OF 'seisinlaw08.PathSums'. -/
def pathSumsUptoCard : Claim7 := { stood := { row := pathSumsUptoRow, standIns := [], harness := (true, "42611e43cd3e3c7bc4334ad29eb6aefe74086f4fe1ed5272e9845f2fba025633"), looks := false }, kinds := [], alts := [], laidByText := true, laidKinds := [.data, .data], laidTests := true, laidLooks := .later }
def PathSumsUptoCardSaid : Prop := Claim7.holds Tryz.pinned (.plain (OpenSpec.upto pathSumsSpec)) pathSumsUptoCard

/-- THE SECOND FORM's CARD OF 'seisinlaw08.PathAtomic'. -/
def pathAtomicUptoCard : Claim7 := { stood := { row := pathAtomicUptoRow, standIns := [], harness := (true, "42611e43cd3e3c7bc4334ad29eb6aefe74086f4fe1ed5272e9845f2fba025633"), looks := false }, kinds := [], alts := [], laidByText := true, laidKinds := [.data, .data], laidTests := true, laidLooks := .later }
def PathAtomicUptoCardSaid : Prop := Claim7.holds Tryz.pinned (.plain (OpenSpec.upto pathAtomicSpec)) pathAtomicUptoCard

/-- THE SECOND FORM's CARD OF 'seisinlaw08.PathTells'. -/
def pathTellsUptoCard : Claim7 := { stood := { row := pathTellsUptoRow, standIns := [], harness := (true, "42611e43cd3e3c7bc4334ad29eb6aefe74086f4fe1ed5272e9845f2fba025633"), looks := false }, kinds := [], alts := [], laidByText := true, laidKinds := [.data, .data], laidTests := true, laidLooks := .later }
def PathTellsUptoCardSaid : Prop := Claim7.holds Tryz.pinned (.plain (OpenSpec.upto pathTellsSpec)) pathTellsUptoCard

/-- THE SECOND FORM's CARD OF 'seisinlaw08.PathReads'. -/
def pathReadsUptoCard : Claim7 := { stood := { row := pathReadsUptoRow, standIns := [], harness := (true, "42611e43cd3e3c7bc4334ad29eb6aefe74086f4fe1ed5272e9845f2fba025633"), looks := false }, kinds := [], alts := [], laidByText := true, laidKinds := [.data, .data], laidTests := true, laidLooks := .later }
def PathReadsUptoCardSaid : Prop := Claim7.holds Tryz.pinned (.plain (OpenSpec.upto pathReadsSpec)) pathReadsUptoCard

/-- THE SECOND FORM's CARD OF 'seisinlaw08.PathAll'. -/
def pathAllUptoCard : Claim7 := { stood := { row := pathAllUptoRow, standIns := [], harness := (true, "42611e43cd3e3c7bc4334ad29eb6aefe74086f4fe1ed5272e9845f2fba025633"), looks := false }, kinds := [], alts := [], laidByText := true, laidKinds := [.data, .data], laidTests := true, laidLooks := .later }
def PathAllUptoCardSaid : Prop := Claim7.holds Tryz.pinned (.plain (OpenSpec.upto pathAllSpec)) pathAllUptoCard
end Rows
end Go.Proofs.YtklpiodciblabaaGreatDoor
