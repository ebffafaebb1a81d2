/-
  DERIVED. GIVEN WITH THE SEED: THE CARDS: each row of YtfemniboggnbiaaDoorRows.lean that lists a variable, with what it lists TIED to the program's text (the seventh form; the later family's looks); each row that meets fmt, with fmt's text TOLD by the authors' own Lean function (tested against real Go, not proved from fmt's source: count such statements apart). THE CARD IS WHAT COUNTS. Prove the row's statement (the work); the ties are given (YtfemniboggnbiaaDoorTie.lean); close each card by the builder's one call (the guide's Derived/Test/ToyasCard.lean, 'card_holds'). Laid BY PROGRAM, IN A SANDBOX (cutbox-door.mjs). By AI agents, Wed Nov 11 2026. No macro, syntax, notation, axiom, sorry.
-/
import Derived.Test.YtfemniboggnbiaaDoorRows
import GoSem.ClaimSeven
namespace Go.Proofs.YtfemniboggnbiaaDoor
namespace Rows

/-- THE TIED CARD OF 'seisinlaw13.AtomicCommutes'. -/
def atomicCommutesCard : Claim7 := { stood := { row := atomicCommutesRow, standIns := [], harness := (true, "9bd160127643cda9fad78c800f02e55e4b1522b1ea0f94937e3701e129c071f2"), looks := false }, kinds := [], alts := [], laidByText := true, laidKinds := [.data], laidTests := true, laidLooks := .later }
def AtomicCommutesCardSaid : Prop := Claim7.holds Tryd.pinned (.plain (OpenSpec.ofChange atomicCommutesSpec)) atomicCommutesCard

/-- THE TIED CARD OF 'seisinlaw13.AtomicSums'. -/
def atomicSumsCard : Claim7 := { stood := { row := atomicSumsRow, standIns := [], harness := (true, "9bd160127643cda9fad78c800f02e55e4b1522b1ea0f94937e3701e129c071f2"), looks := false }, kinds := [], alts := [], laidByText := true, laidKinds := [.data], laidTests := true, laidLooks := .later }
def AtomicSumsCardSaid : Prop := Claim7.holds Tryd.pinned (.plain (OpenSpec.ofChange atomicSumsSpec)) atomicSumsCard

/-- THE TIED CARD OF 'seisinlaw13.AtomicTells'. -/
def atomicTellsCard : Claim7 := { stood := { row := atomicTellsRow, standIns := [], harness := (true, "9bd160127643cda9fad78c800f02e55e4b1522b1ea0f94937e3701e129c071f2"), looks := false }, kinds := [], alts := [], laidByText := true, laidKinds := [.data], laidTests := true, laidLooks := .later }
def AtomicTellsCardSaid : Prop := Claim7.holds Tryd.pinned (.plain (OpenSpec.ofChange atomicTellsSpec)) atomicTellsCard

/-- THE TIED CARD OF 'seisinlaw13.AtomicSteps'. -/
def atomicStepsCard : Claim7 := { stood := { row := atomicStepsRow, standIns := [], harness := (true, "9bd160127643cda9fad78c800f02e55e4b1522b1ea0f94937e3701e129c071f2"), looks := false }, kinds := [], alts := [], laidByText := true, laidKinds := [.data], laidTests := true, laidLooks := .later }
def AtomicStepsCardSaid : Prop := Claim7.holds Tryd.pinned (.plain (OpenSpec.ofChange atomicStepsSpec)) atomicStepsCard

/-- THE TIED CARD OF 'seisinlaw13.AtomicPlays'. -/
def atomicPlaysCard : Claim7 := { stood := { row := atomicPlaysRow, standIns := [], harness := (true, "9bd160127643cda9fad78c800f02e55e4b1522b1ea0f94937e3701e129c071f2"), looks := false }, kinds := [], alts := [], laidByText := true, laidKinds := [.data], laidTests := true, laidLooks := .later }
def AtomicPlaysCardSaid : Prop := Claim7.holds Tryd.pinned (.plain (OpenSpec.ofChange atomicPlaysSpec)) atomicPlaysCard

/-- THE TIED CARD OF 'seisinlaw13.AtomicWrong'. -/
def atomicWrongCard : Claim7 := { stood := { row := atomicWrongRow, standIns := [], harness := (true, "9bd160127643cda9fad78c800f02e55e4b1522b1ea0f94937e3701e129c071f2"), looks := false }, kinds := [], alts := [], laidByText := true, laidKinds := [.data], laidTests := true, laidLooks := .later }
def AtomicWrongCardSaid : Prop := Claim7.holds Tryd.pinned (.plain (OpenSpec.ofChange atomicWrongSpec)) atomicWrongCard

/-- THE SECOND FORM's CARD OF 'seisinlaw13.AtomicCommutes'. -/
def atomicCommutesUptoCard : Claim7 := { stood := { row := atomicCommutesUptoRow, standIns := [], harness := (true, "9bd160127643cda9fad78c800f02e55e4b1522b1ea0f94937e3701e129c071f2"), looks := false }, kinds := [], alts := [], laidByText := true, laidKinds := [.data], laidTests := true, laidLooks := .later }
def AtomicCommutesUptoCardSaid : Prop := Claim7.holds Tryd.pinned (.plain (OpenSpec.upto atomicCommutesSpec)) atomicCommutesUptoCard

/-- THE SECOND FORM's CARD OF 'seisinlaw13.AtomicSums'. -/
def atomicSumsUptoCard : Claim7 := { stood := { row := atomicSumsUptoRow, standIns := [], harness := (true, "9bd160127643cda9fad78c800f02e55e4b1522b1ea0f94937e3701e129c071f2"), looks := false }, kinds := [], alts := [], laidByText := true, laidKinds := [.data], laidTests := true, laidLooks := .later }
def AtomicSumsUptoCardSaid : Prop := Claim7.holds Tryd.pinned (.plain (OpenSpec.upto atomicSumsSpec)) atomicSumsUptoCard

/-- THE SECOND FORM's CARD OF 'seisinlaw13.AtomicTells'. -/
def atomicTellsUptoCard : Claim7 := { stood := { row := atomicTellsUptoRow, standIns := [], harness := (true, "9bd160127643cda9fad78c800f02e55e4b1522b1ea0f94937e3701e129c071f2"), looks := false }, kinds := [], alts := [], laidByText := true, laidKinds := [.data], laidTests := true, laidLooks := .later }
def AtomicTellsUptoCardSaid : Prop := Claim7.holds Tryd.pinned (.plain (OpenSpec.upto atomicTellsSpec)) atomicTellsUptoCard

/-- THE SECOND FORM's CARD OF 'seisinlaw13.AtomicSteps'. -/
def atomicStepsUptoCard : Claim7 := { stood := { row := atomicStepsUptoRow, standIns := [], harness := (true, "9bd160127643cda9fad78c800f02e55e4b1522b1ea0f94937e3701e129c071f2"), looks := false }, kinds := [], alts := [], laidByText := true, laidKinds := [.data], laidTests := true, laidLooks := .later }
def AtomicStepsUptoCardSaid : Prop := Claim7.holds Tryd.pinned (.plain (OpenSpec.upto atomicStepsSpec)) atomicStepsUptoCard

/-- THE SECOND FORM's CARD OF 'seisinlaw13.AtomicPlays'. -/
def atomicPlaysUptoCard : Claim7 := { stood := { row := atomicPlaysUptoRow, standIns := [], harness := (true, "9bd160127643cda9fad78c800f02e55e4b1522b1ea0f94937e3701e129c071f2"), looks := false }, kinds := [], alts := [], laidByText := true, laidKinds := [.data], laidTests := true, laidLooks := .later }
def AtomicPlaysUptoCardSaid : Prop := Claim7.holds Tryd.pinned (.plain (OpenSpec.upto atomicPlaysSpec)) atomicPlaysUptoCard

/-- THE SECOND FORM's CARD OF 'seisinlaw13.AtomicWrong'. -/
def atomicWrongUptoCard : Claim7 := { stood := { row := atomicWrongUptoRow, standIns := [], harness := (true, "9bd160127643cda9fad78c800f02e55e4b1522b1ea0f94937e3701e129c071f2"), looks := false }, kinds := [], alts := [], laidByText := true, laidKinds := [.data], laidTests := true, laidLooks := .later }
def AtomicWrongUptoCardSaid : Prop := Claim7.holds Tryd.pinned (.plain (OpenSpec.upto atomicWrongSpec)) atomicWrongUptoCard
end Rows
end Go.Proofs.YtfemniboggnbiaaDoor
