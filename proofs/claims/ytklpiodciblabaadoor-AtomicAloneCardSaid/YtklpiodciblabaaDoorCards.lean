/-
  DERIVED. GIVEN WITH THE SEED: THE CARDS: each row of YtklpiodciblabaaDoorRows.lean that lists a variable, with what it lists TIED to the program's text (the seventh form; the later family's looks); each row that meets fmt, with fmt's text TOLD by the authors' own Lean function (tested against real Go, not proved from fmt's source: count such statements apart). THE CARD IS WHAT COUNTS. Prove the row's statement (the work); the ties are given (YtklpiodciblabaaDoorTie.lean); close each card by the builder's one call (the guide's Derived/Test/ToyasCard.lean, 'card_holds'). Laid BY PROGRAM, IN A SANDBOX (cutbox-door.mjs). By AI agents, Wed Nov 11 2026. No macro, syntax, notation, axiom, sorry.
-/
import Derived.Test.YtklpiodciblabaaDoorRows
import GoSem.ClaimSeven
namespace Go.Proofs.YtklpiodciblabaaDoor
namespace Rows

/-- THE TIED CARD OF 'seisinlaw13.AtomicAlone'. -/
def atomicAloneCard : Claim7 := { stood := { row := atomicAloneRow, standIns := [], harness := (true, "cf8f5a9f8be3b0fbf9ff4576cd23faba73c91eb5f38899d82de72afa6b3b9de5"), looks := false }, kinds := [], alts := [], laidByText := true, laidKinds := [.data, .data], laidTests := true, laidLooks := .later }
def AtomicAloneCardSaid : Prop := Claim7.holds Tryd.pinned (.plain (OpenSpec.ofChange atomicAloneSpec)) atomicAloneCard

/-- THE SECOND FORM's CARD OF 'seisinlaw13.AtomicAlone'. -/
def atomicAloneUptoCard : Claim7 := { stood := { row := atomicAloneUptoRow, standIns := [], harness := (true, "cf8f5a9f8be3b0fbf9ff4576cd23faba73c91eb5f38899d82de72afa6b3b9de5"), looks := false }, kinds := [], alts := [], laidByText := true, laidKinds := [.data, .data], laidTests := true, laidLooks := .later }
def AtomicAloneUptoCardSaid : Prop := Claim7.holds Tryd.pinned (.plain (OpenSpec.upto atomicAloneSpec)) atomicAloneUptoCard
end Rows
end Go.Proofs.YtklpiodciblabaaDoor
