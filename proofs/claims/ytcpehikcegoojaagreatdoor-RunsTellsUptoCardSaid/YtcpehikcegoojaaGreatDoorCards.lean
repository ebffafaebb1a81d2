/-
  DERIVED. GIVEN WITH THE SEED: THE CARDS: each row of YtcpehikcegoojaaGreatDoorRows.lean that lists a variable, with what it lists TIED to the program's text (the seventh form; the later family's looks); each row that meets fmt, with fmt's text TOLD by the authors' own Lean function (tested against real Go, not proved from fmt's source: count such statements apart). THE CARD IS WHAT COUNTS. Prove the row's statement (the work); the ties are given (YtcpehikcegoojaaGreatDoorTie.lean); close each card by the builder's one call (the guide's Derived/Test/ToyasCard.lean, 'card_holds'). Laid BY PROGRAM, IN A SANDBOX (cutbox-door.mjs). By AI agents, Wed Nov 11 2026. No macro, syntax, notation, axiom, sorry.
-/
import Derived.Test.YtcpehikcegoojaaGreatDoorRows
import GoSem.ClaimSeven
namespace Go.Proofs.YtcpehikcegoojaaGreatDoor
namespace Rows

/-- THE TIED CARD OF 'seisinlaw15.RunsTells'. -/
def runsTellsCard : Claim7 := { stood := { row := runsTellsRow, standIns := [], harness := (true, "072bcc383b4877973432095acda3398e05370b4ed6faa678645807ae0b0c2f21"), looks := false }, kinds := [], alts := [], laidByText := true, laidKinds := [.data], laidTests := true, laidLooks := .later }
def RunsTellsCardSaid : Prop := Claim7.holds Tryz.pinned (.plain (OpenSpec.ofChange runsTellsSpec)) runsTellsCard

/-- THE SECOND FORM's CARD OF 'seisinlaw15.RunsTells'. -/
def runsTellsUptoCard : Claim7 := { stood := { row := runsTellsUptoRow, standIns := [], harness := (true, "072bcc383b4877973432095acda3398e05370b4ed6faa678645807ae0b0c2f21"), looks := false }, kinds := [], alts := [], laidByText := true, laidKinds := [.data], laidTests := true, laidLooks := .later }
def RunsTellsUptoCardSaid : Prop := Claim7.holds Tryz.pinned (.plain (OpenSpec.upto runsTellsSpec)) runsTellsUptoCard
end Rows
end Go.Proofs.YtcpehikcegoojaaGreatDoor
