/-
  DERIVED. GIVEN WITH THE SEED: THE CARDS: each row of YtajfpcgbnflceaaGreatDoorRows.lean that lists a variable, with what it lists TIED to the program's text (the seventh form; the later family's looks); each row that meets fmt, with fmt's text TOLD by the authors' own Lean function (tested against real Go, not proved from fmt's source: count such statements apart). THE CARD IS WHAT COUNTS. Prove the row's statement (the work); the ties are given (YtajfpcgbnflceaaGreatDoorTie.lean); close each card by the builder's one call (the guide's Derived/Test/ToyasCard.lean, 'card_holds'). Laid BY PROGRAM, IN A SANDBOX (cutbox-door.mjs). By AI agents, Wed Nov 11 2026. No macro, syntax, notation, axiom, sorry.
-/
import Derived.Test.YtajfpcgbnflceaaGreatDoorRows
import GoSem.ClaimSeven
namespace Go.Proofs.YtajfpcgbnflceaaGreatDoor
namespace Rows

/-- THE TIED CARD OF 'seisintop.TopSC'. -/
def topSCCard : Claim7 := { stood := { row := topSCRow, standIns := [], harness := (true, "e622c6ee36e4f3028def4be6fbbfcdcbbec990c59ce2cebc74934269faf731cd"), looks := false }, kinds := [], alts := [], laidByText := true, laidKinds := [.data, .data, .data], laidTests := true, laidLooks := .later }
def TopSCCardSaid : Prop := Claim7.holds Tryz.pinned (.plain (OpenSpec.ofChange topSCSpec)) topSCCard

/-- THE SECOND FORM's CARD OF 'seisintop.TopSC'. -/
def topSCUptoCard : Claim7 := { stood := { row := topSCUptoRow, standIns := [], harness := (true, "e622c6ee36e4f3028def4be6fbbfcdcbbec990c59ce2cebc74934269faf731cd"), looks := false }, kinds := [], alts := [], laidByText := true, laidKinds := [.data, .data, .data], laidTests := true, laidLooks := .later }
def TopSCUptoCardSaid : Prop := Claim7.holds Tryz.pinned (.plain (OpenSpec.upto topSCSpec)) topSCUptoCard
end Rows
end Go.Proofs.YtajfpcgbnflceaaGreatDoor
