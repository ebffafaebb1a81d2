/-
  DERIVED. GIVEN WITH THE SEED: THE CARDS: each row of YtjephfjnohgcbaaDoorRows.lean that lists a variable, with what it lists TIED to the program's text (the seventh form; the later family's looks); each row that meets fmt, with fmt's text TOLD by the authors' own Lean function (tested against real Go, not proved from fmt's source: count such statements apart). THE CARD IS WHAT COUNTS. Prove the row's statement (the work); the ties are given (YtjephfjnohgcbaaDoorTie.lean); close each card by the builder's one call (the guide's Derived/Test/ToyasCard.lean, 'card_holds'). Laid BY PROGRAM, IN A SANDBOX (cutbox-door.mjs). By AI agents, Wed Nov 11 2026. No macro, syntax, notation, axiom, sorry.
-/
import Derived.Test.YtjephfjnohgcbaaDoorRows
import GoSem.ClaimSeven
namespace Go.Proofs.YtjephfjnohgcbaaDoor
namespace Rows

/-- THE TIED CARD OF 'seisinlaw14.BufferOwn'. -/
def bufferOwnCard : Claim7 := { stood := { row := bufferOwnRow, standIns := [], harness := (true, "4e7a2e67f850644ee55a92a6a99cfaed80e7447906b771ff179c3961f42b7bad"), looks := false }, kinds := [], alts := [], laidByText := true, laidKinds := [.data], laidTests := true, laidLooks := .later }
def BufferOwnCardSaid : Prop := Claim7.holds Tryd.pinned (.plain (OpenSpec.ofChange bufferOwnSpec)) bufferOwnCard

/-- THE TIED CARD OF 'seisinlaw14.BufferOrder'. -/
def bufferOrderCard : Claim7 := { stood := { row := bufferOrderRow, standIns := [], harness := (true, "4e7a2e67f850644ee55a92a6a99cfaed80e7447906b771ff179c3961f42b7bad"), looks := false }, kinds := [], alts := [], laidByText := true, laidKinds := [.data], laidTests := true, laidLooks := .later }
def BufferOrderCardSaid : Prop := Claim7.holds Tryd.pinned (.plain (OpenSpec.ofChange bufferOrderSpec)) bufferOrderCard

/-- THE TIED CARD OF 'seisinlaw14.BufferWeaker'. -/
def bufferWeakerCard : Claim7 := { stood := { row := bufferWeakerRow, standIns := [], harness := (true, "4e7a2e67f850644ee55a92a6a99cfaed80e7447906b771ff179c3961f42b7bad"), looks := false }, kinds := [], alts := [], laidByText := true, laidKinds := [.data], laidTests := true, laidLooks := .later }
def BufferWeakerCardSaid : Prop := Claim7.holds Tryd.pinned (.plain (OpenSpec.ofChange bufferWeakerSpec)) bufferWeakerCard

/-- THE TIED CARD OF 'seisinlaw14.BufferFenced'. -/
def bufferFencedCard : Claim7 := { stood := { row := bufferFencedRow, standIns := [], harness := (true, "4e7a2e67f850644ee55a92a6a99cfaed80e7447906b771ff179c3961f42b7bad"), looks := false }, kinds := [], alts := [], laidByText := true, laidKinds := [.data], laidTests := true, laidLooks := .later }
def BufferFencedCardSaid : Prop := Claim7.holds Tryd.pinned (.plain (OpenSpec.ofChange bufferFencedSpec)) bufferFencedCard

/-- THE TIED CARD OF 'seisinlaw14.BufferWaits'. -/
def bufferWaitsCard : Claim7 := { stood := { row := bufferWaitsRow, standIns := [], harness := (true, "4e7a2e67f850644ee55a92a6a99cfaed80e7447906b771ff179c3961f42b7bad"), looks := false }, kinds := [], alts := [], laidByText := true, laidKinds := [.data], laidTests := true, laidLooks := .later }
def BufferWaitsCardSaid : Prop := Claim7.holds Tryd.pinned (.plain (OpenSpec.ofChange bufferWaitsSpec)) bufferWaitsCard

/-- THE TIED CARD OF 'seisinlaw14.BufferStrong'. -/
def bufferStrongCard : Claim7 := { stood := { row := bufferStrongRow, standIns := [], harness := (true, "4e7a2e67f850644ee55a92a6a99cfaed80e7447906b771ff179c3961f42b7bad"), looks := false }, kinds := [], alts := [], laidByText := true, laidKinds := [.data], laidTests := true, laidLooks := .later }
def BufferStrongCardSaid : Prop := Claim7.holds Tryd.pinned (.plain (OpenSpec.ofChange bufferStrongSpec)) bufferStrongCard

/-- THE SECOND FORM's CARD OF 'seisinlaw14.BufferOwn'. -/
def bufferOwnUptoCard : Claim7 := { stood := { row := bufferOwnUptoRow, standIns := [], harness := (true, "4e7a2e67f850644ee55a92a6a99cfaed80e7447906b771ff179c3961f42b7bad"), looks := false }, kinds := [], alts := [], laidByText := true, laidKinds := [.data], laidTests := true, laidLooks := .later }
def BufferOwnUptoCardSaid : Prop := Claim7.holds Tryd.pinned (.plain (OpenSpec.upto bufferOwnSpec)) bufferOwnUptoCard

/-- THE SECOND FORM's CARD OF 'seisinlaw14.BufferOrder'. -/
def bufferOrderUptoCard : Claim7 := { stood := { row := bufferOrderUptoRow, standIns := [], harness := (true, "4e7a2e67f850644ee55a92a6a99cfaed80e7447906b771ff179c3961f42b7bad"), looks := false }, kinds := [], alts := [], laidByText := true, laidKinds := [.data], laidTests := true, laidLooks := .later }
def BufferOrderUptoCardSaid : Prop := Claim7.holds Tryd.pinned (.plain (OpenSpec.upto bufferOrderSpec)) bufferOrderUptoCard

/-- THE SECOND FORM's CARD OF 'seisinlaw14.BufferWeaker'. -/
def bufferWeakerUptoCard : Claim7 := { stood := { row := bufferWeakerUptoRow, standIns := [], harness := (true, "4e7a2e67f850644ee55a92a6a99cfaed80e7447906b771ff179c3961f42b7bad"), looks := false }, kinds := [], alts := [], laidByText := true, laidKinds := [.data], laidTests := true, laidLooks := .later }
def BufferWeakerUptoCardSaid : Prop := Claim7.holds Tryd.pinned (.plain (OpenSpec.upto bufferWeakerSpec)) bufferWeakerUptoCard

/-- THE SECOND FORM's CARD OF 'seisinlaw14.BufferFenced'. -/
def bufferFencedUptoCard : Claim7 := { stood := { row := bufferFencedUptoRow, standIns := [], harness := (true, "4e7a2e67f850644ee55a92a6a99cfaed80e7447906b771ff179c3961f42b7bad"), looks := false }, kinds := [], alts := [], laidByText := true, laidKinds := [.data], laidTests := true, laidLooks := .later }
def BufferFencedUptoCardSaid : Prop := Claim7.holds Tryd.pinned (.plain (OpenSpec.upto bufferFencedSpec)) bufferFencedUptoCard

/-- THE SECOND FORM's CARD OF 'seisinlaw14.BufferWaits'. -/
def bufferWaitsUptoCard : Claim7 := { stood := { row := bufferWaitsUptoRow, standIns := [], harness := (true, "4e7a2e67f850644ee55a92a6a99cfaed80e7447906b771ff179c3961f42b7bad"), looks := false }, kinds := [], alts := [], laidByText := true, laidKinds := [.data], laidTests := true, laidLooks := .later }
def BufferWaitsUptoCardSaid : Prop := Claim7.holds Tryd.pinned (.plain (OpenSpec.upto bufferWaitsSpec)) bufferWaitsUptoCard

/-- THE SECOND FORM's CARD OF 'seisinlaw14.BufferStrong'. -/
def bufferStrongUptoCard : Claim7 := { stood := { row := bufferStrongUptoRow, standIns := [], harness := (true, "4e7a2e67f850644ee55a92a6a99cfaed80e7447906b771ff179c3961f42b7bad"), looks := false }, kinds := [], alts := [], laidByText := true, laidKinds := [.data], laidTests := true, laidLooks := .later }
def BufferStrongUptoCardSaid : Prop := Claim7.holds Tryd.pinned (.plain (OpenSpec.upto bufferStrongSpec)) bufferStrongUptoCard
end Rows
end Go.Proofs.YtjephfjnohgcbaaDoor
