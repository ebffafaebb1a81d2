/-
  DERIVED. GIVEN WITH THE SEED: THE CARDS: each row of YtbgnapmaimkpkaaGreatDoorRows.lean that lists a variable, with what it lists TIED to the program's text (the seventh form; the later family's looks); each row that meets fmt, with fmt's text TOLD by the authors' own Lean function (tested against real Go, not proved from fmt's source: count such statements apart). THE CARD IS WHAT COUNTS. Prove the row's statement (the work); the ties are given (YtbgnapmaimkpkaaGreatDoorTie.lean); close each card by the builder's one call (the guide's Derived/Test/ToyasCard.lean, 'card_holds'). Laid BY PROGRAM, IN A SANDBOX (cutbox-door.mjs). By AI agents, Wed Nov 11 2026. No macro, syntax, notation, axiom, sorry.
-/
import Derived.Test.YtbgnapmaimkpkaaGreatDoorRows
import GoSem.ClaimSeven
namespace Go.Proofs.YtbgnapmaimkpkaaGreatDoor
namespace Rows

/-- THE TIED CARD OF 'seisinlaw15.RunsWeaker'. -/
def runsWeakerCard : Claim7 := { stood := { row := runsWeakerRow, standIns := [], harness := (true, "f6968e3089ef2313430684d2e57e8548e4fdf36d783d221940daedbcb0de11af"), looks := false }, kinds := [], alts := [], laidByText := true, laidKinds := [.data], laidTests := true, laidLooks := .later }
def RunsWeakerCardSaid : Prop := Claim7.holds Tryz.pinned (.plain (OpenSpec.ofChange runsWeakerSpec)) runsWeakerCard

/-- THE TIED CARD OF 'seisinlaw15.RunsFenced'. -/
def runsFencedCard : Claim7 := { stood := { row := runsFencedRow, standIns := [], harness := (true, "f6968e3089ef2313430684d2e57e8548e4fdf36d783d221940daedbcb0de11af"), looks := false }, kinds := [], alts := [], laidByText := true, laidKinds := [.data], laidTests := true, laidLooks := .later }
def RunsFencedCardSaid : Prop := Claim7.holds Tryz.pinned (.plain (OpenSpec.ofChange runsFencedSpec)) runsFencedCard

/-- THE TIED CARD OF 'seisinlaw15.RunsTells'. -/
def runsTellsCard : Claim7 := { stood := { row := runsTellsRow, standIns := [], harness := (true, "f6968e3089ef2313430684d2e57e8548e4fdf36d783d221940daedbcb0de11af"), looks := false }, kinds := [], alts := [], laidByText := true, laidKinds := [.data], laidTests := true, laidLooks := .later }
def RunsTellsCardSaid : Prop := Claim7.holds Tryz.pinned (.plain (OpenSpec.ofChange runsTellsSpec)) runsTellsCard

/-- THE TIED CARD OF 'seisinlaw15.RunsReached'. -/
def runsReachedCard : Claim7 := { stood := { row := runsReachedRow, standIns := [], harness := (true, "f6968e3089ef2313430684d2e57e8548e4fdf36d783d221940daedbcb0de11af"), looks := false }, kinds := [], alts := [], laidByText := true, laidKinds := [.data], laidTests := true, laidLooks := .later }
def RunsReachedCardSaid : Prop := Claim7.holds Tryz.pinned (.plain (OpenSpec.ofChange runsReachedSpec)) runsReachedCard

/-- THE TIED CARD OF 'seisinlaw15.RunsMost'. -/
def runsMostCard : Claim7 := { stood := { row := runsMostRow, standIns := [], harness := (true, "f6968e3089ef2313430684d2e57e8548e4fdf36d783d221940daedbcb0de11af"), looks := false }, kinds := [], alts := [], laidByText := true, laidKinds := [.data], laidTests := true, laidLooks := .later }
def RunsMostCardSaid : Prop := Claim7.holds Tryz.pinned (.plain (OpenSpec.ofChange runsMostSpec)) runsMostCard

/-- THE TIED CARD OF 'seisinlaw15.RunsAlone'. -/
def runsAloneCard : Claim7 := { stood := { row := runsAloneRow, standIns := [], harness := (true, "f6968e3089ef2313430684d2e57e8548e4fdf36d783d221940daedbcb0de11af"), looks := false }, kinds := [], alts := [], laidByText := true, laidKinds := [.data], laidTests := true, laidLooks := .later }
def RunsAloneCardSaid : Prop := Claim7.holds Tryz.pinned (.plain (OpenSpec.ofChange runsAloneSpec)) runsAloneCard

/-- THE TIED CARD OF 'seisinlaw15.RunsWay'. -/
def runsWayCard : Claim7 := { stood := { row := runsWayRow, standIns := [], harness := (true, "f6968e3089ef2313430684d2e57e8548e4fdf36d783d221940daedbcb0de11af"), looks := false }, kinds := [], alts := [], laidByText := true, laidKinds := [.data], laidTests := true, laidLooks := .later }
def RunsWayCardSaid : Prop := Claim7.holds Tryz.pinned (.plain (OpenSpec.ofChange runsWaySpec)) runsWayCard

/-- THE TIED CARD OF 'seisinlaw15.RunsTurned'. -/
def runsTurnedCard : Claim7 := { stood := { row := runsTurnedRow, standIns := [], harness := (true, "f6968e3089ef2313430684d2e57e8548e4fdf36d783d221940daedbcb0de11af"), looks := false }, kinds := [], alts := [], laidByText := true, laidKinds := [.data], laidTests := true, laidLooks := .later }
def RunsTurnedCardSaid : Prop := Claim7.holds Tryz.pinned (.plain (OpenSpec.ofChange runsTurnedSpec)) runsTurnedCard

/-- THE TIED CARD OF 'seisinlaw15.RunsFold'. -/
def runsFoldCard : Claim7 := { stood := { row := runsFoldRow, standIns := [], harness := (true, "f6968e3089ef2313430684d2e57e8548e4fdf36d783d221940daedbcb0de11af"), looks := false }, kinds := [], alts := [], laidByText := true, laidKinds := [.data], laidTests := true, laidLooks := .later }
def RunsFoldCardSaid : Prop := Claim7.holds Tryz.pinned (.plain (OpenSpec.ofChange runsFoldSpec)) runsFoldCard

/-- THE SECOND FORM's CARD OF 'seisinlaw15.RunsWeaker'. -/
def runsWeakerUptoCard : Claim7 := { stood := { row := runsWeakerUptoRow, standIns := [], harness := (true, "f6968e3089ef2313430684d2e57e8548e4fdf36d783d221940daedbcb0de11af"), looks := false }, kinds := [], alts := [], laidByText := true, laidKinds := [.data], laidTests := true, laidLooks := .later }
def RunsWeakerUptoCardSaid : Prop := Claim7.holds Tryz.pinned (.plain (OpenSpec.upto runsWeakerSpec)) runsWeakerUptoCard

/-- THE SECOND FORM's CARD OF 'seisinlaw15.RunsFenced'. -/
def runsFencedUptoCard : Claim7 := { stood := { row := runsFencedUptoRow, standIns := [], harness := (true, "f6968e3089ef2313430684d2e57e8548e4fdf36d783d221940daedbcb0de11af"), looks := false }, kinds := [], alts := [], laidByText := true, laidKinds := [.data], laidTests := true, laidLooks := .later }
def RunsFencedUptoCardSaid : Prop := Claim7.holds Tryz.pinned (.plain (OpenSpec.upto runsFencedSpec)) runsFencedUptoCard

/-- THE SECOND FORM's CARD OF 'seisinlaw15.RunsTells'. -/
def runsTellsUptoCard : Claim7 := { stood := { row := runsTellsUptoRow, standIns := [], harness := (true, "f6968e3089ef2313430684d2e57e8548e4fdf36d783d221940daedbcb0de11af"), looks := false }, kinds := [], alts := [], laidByText := true, laidKinds := [.data], laidTests := true, laidLooks := .later }
def RunsTellsUptoCardSaid : Prop := Claim7.holds Tryz.pinned (.plain (OpenSpec.upto runsTellsSpec)) runsTellsUptoCard

/-- THE SECOND FORM's CARD OF 'seisinlaw15.RunsReached'. -/
def runsReachedUptoCard : Claim7 := { stood := { row := runsReachedUptoRow, standIns := [], harness := (true, "f6968e3089ef2313430684d2e57e8548e4fdf36d783d221940daedbcb0de11af"), looks := false }, kinds := [], alts := [], laidByText := true, laidKinds := [.data], laidTests := true, laidLooks := .later }
def RunsReachedUptoCardSaid : Prop := Claim7.holds Tryz.pinned (.plain (OpenSpec.upto runsReachedSpec)) runsReachedUptoCard

/-- THE SECOND FORM's CARD OF 'seisinlaw15.RunsMost'. -/
def runsMostUptoCard : Claim7 := { stood := { row := runsMostUptoRow, standIns := [], harness := (true, "f6968e3089ef2313430684d2e57e8548e4fdf36d783d221940daedbcb0de11af"), looks := false }, kinds := [], alts := [], laidByText := true, laidKinds := [.data], laidTests := true, laidLooks := .later }
def RunsMostUptoCardSaid : Prop := Claim7.holds Tryz.pinned (.plain (OpenSpec.upto runsMostSpec)) runsMostUptoCard

/-- THE SECOND FORM's CARD OF 'seisinlaw15.RunsAlone'. -/
def runsAloneUptoCard : Claim7 := { stood := { row := runsAloneUptoRow, standIns := [], harness := (true, "f6968e3089ef2313430684d2e57e8548e4fdf36d783d221940daedbcb0de11af"), looks := false }, kinds := [], alts := [], laidByText := true, laidKinds := [.data], laidTests := true, laidLooks := .later }
def RunsAloneUptoCardSaid : Prop := Claim7.holds Tryz.pinned (.plain (OpenSpec.upto runsAloneSpec)) runsAloneUptoCard

/-- THE SECOND FORM's CARD OF 'seisinlaw15.RunsWay'. -/
def runsWayUptoCard : Claim7 := { stood := { row := runsWayUptoRow, standIns := [], harness := (true, "f6968e3089ef2313430684d2e57e8548e4fdf36d783d221940daedbcb0de11af"), looks := false }, kinds := [], alts := [], laidByText := true, laidKinds := [.data], laidTests := true, laidLooks := .later }
def RunsWayUptoCardSaid : Prop := Claim7.holds Tryz.pinned (.plain (OpenSpec.upto runsWaySpec)) runsWayUptoCard

/-- THE SECOND FORM's CARD OF 'seisinlaw15.RunsTurned'. -/
def runsTurnedUptoCard : Claim7 := { stood := { row := runsTurnedUptoRow, standIns := [], harness := (true, "f6968e3089ef2313430684d2e57e8548e4fdf36d783d221940daedbcb0de11af"), looks := false }, kinds := [], alts := [], laidByText := true, laidKinds := [.data], laidTests := true, laidLooks := .later }
def RunsTurnedUptoCardSaid : Prop := Claim7.holds Tryz.pinned (.plain (OpenSpec.upto runsTurnedSpec)) runsTurnedUptoCard

/-- THE SECOND FORM's CARD OF 'seisinlaw15.RunsFold'. -/
def runsFoldUptoCard : Claim7 := { stood := { row := runsFoldUptoRow, standIns := [], harness := (true, "f6968e3089ef2313430684d2e57e8548e4fdf36d783d221940daedbcb0de11af"), looks := false }, kinds := [], alts := [], laidByText := true, laidKinds := [.data], laidTests := true, laidLooks := .later }
def RunsFoldUptoCardSaid : Prop := Claim7.holds Tryz.pinned (.plain (OpenSpec.upto runsFoldSpec)) runsFoldUptoCard
end Rows
end Go.Proofs.YtbgnapmaimkpkaaGreatDoor
