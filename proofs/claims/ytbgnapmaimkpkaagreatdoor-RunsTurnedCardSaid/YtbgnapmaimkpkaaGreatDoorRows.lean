/-
  NARROWER THAN 'FOR EVERY INPUT', by the rows' own cells (each row's printed sentence says how): RunsWeaker: loops, laid · RunsFenced: loops, laid · RunsTells: loops, laid · RunsReached: loops, laid · RunsMost: loops, laid · RunsAlone: loops, laid · RunsWay: loops, laid · RunsTurned: loops, laid · RunsFold: loops, laid.
  DERIVED. THE GIVEN ROWS OF THIS SEAT. 9 by the template 'for every input the law returns true; each argument reads behind the call as it read before'; 0 by the template 'total and deterministic' (their statements: YtbgnapmaimkpkaaGreatDoorTotals.lean).
  GIVEN WITH THE SEED: the statements are not yours to turn. If you find one false, say at which input.
  Laid BY PROGRAM, IN A SANDBOX (cutbox-rows.mjs): the forced cells as the released guide's own fill.sh prints them over the translation 6f1afcc45ffef6df… (all of the seat's roots in one cut). By AI agents, Wed Nov 11 2026. No macro, syntax, notation, axiom, sorry.
-/
import Derived.Test.YtbgnapmaimkpkaaGreatDoorChecked
import GoSem.Claim
import GoSem.ClaimJoined
import GoSem.ClaimMapViews
import Derived.JoinedTies
import Derived.KernelRfl
namespace Go.Proofs.YtbgnapmaimkpkaaGreatDoor
/- THE CELL 'sum', in the pinned program and in every row, IS THE sha256 OF THE DUMP (.gsa) THAT YtbgnapmaimkpkaaGreatDoorProg.lean LOADS. Nothing in Lean hashes anything: it is a label: what it is worth is what the hold of that sum in a sandbox is worth. -/
noncomputable def Tryz.pinned : Pinned := { name := "ytbgnapmaimkpkaagreatdoor", sum := "6f1afcc45ffef6df2f17bcb602ecebd0d61ce9214dc43712a3cb008f0e6cddbd", checked := Tryz.checked }
namespace Rows
def none {H : Type} : Left H := { results := [], args := [] }

/- WHAT THE LISTED PACKAGE-LEVEL VARIABLES READ AS WHEN THE CALL BEGINS. Each datum BY PROGRAM (the guide's laid-datum.mjs) off the statement by which the dump's own 'gosem.cut.vars' lays the variable. In a bare row this is a premise. The card (YtbgnapmaimkpkaaGreatDoorCards.lean) ties it to the program's text. -/
def laid_seisin_check_needs {H : Type} : DataW H := .agg [.lit (.int .u8 0), .lit (.int .u8 35), .lit (.int .u8 38), .lit (.int .u8 29), .lit (.int .u8 7), .lit (.int .u8 7), .lit (.int .u8 15), .lit (.int .u8 32), .lit (.int .u8 92)]

/-- 'seisinlaw15.RunsWeaker': WHATEVER THE INPUT: true; the input reads as it did. -/
def runsWeakerSpec : ChangeSpec := { name := "runsWeaker", fn := fun _ => fun
  | [d] => { results := [.lit (.bool true)], args := [d] }
  | _ => none }
def runsWeakerRow : OpenClaim := { program := "ytbgnapmaimkpkaagreatdoor", sum := "6f1afcc45ffef6df2f17bcb602ecebd0d61ce9214dc43712a3cb008f0e6cddbd", func := "seisin/seisinlaw15.RunsWeaker", spec := "runsWeaker", unfollowed := true, recurses := true, named := ["seisin/check.needs"], loops := true, plainKeys := false, apart := false, laid := [("seisin/check.needs", laid_seisin_check_needs)] }
def RunsWeakerSaid : Prop := runsWeakerRow.holds Tryz.pinned (OpenSpec.ofChange runsWeakerSpec)

/-- ITS FALSE NEIGHBOUR: 'it returns false'. Refute it at one input. -/
def runsWeakerWrong : ChangeSpec := { name := "runsWeaker", fn := fun _ => fun
  | [d] => { results := [.lit (.bool false)], args := [d] }
  | _ => none }
def RunsWeakerWrongFalsely : Prop := runsWeakerRow.holds Tryz.pinned (OpenSpec.ofChange runsWeakerWrong)

/-- 'seisinlaw15.RunsFenced': WHATEVER THE INPUT: true; the input reads as it did. -/
def runsFencedSpec : ChangeSpec := { name := "runsFenced", fn := fun _ => fun
  | [d] => { results := [.lit (.bool true)], args := [d] }
  | _ => none }
def runsFencedRow : OpenClaim := { program := "ytbgnapmaimkpkaagreatdoor", sum := "6f1afcc45ffef6df2f17bcb602ecebd0d61ce9214dc43712a3cb008f0e6cddbd", func := "seisin/seisinlaw15.RunsFenced", spec := "runsFenced", unfollowed := true, recurses := true, named := ["seisin/check.needs"], loops := true, plainKeys := false, apart := false, laid := [("seisin/check.needs", laid_seisin_check_needs)] }
def RunsFencedSaid : Prop := runsFencedRow.holds Tryz.pinned (OpenSpec.ofChange runsFencedSpec)

/-- ITS FALSE NEIGHBOUR: 'it returns false'. Refute it at one input. -/
def runsFencedWrong : ChangeSpec := { name := "runsFenced", fn := fun _ => fun
  | [d] => { results := [.lit (.bool false)], args := [d] }
  | _ => none }
def RunsFencedWrongFalsely : Prop := runsFencedRow.holds Tryz.pinned (OpenSpec.ofChange runsFencedWrong)

/-- 'seisinlaw15.RunsTells': WHATEVER THE INPUT: true; the input reads as it did. -/
def runsTellsSpec : ChangeSpec := { name := "runsTells", fn := fun _ => fun
  | [d1, d2, d3, d4] => { results := [.lit (.bool true)], args := [d1, d2, d3, d4] }
  | _ => none }
def runsTellsRow : OpenClaim := { program := "ytbgnapmaimkpkaagreatdoor", sum := "6f1afcc45ffef6df2f17bcb602ecebd0d61ce9214dc43712a3cb008f0e6cddbd", func := "seisin/seisinlaw15.RunsTells", spec := "runsTells", unfollowed := true, recurses := true, named := ["seisin/check.needs"], loops := true, plainKeys := false, apart := false, laid := [("seisin/check.needs", laid_seisin_check_needs)] }
def RunsTellsSaid : Prop := runsTellsRow.holds Tryz.pinned (OpenSpec.ofChange runsTellsSpec)

/-- ITS FALSE NEIGHBOUR: 'it returns false'. Refute it at one input. -/
def runsTellsWrong : ChangeSpec := { name := "runsTells", fn := fun _ => fun
  | [d1, d2, d3, d4] => { results := [.lit (.bool false)], args := [d1, d2, d3, d4] }
  | _ => none }
def RunsTellsWrongFalsely : Prop := runsTellsRow.holds Tryz.pinned (OpenSpec.ofChange runsTellsWrong)

/-- 'seisinlaw15.RunsReached': WHATEVER THE INPUT: true; the input reads as it did. -/
def runsReachedSpec : ChangeSpec := { name := "runsReached", fn := fun _ => fun
  | [d1, d2] => { results := [.lit (.bool true)], args := [d1, d2] }
  | _ => none }
def runsReachedRow : OpenClaim := { program := "ytbgnapmaimkpkaagreatdoor", sum := "6f1afcc45ffef6df2f17bcb602ecebd0d61ce9214dc43712a3cb008f0e6cddbd", func := "seisin/seisinlaw15.RunsReached", spec := "runsReached", unfollowed := true, recurses := true, named := ["seisin/check.needs"], loops := true, plainKeys := false, apart := false, laid := [("seisin/check.needs", laid_seisin_check_needs)] }
def RunsReachedSaid : Prop := runsReachedRow.holds Tryz.pinned (OpenSpec.ofChange runsReachedSpec)

/-- ITS FALSE NEIGHBOUR: 'it returns false'. Refute it at one input. -/
def runsReachedWrong : ChangeSpec := { name := "runsReached", fn := fun _ => fun
  | [d1, d2] => { results := [.lit (.bool false)], args := [d1, d2] }
  | _ => none }
def RunsReachedWrongFalsely : Prop := runsReachedRow.holds Tryz.pinned (OpenSpec.ofChange runsReachedWrong)

/-- 'seisinlaw15.RunsMost': WHATEVER THE INPUT: true; the input reads as it did. -/
def runsMostSpec : ChangeSpec := { name := "runsMost", fn := fun _ => fun
  | [d1, d2, d3, d4] => { results := [.lit (.bool true)], args := [d1, d2, d3, d4] }
  | _ => none }
def runsMostRow : OpenClaim := { program := "ytbgnapmaimkpkaagreatdoor", sum := "6f1afcc45ffef6df2f17bcb602ecebd0d61ce9214dc43712a3cb008f0e6cddbd", func := "seisin/seisinlaw15.RunsMost", spec := "runsMost", unfollowed := true, recurses := true, named := ["seisin/check.needs"], loops := true, plainKeys := false, apart := false, laid := [("seisin/check.needs", laid_seisin_check_needs)] }
def RunsMostSaid : Prop := runsMostRow.holds Tryz.pinned (OpenSpec.ofChange runsMostSpec)

/-- ITS FALSE NEIGHBOUR: 'it returns false'. Refute it at one input. -/
def runsMostWrong : ChangeSpec := { name := "runsMost", fn := fun _ => fun
  | [d1, d2, d3, d4] => { results := [.lit (.bool false)], args := [d1, d2, d3, d4] }
  | _ => none }
def RunsMostWrongFalsely : Prop := runsMostRow.holds Tryz.pinned (OpenSpec.ofChange runsMostWrong)

/-- 'seisinlaw15.RunsAlone': WHATEVER THE INPUT: true; the input reads as it did. -/
def runsAloneSpec : ChangeSpec := { name := "runsAlone", fn := fun _ => fun
  | [d1, d2] => { results := [.lit (.bool true)], args := [d1, d2] }
  | _ => none }
def runsAloneRow : OpenClaim := { program := "ytbgnapmaimkpkaagreatdoor", sum := "6f1afcc45ffef6df2f17bcb602ecebd0d61ce9214dc43712a3cb008f0e6cddbd", func := "seisin/seisinlaw15.RunsAlone", spec := "runsAlone", unfollowed := true, recurses := true, named := ["seisin/check.needs"], loops := true, plainKeys := false, apart := false, laid := [("seisin/check.needs", laid_seisin_check_needs)] }
def RunsAloneSaid : Prop := runsAloneRow.holds Tryz.pinned (OpenSpec.ofChange runsAloneSpec)

/-- ITS FALSE NEIGHBOUR: 'it returns false'. Refute it at one input. -/
def runsAloneWrong : ChangeSpec := { name := "runsAlone", fn := fun _ => fun
  | [d1, d2] => { results := [.lit (.bool false)], args := [d1, d2] }
  | _ => none }
def RunsAloneWrongFalsely : Prop := runsAloneRow.holds Tryz.pinned (OpenSpec.ofChange runsAloneWrong)

/-- 'seisinlaw15.RunsWay': WHATEVER THE INPUT: true; the input reads as it did. -/
def runsWaySpec : ChangeSpec := { name := "runsWay", fn := fun _ => fun
  | [d1, d2, d3, d4] => { results := [.lit (.bool true)], args := [d1, d2, d3, d4] }
  | _ => none }
def runsWayRow : OpenClaim := { program := "ytbgnapmaimkpkaagreatdoor", sum := "6f1afcc45ffef6df2f17bcb602ecebd0d61ce9214dc43712a3cb008f0e6cddbd", func := "seisin/seisinlaw15.RunsWay", spec := "runsWay", unfollowed := true, recurses := true, named := ["seisin/check.needs"], loops := true, plainKeys := false, apart := false, laid := [("seisin/check.needs", laid_seisin_check_needs)] }
def RunsWaySaid : Prop := runsWayRow.holds Tryz.pinned (OpenSpec.ofChange runsWaySpec)

/-- ITS FALSE NEIGHBOUR: 'it returns false'. Refute it at one input. -/
def runsWayWrong : ChangeSpec := { name := "runsWay", fn := fun _ => fun
  | [d1, d2, d3, d4] => { results := [.lit (.bool false)], args := [d1, d2, d3, d4] }
  | _ => none }
def RunsWayWrongFalsely : Prop := runsWayRow.holds Tryz.pinned (OpenSpec.ofChange runsWayWrong)

/-- 'seisinlaw15.RunsTurned': WHATEVER THE INPUT: true; the input reads as it did. -/
def runsTurnedSpec : ChangeSpec := { name := "runsTurned", fn := fun _ => fun
  | [d1, d2, d3, d4] => { results := [.lit (.bool true)], args := [d1, d2, d3, d4] }
  | _ => none }
def runsTurnedRow : OpenClaim := { program := "ytbgnapmaimkpkaagreatdoor", sum := "6f1afcc45ffef6df2f17bcb602ecebd0d61ce9214dc43712a3cb008f0e6cddbd", func := "seisin/seisinlaw15.RunsTurned", spec := "runsTurned", unfollowed := true, recurses := true, named := ["seisin/check.needs"], loops := true, plainKeys := false, apart := false, laid := [("seisin/check.needs", laid_seisin_check_needs)] }
def RunsTurnedSaid : Prop := runsTurnedRow.holds Tryz.pinned (OpenSpec.ofChange runsTurnedSpec)

/-- ITS FALSE NEIGHBOUR: 'it returns false'. Refute it at one input. -/
def runsTurnedWrong : ChangeSpec := { name := "runsTurned", fn := fun _ => fun
  | [d1, d2, d3, d4] => { results := [.lit (.bool false)], args := [d1, d2, d3, d4] }
  | _ => none }
def RunsTurnedWrongFalsely : Prop := runsTurnedRow.holds Tryz.pinned (OpenSpec.ofChange runsTurnedWrong)

/-- 'seisinlaw15.RunsFold': WHATEVER THE INPUT: true; the input reads as it did. -/
def runsFoldSpec : ChangeSpec := { name := "runsFold", fn := fun _ => fun
  | [d1, d2] => { results := [.lit (.bool true)], args := [d1, d2] }
  | _ => none }
def runsFoldRow : OpenClaim := { program := "ytbgnapmaimkpkaagreatdoor", sum := "6f1afcc45ffef6df2f17bcb602ecebd0d61ce9214dc43712a3cb008f0e6cddbd", func := "seisin/seisinlaw15.RunsFold", spec := "runsFold", unfollowed := true, recurses := true, named := ["seisin/check.needs"], loops := true, plainKeys := false, apart := false, laid := [("seisin/check.needs", laid_seisin_check_needs)] }
def RunsFoldSaid : Prop := runsFoldRow.holds Tryz.pinned (OpenSpec.ofChange runsFoldSpec)

/-- ITS FALSE NEIGHBOUR: 'it returns false'. Refute it at one input. -/
def runsFoldWrong : ChangeSpec := { name := "runsFold", fn := fun _ => fun
  | [d1, d2] => { results := [.lit (.bool false)], args := [d1, d2] }
  | _ => none }
def RunsFoldWrongFalsely : Prop := runsFoldRow.holds Tryz.pinned (OpenSpec.ofChange runsFoldWrong)

/- THE SECOND FORM. 'bulk': how many values and letters a reading holds, each counted each time it is reached (what is shared counts as often as it is met; a slice's spare places count too). A statement '..UptoSaid' is the law's where the arguments, and the package variables that the reading takes, are together of bulk at most 1048576: NARROWER than '..Said'. Prove '..Said' where nothing that the law and all that it calls make is longer than what came in: it says more and counts as full. Else prove '..UptoSaid'. A law counts once. -/
mutual
def uptoBulk {H : Type} : DataW H → Nat
  | .lit (.string bytes) => bytes.length + 1
  | .lit _ => 1
  | .nil => 1
  | .ptr d => uptoBulk d + 1
  | .slice elems spare => uptoBulkAll elems + uptoBulkAll spare + 1
  | .agg parts => uptoBulkAll parts + 1
  | .iface _ d => uptoBulk d + 1
  | .map entries => uptoBulkEntries entries + 1
  | .held _ => 1
def uptoBulkAll {H : Type} : List (DataW H) → Nat
  | [] => 0
  | d :: r => uptoBulk d + uptoBulkAll r
def uptoBulkEntries {H : Type} : List (Lit × DataW H) → Nat
  | [] => 0
  | x :: r => uptoBulkEntry x + uptoBulkEntries r
def uptoBulkEntry {H : Type} : Lit × DataW H → Nat
  | (.string bytes, d) => bytes.length + uptoBulk d + 1
  | (_, d) => uptoBulk d + 1
 end
def uptoSmall : (H : Type) → List (DataW H) → Bool := fun _ ds => decide (uptoBulkAll ds ≤ 1048576)
def OpenSpec.upto (s : _root_.Go.ChangeSpec) : _root_.Go.OpenSpec := { _root_.Go.OpenSpec.ofChange s with cond := some uptoSmall }

/-- 'seisinlaw15.RunsWeaker', WHERE WHAT IT READS IS OF BULK AT MOST 1048576: true; the input reads as it did. -/
def runsWeakerUptoRow : OpenClaim := { program := "ytbgnapmaimkpkaagreatdoor", sum := "6f1afcc45ffef6df2f17bcb602ecebd0d61ce9214dc43712a3cb008f0e6cddbd", func := "seisin/seisinlaw15.RunsWeaker", spec := "runsWeaker", unfollowed := true, recurses := true, named := ["seisin/check.needs"], loops := true, plainKeys := false, apart := false, laid := [("seisin/check.needs", laid_seisin_check_needs)], narrowed := true }
def RunsWeakerUptoSaid : Prop := runsWeakerUptoRow.holds Tryz.pinned (OpenSpec.upto runsWeakerSpec)

/-- 'seisinlaw15.RunsFenced', WHERE WHAT IT READS IS OF BULK AT MOST 1048576: true; the input reads as it did. -/
def runsFencedUptoRow : OpenClaim := { program := "ytbgnapmaimkpkaagreatdoor", sum := "6f1afcc45ffef6df2f17bcb602ecebd0d61ce9214dc43712a3cb008f0e6cddbd", func := "seisin/seisinlaw15.RunsFenced", spec := "runsFenced", unfollowed := true, recurses := true, named := ["seisin/check.needs"], loops := true, plainKeys := false, apart := false, laid := [("seisin/check.needs", laid_seisin_check_needs)], narrowed := true }
def RunsFencedUptoSaid : Prop := runsFencedUptoRow.holds Tryz.pinned (OpenSpec.upto runsFencedSpec)

/-- 'seisinlaw15.RunsTells', WHERE WHAT IT READS IS OF BULK AT MOST 1048576: true; the input reads as it did. -/
def runsTellsUptoRow : OpenClaim := { program := "ytbgnapmaimkpkaagreatdoor", sum := "6f1afcc45ffef6df2f17bcb602ecebd0d61ce9214dc43712a3cb008f0e6cddbd", func := "seisin/seisinlaw15.RunsTells", spec := "runsTells", unfollowed := true, recurses := true, named := ["seisin/check.needs"], loops := true, plainKeys := false, apart := false, laid := [("seisin/check.needs", laid_seisin_check_needs)], narrowed := true }
def RunsTellsUptoSaid : Prop := runsTellsUptoRow.holds Tryz.pinned (OpenSpec.upto runsTellsSpec)

/-- 'seisinlaw15.RunsReached', WHERE WHAT IT READS IS OF BULK AT MOST 1048576: true; the input reads as it did. -/
def runsReachedUptoRow : OpenClaim := { program := "ytbgnapmaimkpkaagreatdoor", sum := "6f1afcc45ffef6df2f17bcb602ecebd0d61ce9214dc43712a3cb008f0e6cddbd", func := "seisin/seisinlaw15.RunsReached", spec := "runsReached", unfollowed := true, recurses := true, named := ["seisin/check.needs"], loops := true, plainKeys := false, apart := false, laid := [("seisin/check.needs", laid_seisin_check_needs)], narrowed := true }
def RunsReachedUptoSaid : Prop := runsReachedUptoRow.holds Tryz.pinned (OpenSpec.upto runsReachedSpec)

/-- 'seisinlaw15.RunsMost', WHERE WHAT IT READS IS OF BULK AT MOST 1048576: true; the input reads as it did. -/
def runsMostUptoRow : OpenClaim := { program := "ytbgnapmaimkpkaagreatdoor", sum := "6f1afcc45ffef6df2f17bcb602ecebd0d61ce9214dc43712a3cb008f0e6cddbd", func := "seisin/seisinlaw15.RunsMost", spec := "runsMost", unfollowed := true, recurses := true, named := ["seisin/check.needs"], loops := true, plainKeys := false, apart := false, laid := [("seisin/check.needs", laid_seisin_check_needs)], narrowed := true }
def RunsMostUptoSaid : Prop := runsMostUptoRow.holds Tryz.pinned (OpenSpec.upto runsMostSpec)

/-- 'seisinlaw15.RunsAlone', WHERE WHAT IT READS IS OF BULK AT MOST 1048576: true; the input reads as it did. -/
def runsAloneUptoRow : OpenClaim := { program := "ytbgnapmaimkpkaagreatdoor", sum := "6f1afcc45ffef6df2f17bcb602ecebd0d61ce9214dc43712a3cb008f0e6cddbd", func := "seisin/seisinlaw15.RunsAlone", spec := "runsAlone", unfollowed := true, recurses := true, named := ["seisin/check.needs"], loops := true, plainKeys := false, apart := false, laid := [("seisin/check.needs", laid_seisin_check_needs)], narrowed := true }
def RunsAloneUptoSaid : Prop := runsAloneUptoRow.holds Tryz.pinned (OpenSpec.upto runsAloneSpec)

/-- 'seisinlaw15.RunsWay', WHERE WHAT IT READS IS OF BULK AT MOST 1048576: true; the input reads as it did. -/
def runsWayUptoRow : OpenClaim := { program := "ytbgnapmaimkpkaagreatdoor", sum := "6f1afcc45ffef6df2f17bcb602ecebd0d61ce9214dc43712a3cb008f0e6cddbd", func := "seisin/seisinlaw15.RunsWay", spec := "runsWay", unfollowed := true, recurses := true, named := ["seisin/check.needs"], loops := true, plainKeys := false, apart := false, laid := [("seisin/check.needs", laid_seisin_check_needs)], narrowed := true }
def RunsWayUptoSaid : Prop := runsWayUptoRow.holds Tryz.pinned (OpenSpec.upto runsWaySpec)

/-- 'seisinlaw15.RunsTurned', WHERE WHAT IT READS IS OF BULK AT MOST 1048576: true; the input reads as it did. -/
def runsTurnedUptoRow : OpenClaim := { program := "ytbgnapmaimkpkaagreatdoor", sum := "6f1afcc45ffef6df2f17bcb602ecebd0d61ce9214dc43712a3cb008f0e6cddbd", func := "seisin/seisinlaw15.RunsTurned", spec := "runsTurned", unfollowed := true, recurses := true, named := ["seisin/check.needs"], loops := true, plainKeys := false, apart := false, laid := [("seisin/check.needs", laid_seisin_check_needs)], narrowed := true }
def RunsTurnedUptoSaid : Prop := runsTurnedUptoRow.holds Tryz.pinned (OpenSpec.upto runsTurnedSpec)

/-- 'seisinlaw15.RunsFold', WHERE WHAT IT READS IS OF BULK AT MOST 1048576: true; the input reads as it did. -/
def runsFoldUptoRow : OpenClaim := { program := "ytbgnapmaimkpkaagreatdoor", sum := "6f1afcc45ffef6df2f17bcb602ecebd0d61ce9214dc43712a3cb008f0e6cddbd", func := "seisin/seisinlaw15.RunsFold", spec := "runsFold", unfollowed := true, recurses := true, named := ["seisin/check.needs"], loops := true, plainKeys := false, apart := false, laid := [("seisin/check.needs", laid_seisin_check_needs)], narrowed := true }
def RunsFoldUptoSaid : Prop := runsFoldUptoRow.holds Tryz.pinned (OpenSpec.upto runsFoldSpec)

end Rows
end Go.Proofs.YtbgnapmaimkpkaaGreatDoor
