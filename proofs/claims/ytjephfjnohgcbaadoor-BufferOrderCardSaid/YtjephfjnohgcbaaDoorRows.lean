/-
  NARROWER THAN 'FOR EVERY INPUT', by the rows' own cells (each row's printed sentence says how): BufferOwn: loops, laid · BufferOrder: loops, laid · BufferWeaker: loops, laid · BufferFenced: loops, laid · BufferWaits: loops, laid · BufferStrong: loops, laid.
  DERIVED. THE GIVEN ROWS OF THIS SEAT. 6 by the template 'for every input the law returns true; each argument reads behind the call as it read before'; 0 by the template 'total and deterministic' (their statements: YtjephfjnohgcbaaDoorTotals.lean).
  GIVEN WITH THE SEED: the statements are not yours to turn. If you find one false, say at which input.
  Laid BY PROGRAM, IN A SANDBOX (cutbox-rows.mjs): the forced cells as the released guide's own fill.sh prints them over the translation 0f953dca0a487812… (all of the seat's roots in one cut). By AI agents, Wed Nov 11 2026. No macro, syntax, notation, axiom, sorry.
-/
import Derived.Test.YtjephfjnohgcbaaDoorChecked
import GoSem.Claim
import GoSem.ClaimJoined
import GoSem.ClaimMapViews
import Derived.JoinedTies
import Derived.KernelRfl
namespace Go.Proofs.YtjephfjnohgcbaaDoor
/- THE CELL 'sum', in the pinned program and in every row, IS THE sha256 OF THE DUMP (.gsa) THAT YtjephfjnohgcbaaDoorProg.lean LOADS. Nothing in Lean hashes anything: it is a label: what it is worth is what the hold of that sum in a sandbox is worth. -/
noncomputable def Tryd.pinned : Pinned := { name := "ytjephfjnohgcbaadoor", sum := "0f953dca0a487812a0948b30493360230f4b506b2db079a77f99c34cd4ab3b60", checked := Tryd.checked }
namespace Rows
def none {H : Type} : Left H := { results := [], args := [] }

/- WHAT THE LISTED PACKAGE-LEVEL VARIABLES READ AS WHEN THE CALL BEGINS. Each datum BY PROGRAM (the guide's laid-datum.mjs) off the statement by which the dump's own 'gosem.cut.vars' lays the variable. In a bare row this is a premise. The card (YtjephfjnohgcbaaDoorCards.lean) ties it to the program's text. -/
def laid_seisin_check_needs {H : Type} : DataW H := .agg [.lit (.int .u8 0), .lit (.int .u8 35), .lit (.int .u8 38), .lit (.int .u8 29), .lit (.int .u8 7), .lit (.int .u8 7), .lit (.int .u8 15), .lit (.int .u8 32), .lit (.int .u8 92)]

/-- 'seisinlaw14.BufferOwn': WHATEVER THE INPUT: true; the input reads as it did. -/
def bufferOwnSpec : ChangeSpec := { name := "bufferOwn", fn := fun _ => fun
  | [d1, d2, d3, d4] => { results := [.lit (.bool true)], args := [d1, d2, d3, d4] }
  | _ => none }
def bufferOwnRow : OpenClaim := { program := "ytjephfjnohgcbaadoor", sum := "0f953dca0a487812a0948b30493360230f4b506b2db079a77f99c34cd4ab3b60", func := "seisin/seisinlaw14.BufferOwn", spec := "bufferOwn", unfollowed := true, recurses := true, named := ["seisin/check.needs"], loops := true, apart := false, laid := [("seisin/check.needs", laid_seisin_check_needs)] }
def BufferOwnSaid : Prop := bufferOwnRow.holds Tryd.pinned (OpenSpec.ofChange bufferOwnSpec)

/-- ITS FALSE NEIGHBOUR: 'it returns false'. Refute it at one input. -/
def bufferOwnWrong : ChangeSpec := { name := "bufferOwn", fn := fun _ => fun
  | [d1, d2, d3, d4] => { results := [.lit (.bool false)], args := [d1, d2, d3, d4] }
  | _ => none }
def BufferOwnWrongFalsely : Prop := bufferOwnRow.holds Tryd.pinned (OpenSpec.ofChange bufferOwnWrong)

/-- 'seisinlaw14.BufferOrder': WHATEVER THE INPUT: true; the input reads as it did. -/
def bufferOrderSpec : ChangeSpec := { name := "bufferOrder", fn := fun _ => fun
  | [d1, d2, d3, d4] => { results := [.lit (.bool true)], args := [d1, d2, d3, d4] }
  | _ => none }
def bufferOrderRow : OpenClaim := { program := "ytjephfjnohgcbaadoor", sum := "0f953dca0a487812a0948b30493360230f4b506b2db079a77f99c34cd4ab3b60", func := "seisin/seisinlaw14.BufferOrder", spec := "bufferOrder", unfollowed := true, recurses := true, named := ["seisin/check.needs"], loops := true, apart := false, laid := [("seisin/check.needs", laid_seisin_check_needs)] }
def BufferOrderSaid : Prop := bufferOrderRow.holds Tryd.pinned (OpenSpec.ofChange bufferOrderSpec)

/-- ITS FALSE NEIGHBOUR: 'it returns false'. Refute it at one input. -/
def bufferOrderWrong : ChangeSpec := { name := "bufferOrder", fn := fun _ => fun
  | [d1, d2, d3, d4] => { results := [.lit (.bool false)], args := [d1, d2, d3, d4] }
  | _ => none }
def BufferOrderWrongFalsely : Prop := bufferOrderRow.holds Tryd.pinned (OpenSpec.ofChange bufferOrderWrong)

/-- 'seisinlaw14.BufferWeaker': WHATEVER THE INPUT: true; the input reads as it did. -/
def bufferWeakerSpec : ChangeSpec := { name := "bufferWeaker", fn := fun _ => fun
  | [d1, d2] => { results := [.lit (.bool true)], args := [d1, d2] }
  | _ => none }
def bufferWeakerRow : OpenClaim := { program := "ytjephfjnohgcbaadoor", sum := "0f953dca0a487812a0948b30493360230f4b506b2db079a77f99c34cd4ab3b60", func := "seisin/seisinlaw14.BufferWeaker", spec := "bufferWeaker", unfollowed := true, recurses := true, named := ["seisin/check.needs"], loops := true, apart := false, laid := [("seisin/check.needs", laid_seisin_check_needs)] }
def BufferWeakerSaid : Prop := bufferWeakerRow.holds Tryd.pinned (OpenSpec.ofChange bufferWeakerSpec)

/-- ITS FALSE NEIGHBOUR: 'it returns false'. Refute it at one input. -/
def bufferWeakerWrong : ChangeSpec := { name := "bufferWeaker", fn := fun _ => fun
  | [d1, d2] => { results := [.lit (.bool false)], args := [d1, d2] }
  | _ => none }
def BufferWeakerWrongFalsely : Prop := bufferWeakerRow.holds Tryd.pinned (OpenSpec.ofChange bufferWeakerWrong)

/-- 'seisinlaw14.BufferFenced': WHATEVER THE INPUT: true; the input reads as it did. -/
def bufferFencedSpec : ChangeSpec := { name := "bufferFenced", fn := fun _ => fun
  | [d1, d2, d3] => { results := [.lit (.bool true)], args := [d1, d2, d3] }
  | _ => none }
def bufferFencedRow : OpenClaim := { program := "ytjephfjnohgcbaadoor", sum := "0f953dca0a487812a0948b30493360230f4b506b2db079a77f99c34cd4ab3b60", func := "seisin/seisinlaw14.BufferFenced", spec := "bufferFenced", unfollowed := true, recurses := true, named := ["seisin/check.needs"], loops := true, apart := false, laid := [("seisin/check.needs", laid_seisin_check_needs)] }
def BufferFencedSaid : Prop := bufferFencedRow.holds Tryd.pinned (OpenSpec.ofChange bufferFencedSpec)

/-- ITS FALSE NEIGHBOUR: 'it returns false'. Refute it at one input. -/
def bufferFencedWrong : ChangeSpec := { name := "bufferFenced", fn := fun _ => fun
  | [d1, d2, d3] => { results := [.lit (.bool false)], args := [d1, d2, d3] }
  | _ => none }
def BufferFencedWrongFalsely : Prop := bufferFencedRow.holds Tryd.pinned (OpenSpec.ofChange bufferFencedWrong)

/-- 'seisinlaw14.BufferWaits': WHATEVER THE INPUT: true; the input reads as it did. -/
def bufferWaitsSpec : ChangeSpec := { name := "bufferWaits", fn := fun _ => fun
  | [d1, d2, d3] => { results := [.lit (.bool true)], args := [d1, d2, d3] }
  | _ => none }
def bufferWaitsRow : OpenClaim := { program := "ytjephfjnohgcbaadoor", sum := "0f953dca0a487812a0948b30493360230f4b506b2db079a77f99c34cd4ab3b60", func := "seisin/seisinlaw14.BufferWaits", spec := "bufferWaits", unfollowed := true, recurses := true, named := ["seisin/check.needs"], loops := true, apart := false, laid := [("seisin/check.needs", laid_seisin_check_needs)] }
def BufferWaitsSaid : Prop := bufferWaitsRow.holds Tryd.pinned (OpenSpec.ofChange bufferWaitsSpec)

/-- ITS FALSE NEIGHBOUR: 'it returns false'. Refute it at one input. -/
def bufferWaitsWrong : ChangeSpec := { name := "bufferWaits", fn := fun _ => fun
  | [d1, d2, d3] => { results := [.lit (.bool false)], args := [d1, d2, d3] }
  | _ => none }
def BufferWaitsWrongFalsely : Prop := bufferWaitsRow.holds Tryd.pinned (OpenSpec.ofChange bufferWaitsWrong)

/-- 'seisinlaw14.BufferStrong': WHATEVER THE INPUT: true; the input reads as it did. -/
def bufferStrongSpec : ChangeSpec := { name := "bufferStrong", fn := fun _ => fun
  | [d1, d2, d3] => { results := [.lit (.bool true)], args := [d1, d2, d3] }
  | _ => none }
def bufferStrongRow : OpenClaim := { program := "ytjephfjnohgcbaadoor", sum := "0f953dca0a487812a0948b30493360230f4b506b2db079a77f99c34cd4ab3b60", func := "seisin/seisinlaw14.BufferStrong", spec := "bufferStrong", unfollowed := true, recurses := true, named := ["seisin/check.needs"], loops := true, apart := false, laid := [("seisin/check.needs", laid_seisin_check_needs)] }
def BufferStrongSaid : Prop := bufferStrongRow.holds Tryd.pinned (OpenSpec.ofChange bufferStrongSpec)

/-- ITS FALSE NEIGHBOUR: 'it returns false'. Refute it at one input. -/
def bufferStrongWrong : ChangeSpec := { name := "bufferStrong", fn := fun _ => fun
  | [d1, d2, d3] => { results := [.lit (.bool false)], args := [d1, d2, d3] }
  | _ => none }
def BufferStrongWrongFalsely : Prop := bufferStrongRow.holds Tryd.pinned (OpenSpec.ofChange bufferStrongWrong)

/- THE SECOND FORM. 'bulk': how many values and letters a reading holds, each counted each time it is reached (what is shared counts as often as it is met; a slice's spare places count too). A statement '..UptoSaid' is the law's where the arguments, and the package variables that the reading takes, are together of bulk at most 1048576: NARROWER than '..Said'. Prove '..Said' where nothing that the law and all that it calls make is longer than what came in: it says more and counts as full. Else prove '..UptoSaid'. A law counts once. -/
mutual
def uptoBulk {H : Type} : DataW H → Nat
  | .lit (.string bytes) => bytes.length + 1
  | .lit _ => 1
  | .nil => 1
  | .ptr d => uptoBulk d + 1
  | .slice elems spare => uptoBulkAll elems + uptoBulkAll spare + 1
  | .agg parts => uptoBulkAll parts + 1
  | .iface _ d => uptoBulk d + 1
  | .map entries => uptoBulkEntries entries + 1
  | .held _ => 1
def uptoBulkAll {H : Type} : List (DataW H) → Nat
  | [] => 0
  | d :: r => uptoBulk d + uptoBulkAll r
def uptoBulkEntries {H : Type} : List (Lit × DataW H) → Nat
  | [] => 0
  | x :: r => uptoBulkEntry x + uptoBulkEntries r
def uptoBulkEntry {H : Type} : Lit × DataW H → Nat
  | (.string bytes, d) => bytes.length + uptoBulk d + 1
  | (_, d) => uptoBulk d + 1
 end
def uptoSmall : (H : Type) → List (DataW H) → Bool := fun _ ds => decide (uptoBulkAll ds ≤ 1048576)
def OpenSpec.upto (s : _root_.Go.ChangeSpec) : _root_.Go.OpenSpec := { _root_.Go.OpenSpec.ofChange s with cond := some uptoSmall }

/-- 'seisinlaw14.BufferOwn', WHERE WHAT IT READS IS OF BULK AT MOST 1048576: true; the input reads as it did. -/
def bufferOwnUptoRow : OpenClaim := { program := "ytjephfjnohgcbaadoor", sum := "0f953dca0a487812a0948b30493360230f4b506b2db079a77f99c34cd4ab3b60", func := "seisin/seisinlaw14.BufferOwn", spec := "bufferOwn", unfollowed := true, recurses := true, named := ["seisin/check.needs"], loops := true, apart := false, laid := [("seisin/check.needs", laid_seisin_check_needs)], narrowed := true }
def BufferOwnUptoSaid : Prop := bufferOwnUptoRow.holds Tryd.pinned (OpenSpec.upto bufferOwnSpec)

/-- 'seisinlaw14.BufferOrder', WHERE WHAT IT READS IS OF BULK AT MOST 1048576: true; the input reads as it did. -/
def bufferOrderUptoRow : OpenClaim := { program := "ytjephfjnohgcbaadoor", sum := "0f953dca0a487812a0948b30493360230f4b506b2db079a77f99c34cd4ab3b60", func := "seisin/seisinlaw14.BufferOrder", spec := "bufferOrder", unfollowed := true, recurses := true, named := ["seisin/check.needs"], loops := true, apart := false, laid := [("seisin/check.needs", laid_seisin_check_needs)], narrowed := true }
def BufferOrderUptoSaid : Prop := bufferOrderUptoRow.holds Tryd.pinned (OpenSpec.upto bufferOrderSpec)

/-- 'seisinlaw14.BufferWeaker', WHERE WHAT IT READS IS OF BULK AT MOST 1048576: true; the input reads as it did. -/
def bufferWeakerUptoRow : OpenClaim := { program := "ytjephfjnohgcbaadoor", sum := "0f953dca0a487812a0948b30493360230f4b506b2db079a77f99c34cd4ab3b60", func := "seisin/seisinlaw14.BufferWeaker", spec := "bufferWeaker", unfollowed := true, recurses := true, named := ["seisin/check.needs"], loops := true, apart := false, laid := [("seisin/check.needs", laid_seisin_check_needs)], narrowed := true }
def BufferWeakerUptoSaid : Prop := bufferWeakerUptoRow.holds Tryd.pinned (OpenSpec.upto bufferWeakerSpec)

/-- 'seisinlaw14.BufferFenced', WHERE WHAT IT READS IS OF BULK AT MOST 1048576: true; the input reads as it did. -/
def bufferFencedUptoRow : OpenClaim := { program := "ytjephfjnohgcbaadoor", sum := "0f953dca0a487812a0948b30493360230f4b506b2db079a77f99c34cd4ab3b60", func := "seisin/seisinlaw14.BufferFenced", spec := "bufferFenced", unfollowed := true, recurses := true, named := ["seisin/check.needs"], loops := true, apart := false, laid := [("seisin/check.needs", laid_seisin_check_needs)], narrowed := true }
def BufferFencedUptoSaid : Prop := bufferFencedUptoRow.holds Tryd.pinned (OpenSpec.upto bufferFencedSpec)

/-- 'seisinlaw14.BufferWaits', WHERE WHAT IT READS IS OF BULK AT MOST 1048576: true; the input reads as it did. -/
def bufferWaitsUptoRow : OpenClaim := { program := "ytjephfjnohgcbaadoor", sum := "0f953dca0a487812a0948b30493360230f4b506b2db079a77f99c34cd4ab3b60", func := "seisin/seisinlaw14.BufferWaits", spec := "bufferWaits", unfollowed := true, recurses := true, named := ["seisin/check.needs"], loops := true, apart := false, laid := [("seisin/check.needs", laid_seisin_check_needs)], narrowed := true }
def BufferWaitsUptoSaid : Prop := bufferWaitsUptoRow.holds Tryd.pinned (OpenSpec.upto bufferWaitsSpec)

/-- 'seisinlaw14.BufferStrong', WHERE WHAT IT READS IS OF BULK AT MOST 1048576: true; the input reads as it did. -/
def bufferStrongUptoRow : OpenClaim := { program := "ytjephfjnohgcbaadoor", sum := "0f953dca0a487812a0948b30493360230f4b506b2db079a77f99c34cd4ab3b60", func := "seisin/seisinlaw14.BufferStrong", spec := "bufferStrong", unfollowed := true, recurses := true, named := ["seisin/check.needs"], loops := true, apart := false, laid := [("seisin/check.needs", laid_seisin_check_needs)], narrowed := true }
def BufferStrongUptoSaid : Prop := bufferStrongUptoRow.holds Tryd.pinned (OpenSpec.upto bufferStrongSpec)

end Rows
end Go.Proofs.YtjephfjnohgcbaaDoor
