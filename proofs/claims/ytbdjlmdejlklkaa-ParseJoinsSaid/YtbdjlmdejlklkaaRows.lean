/-
  NARROWER THAN 'FOR EVERY INPUT', by the rows' own cells (each row's printed sentence says how): ParseDeep: loops.
  DERIVED. THE GIVEN ROWS OF THIS SEAT. 4 by the template 'for every input the law returns true; each argument reads behind the call as it read before'; 0 by the template 'total and deterministic' (their statements: YtbdjlmdejlklkaaTotals.lean).
  GIVEN WITH THE SEED: the statements are not yours to turn. If you find one false, say at which input.
  Laid BY PROGRAM, IN A SANDBOX (cutbox-rows.mjs): the forced cells as the released guide's own fill.sh prints them over the translation e6d5390795cda179… (all of the seat's roots in one cut). By AI agents, Wed Nov 11 2026. No macro, syntax, notation, axiom, sorry.
-/
import Derived.Test.YtbdjlmdejlklkaaChecked
import GoSem.Claim
import GoSem.ClaimJoined
import GoSem.ClaimMapViews
import Derived.JoinedTies
import Derived.KernelRfl
namespace Go.Proofs.Ytbdjlmdejlklkaa
/- THE CELL 'sum', in the pinned program and in every row, IS THE sha256 OF THE DUMP (.gsa) THAT YtbdjlmdejlklkaaProg.lean LOADS. Nothing in Lean hashes anything: it is a label: what it is worth is what the hold of that sum in a sandbox is worth. -/
noncomputable def Try.pinned : Pinned := { name := "ytbdjlmdejlklkaa", sum := "e6d5390795cda179f6bb9b8d38dd11f6d877783710ef6f53497728db3940a01c", checked := Try.checked }
namespace Rows
def none {H : Type} : Left H := { results := [], args := [] }

/-- 'seisinlaw05.ParseDeep': WHATEVER THE INPUT: true; the input reads as it did. -/
def parseDeepSpec : ChangeSpec := { name := "parseDeep", fn := fun _ => fun
  | [d] => { results := [.lit (.bool true)], args := [d] }
  | _ => none }
def parseDeepRow : OpenClaim := { program := "ytbdjlmdejlklkaa", sum := "e6d5390795cda179f6bb9b8d38dd11f6d877783710ef6f53497728db3940a01c", func := "seisin/seisinlaw05.ParseDeep", spec := "parseDeep", unfollowed := true, recurses := true, loops := true, apart := false }
def ParseDeepSaid : Prop := parseDeepRow.holds Try.pinned (OpenSpec.ofChange parseDeepSpec)

/-- ITS FALSE NEIGHBOUR: 'it returns false'. Refute it at one input. -/
def parseDeepWrong : ChangeSpec := { name := "parseDeep", fn := fun _ => fun
  | [d] => { results := [.lit (.bool false)], args := [d] }
  | _ => none }
def ParseDeepWrongFalsely : Prop := parseDeepRow.holds Try.pinned (OpenSpec.ofChange parseDeepWrong)

/-- 'seisinlaw05.ParseFits': WHATEVER THE INPUT: true; the input reads as it did. -/
def parseFitsSpec : ChangeSpec := { name := "parseFits", fn := fun _ => fun
  | [d] => { results := [.lit (.bool true)], args := [d] }
  | _ => none }
def parseFitsRow : OpenClaim := { program := "ytbdjlmdejlklkaa", sum := "e6d5390795cda179f6bb9b8d38dd11f6d877783710ef6f53497728db3940a01c", func := "seisin/seisinlaw05.ParseFits", spec := "parseFits", unfollowed := true, recurses := true, apart := false }
def ParseFitsSaid : Prop := parseFitsRow.holds Try.pinned (OpenSpec.ofChange parseFitsSpec)

/-- ITS FALSE NEIGHBOUR: 'it returns false'. Refute it at one input. -/
def parseFitsWrong : ChangeSpec := { name := "parseFits", fn := fun _ => fun
  | [d] => { results := [.lit (.bool false)], args := [d] }
  | _ => none }
def ParseFitsWrongFalsely : Prop := parseFitsRow.holds Try.pinned (OpenSpec.ofChange parseFitsWrong)

/-- 'seisinlaw05.ParseJoins': WHATEVER THE INPUT: true; the input reads as it did. -/
def parseJoinsSpec : ChangeSpec := { name := "parseJoins", fn := fun _ => fun
  | [d1, d2, d3] => { results := [.lit (.bool true)], args := [d1, d2, d3] }
  | _ => none }
def parseJoinsRow : OpenClaim := { program := "ytbdjlmdejlklkaa", sum := "e6d5390795cda179f6bb9b8d38dd11f6d877783710ef6f53497728db3940a01c", func := "seisin/seisinlaw05.ParseJoins", spec := "parseJoins", unfollowed := true, recurses := true, apart := false }
def ParseJoinsSaid : Prop := parseJoinsRow.holds Try.pinned (OpenSpec.ofChange parseJoinsSpec)

/-- ITS FALSE NEIGHBOUR: 'it returns false'. Refute it at one input. -/
def parseJoinsWrong : ChangeSpec := { name := "parseJoins", fn := fun _ => fun
  | [d1, d2, d3] => { results := [.lit (.bool false)], args := [d1, d2, d3] }
  | _ => none }
def ParseJoinsWrongFalsely : Prop := parseJoinsRow.holds Try.pinned (OpenSpec.ofChange parseJoinsWrong)

/-- 'seisinlaw05.ParseTyped': WHATEVER THE INPUT: true; the input reads as it did. -/
def parseTypedSpec : ChangeSpec := { name := "parseTyped", fn := fun _ => fun
  | [d] => { results := [.lit (.bool true)], args := [d] }
  | _ => none }
def parseTypedRow : OpenClaim := { program := "ytbdjlmdejlklkaa", sum := "e6d5390795cda179f6bb9b8d38dd11f6d877783710ef6f53497728db3940a01c", func := "seisin/seisinlaw05.ParseTyped", spec := "parseTyped", inPlace := ["internal/abi.NoEscape"], unfollowed := true, recurses := true, apart := false }
def ParseTypedSaid : Prop := parseTypedRow.holds Try.pinned (OpenSpec.ofChange parseTypedSpec)

/-- ITS FALSE NEIGHBOUR: 'it returns false'. Refute it at one input. -/
def parseTypedWrong : ChangeSpec := { name := "parseTyped", fn := fun _ => fun
  | [d] => { results := [.lit (.bool false)], args := [d] }
  | _ => none }
def ParseTypedWrongFalsely : Prop := parseTypedRow.holds Try.pinned (OpenSpec.ofChange parseTypedWrong)

/- THE SECOND FORM. 'bulk': how many values and letters a reading holds, each counted each time it is reached (what is shared counts as often as it is met; a slice's spare places count too). A statement '..UptoSaid' is the law's where the arguments, and the package variables that the reading takes, are together of bulk at most 1048576: NARROWER than '..Said'. Prove '..Said' where nothing that the law and all that it calls make is longer than what came in: it says more and counts as full. Else prove '..UptoSaid'. A law counts once. -/
mutual
def uptoBulk {H : Type} : DataW H → Nat
  | .lit (.string bytes) => bytes.length + 1
  | .lit _ => 1
  | .nil => 1
  | .ptr d => uptoBulk d + 1
  | .slice elems spare => uptoBulkAll elems + uptoBulkAll spare + 1
  | .agg parts => uptoBulkAll parts + 1
  | .iface _ d => uptoBulk d + 1
  | .map entries => uptoBulkEntries entries + 1
  | .held _ => 1
def uptoBulkAll {H : Type} : List (DataW H) → Nat
  | [] => 0
  | d :: r => uptoBulk d + uptoBulkAll r
def uptoBulkEntries {H : Type} : List (Lit × DataW H) → Nat
  | [] => 0
  | x :: r => uptoBulkEntry x + uptoBulkEntries r
def uptoBulkEntry {H : Type} : Lit × DataW H → Nat
  | (.string bytes, d) => bytes.length + uptoBulk d + 1
  | (_, d) => uptoBulk d + 1
 end
def uptoSmall : (H : Type) → List (DataW H) → Bool := fun _ ds => decide (uptoBulkAll ds ≤ 1048576)
def OpenSpec.upto (s : _root_.Go.ChangeSpec) : _root_.Go.OpenSpec := { _root_.Go.OpenSpec.ofChange s with cond := some uptoSmall }

/-- 'seisinlaw05.ParseDeep', WHERE WHAT IT READS IS OF BULK AT MOST 1048576: true; the input reads as it did. -/
def parseDeepUptoRow : OpenClaim := { program := "ytbdjlmdejlklkaa", sum := "e6d5390795cda179f6bb9b8d38dd11f6d877783710ef6f53497728db3940a01c", func := "seisin/seisinlaw05.ParseDeep", spec := "parseDeep", unfollowed := true, recurses := true, loops := true, apart := false, narrowed := true }
def ParseDeepUptoSaid : Prop := parseDeepUptoRow.holds Try.pinned (OpenSpec.upto parseDeepSpec)

/-- 'seisinlaw05.ParseFits', WHERE WHAT IT READS IS OF BULK AT MOST 1048576: true; the input reads as it did. -/
def parseFitsUptoRow : OpenClaim := { program := "ytbdjlmdejlklkaa", sum := "e6d5390795cda179f6bb9b8d38dd11f6d877783710ef6f53497728db3940a01c", func := "seisin/seisinlaw05.ParseFits", spec := "parseFits", unfollowed := true, recurses := true, apart := false, narrowed := true }
def ParseFitsUptoSaid : Prop := parseFitsUptoRow.holds Try.pinned (OpenSpec.upto parseFitsSpec)

/-- 'seisinlaw05.ParseJoins', WHERE WHAT IT READS IS OF BULK AT MOST 1048576: true; the input reads as it did. -/
def parseJoinsUptoRow : OpenClaim := { program := "ytbdjlmdejlklkaa", sum := "e6d5390795cda179f6bb9b8d38dd11f6d877783710ef6f53497728db3940a01c", func := "seisin/seisinlaw05.ParseJoins", spec := "parseJoins", unfollowed := true, recurses := true, apart := false, narrowed := true }
def ParseJoinsUptoSaid : Prop := parseJoinsUptoRow.holds Try.pinned (OpenSpec.upto parseJoinsSpec)

/-- 'seisinlaw05.ParseTyped', WHERE WHAT IT READS IS OF BULK AT MOST 1048576: true; the input reads as it did. -/
def parseTypedUptoRow : OpenClaim := { program := "ytbdjlmdejlklkaa", sum := "e6d5390795cda179f6bb9b8d38dd11f6d877783710ef6f53497728db3940a01c", func := "seisin/seisinlaw05.ParseTyped", spec := "parseTyped", inPlace := ["internal/abi.NoEscape"], unfollowed := true, recurses := true, apart := false, narrowed := true }
def ParseTypedUptoSaid : Prop := parseTypedUptoRow.holds Try.pinned (OpenSpec.upto parseTypedSpec)

end Rows
end Go.Proofs.Ytbdjlmdejlklkaa
