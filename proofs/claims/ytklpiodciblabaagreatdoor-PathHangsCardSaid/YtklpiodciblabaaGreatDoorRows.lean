/-
  NARROWER THAN 'FOR EVERY INPUT', by the rows' own cells (each row's printed sentence says how): PathFront: laid · PathHangs: laid · PathValues: loops, laid · PathSums: laid · PathAtomic: laid · PathTells: loops, laid · PathReads: laid · PathAll: laid.
  DERIVED. THE GIVEN ROWS OF THIS SEAT. 8 by the template 'for every input the law returns true; each argument reads behind the call as it read before'; 0 by the template 'total and deterministic' (their statements: YtklpiodciblabaaGreatDoorTotals.lean).
  GIVEN WITH THE SEED: the statements are not yours to turn. If you find one false, say at which input.
  Laid BY PROGRAM, IN A SANDBOX (cutbox-rows.mjs): the forced cells as the released guide's own fill.sh prints them over the translation bc2498322defefd5… (all of the seat's roots in one cut). By AI agents, Wed Nov 11 2026. No macro, syntax, notation, axiom, sorry.
-/
import Derived.Test.YtklpiodciblabaaGreatDoorChecked
import GoSem.Claim
import GoSem.ClaimJoined
import GoSem.ClaimMapViews
import Derived.JoinedTies
import Derived.KernelRfl
namespace Go.Proofs.YtklpiodciblabaaGreatDoor
/- THE CELL 'sum', in the pinned program and in every row, IS THE sha256 OF THE DUMP (.gsa) THAT YtklpiodciblabaaGreatDoorProg.lean LOADS. Nothing in Lean hashes anything: it is a label: what it is worth is what the hold of that sum in a sandbox is worth. -/
noncomputable def Tryz.pinned : Pinned := { name := "ytklpiodciblabaagreatdoor", sum := "bc2498322defefd5f580f857f0be3439d115a681246e13a2569b4073a54b84f9", checked := Tryz.checked }
namespace Rows
def none {H : Type} : Left H := { results := [], args := [] }

/- WHAT THE LISTED PACKAGE-LEVEL VARIABLES READ AS WHEN THE CALL BEGINS. Each datum BY PROGRAM (the guide's laid-datum.mjs) off the statement by which the dump's own 'gosem.cut.vars' lays the variable. In a bare row this is a premise. The card (YtklpiodciblabaaGreatDoorCards.lean) ties it to the program's text. -/
def laid_math_bits_deBruijn32tab {H : Type} : DataW H := .agg [.lit (.int .u8 0), .lit (.int .u8 1), .lit (.int .u8 28), .lit (.int .u8 2), .lit (.int .u8 29), .lit (.int .u8 14), .lit (.int .u8 24), .lit (.int .u8 3), .lit (.int .u8 30), .lit (.int .u8 22), .lit (.int .u8 20), .lit (.int .u8 15), .lit (.int .u8 25), .lit (.int .u8 17), .lit (.int .u8 4), .lit (.int .u8 8), .lit (.int .u8 31), .lit (.int .u8 27), .lit (.int .u8 13), .lit (.int .u8 23), .lit (.int .u8 21), .lit (.int .u8 19), .lit (.int .u8 16), .lit (.int .u8 7), .lit (.int .u8 26), .lit (.int .u8 12), .lit (.int .u8 18), .lit (.int .u8 6), .lit (.int .u8 11), .lit (.int .u8 5), .lit (.int .u8 10), .lit (.int .u8 9)]
def laid_seisin_check_needs {H : Type} : DataW H := .agg [.lit (.int .u8 0), .lit (.int .u8 35), .lit (.int .u8 38), .lit (.int .u8 29), .lit (.int .u8 7), .lit (.int .u8 7), .lit (.int .u8 15), .lit (.int .u8 32), .lit (.int .u8 92)]

/-- 'seisinlaw08.PathFront': WHATEVER THE INPUT: true; the input reads as it did. -/
def pathFrontSpec : ChangeSpec := { name := "pathFront", fn := fun _ => fun
  | [d1, d2, d3] => { results := [.lit (.bool true)], args := [d1, d2, d3] }
  | _ => none }
def pathFrontRow : OpenClaim := { program := "ytklpiodciblabaagreatdoor", sum := "bc2498322defefd5f580f857f0be3439d115a681246e13a2569b4073a54b84f9", func := "seisin/seisinlaw08.PathFront", spec := "pathFront", unfollowed := true, recurses := true, named := ["seisin/check.needs", "math/bits.deBruijn32tab"], apart := false, laid := [("math/bits.deBruijn32tab", laid_math_bits_deBruijn32tab), ("seisin/check.needs", laid_seisin_check_needs)] }
def PathFrontSaid : Prop := pathFrontRow.holds Tryz.pinned (OpenSpec.ofChange pathFrontSpec)

/-- ITS FALSE NEIGHBOUR: 'it returns false'. Refute it at one input. -/
def pathFrontWrong : ChangeSpec := { name := "pathFront", fn := fun _ => fun
  | [d1, d2, d3] => { results := [.lit (.bool false)], args := [d1, d2, d3] }
  | _ => none }
def PathFrontWrongFalsely : Prop := pathFrontRow.holds Tryz.pinned (OpenSpec.ofChange pathFrontWrong)

/-- 'seisinlaw08.PathHangs': WHATEVER THE INPUT: true; the input reads as it did. -/
def pathHangsSpec : ChangeSpec := { name := "pathHangs", fn := fun _ => fun
  | [d1, d2, d3, d4] => { results := [.lit (.bool true)], args := [d1, d2, d3, d4] }
  | _ => none }
def pathHangsRow : OpenClaim := { program := "ytklpiodciblabaagreatdoor", sum := "bc2498322defefd5f580f857f0be3439d115a681246e13a2569b4073a54b84f9", func := "seisin/seisinlaw08.PathHangs", spec := "pathHangs", unfollowed := true, recurses := true, named := ["seisin/check.needs", "math/bits.deBruijn32tab"], apart := false, laid := [("math/bits.deBruijn32tab", laid_math_bits_deBruijn32tab), ("seisin/check.needs", laid_seisin_check_needs)] }
def PathHangsSaid : Prop := pathHangsRow.holds Tryz.pinned (OpenSpec.ofChange pathHangsSpec)

/-- ITS FALSE NEIGHBOUR: 'it returns false'. Refute it at one input. -/
def pathHangsWrong : ChangeSpec := { name := "pathHangs", fn := fun _ => fun
  | [d1, d2, d3, d4] => { results := [.lit (.bool false)], args := [d1, d2, d3, d4] }
  | _ => none }
def PathHangsWrongFalsely : Prop := pathHangsRow.holds Tryz.pinned (OpenSpec.ofChange pathHangsWrong)

/-- 'seisinlaw08.PathValues': WHATEVER THE INPUT: true; the input reads as it did. -/
def pathValuesSpec : ChangeSpec := { name := "pathValues", fn := fun _ => fun
  | [d] => { results := [.lit (.bool true)], args := [d] }
  | _ => none }
def pathValuesRow : OpenClaim := { program := "ytklpiodciblabaagreatdoor", sum := "bc2498322defefd5f580f857f0be3439d115a681246e13a2569b4073a54b84f9", func := "seisin/seisinlaw08.PathValues", spec := "pathValues", unfollowed := true, recurses := true, named := ["seisin/check.needs", "math/bits.deBruijn32tab"], loops := true, apart := false, laid := [("math/bits.deBruijn32tab", laid_math_bits_deBruijn32tab), ("seisin/check.needs", laid_seisin_check_needs)] }
def PathValuesSaid : Prop := pathValuesRow.holds Tryz.pinned (OpenSpec.ofChange pathValuesSpec)

/-- ITS FALSE NEIGHBOUR: 'it returns false'. Refute it at one input. -/
def pathValuesWrong : ChangeSpec := { name := "pathValues", fn := fun _ => fun
  | [d] => { results := [.lit (.bool false)], args := [d] }
  | _ => none }
def PathValuesWrongFalsely : Prop := pathValuesRow.holds Tryz.pinned (OpenSpec.ofChange pathValuesWrong)

/-- 'seisinlaw08.PathSums': WHATEVER THE INPUT: true; the input reads as it did. -/
def pathSumsSpec : ChangeSpec := { name := "pathSums", fn := fun _ => fun
  | [d1, d2, d3, d4] => { results := [.lit (.bool true)], args := [d1, d2, d3, d4] }
  | _ => none }
def pathSumsRow : OpenClaim := { program := "ytklpiodciblabaagreatdoor", sum := "bc2498322defefd5f580f857f0be3439d115a681246e13a2569b4073a54b84f9", func := "seisin/seisinlaw08.PathSums", spec := "pathSums", unfollowed := true, recurses := true, named := ["seisin/check.needs", "math/bits.deBruijn32tab"], apart := false, laid := [("math/bits.deBruijn32tab", laid_math_bits_deBruijn32tab), ("seisin/check.needs", laid_seisin_check_needs)] }
def PathSumsSaid : Prop := pathSumsRow.holds Tryz.pinned (OpenSpec.ofChange pathSumsSpec)

/-- ITS FALSE NEIGHBOUR: 'it returns false'. Refute it at one input. -/
def pathSumsWrong : ChangeSpec := { name := "pathSums", fn := fun _ => fun
  | [d1, d2, d3, d4] => { results := [.lit (.bool false)], args := [d1, d2, d3, d4] }
  | _ => none }
def PathSumsWrongFalsely : Prop := pathSumsRow.holds Tryz.pinned (OpenSpec.ofChange pathSumsWrong)

/-- 'seisinlaw08.PathAtomic': WHATEVER THE INPUT: true; the input reads as it did. -/
def pathAtomicSpec : ChangeSpec := { name := "pathAtomic", fn := fun _ => fun
  | [d1, d2, d3, d4] => { results := [.lit (.bool true)], args := [d1, d2, d3, d4] }
  | _ => none }
def pathAtomicRow : OpenClaim := { program := "ytklpiodciblabaagreatdoor", sum := "bc2498322defefd5f580f857f0be3439d115a681246e13a2569b4073a54b84f9", func := "seisin/seisinlaw08.PathAtomic", spec := "pathAtomic", unfollowed := true, recurses := true, named := ["seisin/check.needs", "math/bits.deBruijn32tab"], apart := false, laid := [("math/bits.deBruijn32tab", laid_math_bits_deBruijn32tab), ("seisin/check.needs", laid_seisin_check_needs)] }
def PathAtomicSaid : Prop := pathAtomicRow.holds Tryz.pinned (OpenSpec.ofChange pathAtomicSpec)

/-- ITS FALSE NEIGHBOUR: 'it returns false'. Refute it at one input. -/
def pathAtomicWrong : ChangeSpec := { name := "pathAtomic", fn := fun _ => fun
  | [d1, d2, d3, d4] => { results := [.lit (.bool false)], args := [d1, d2, d3, d4] }
  | _ => none }
def PathAtomicWrongFalsely : Prop := pathAtomicRow.holds Tryz.pinned (OpenSpec.ofChange pathAtomicWrong)

/-- 'seisinlaw08.PathTells': WHATEVER THE INPUT: true; the input reads as it did. -/
def pathTellsSpec : ChangeSpec := { name := "pathTells", fn := fun _ => fun
  | [d1, d2, d3, d4, d5] => { results := [.lit (.bool true)], args := [d1, d2, d3, d4, d5] }
  | _ => none }
def pathTellsRow : OpenClaim := { program := "ytklpiodciblabaagreatdoor", sum := "bc2498322defefd5f580f857f0be3439d115a681246e13a2569b4073a54b84f9", func := "seisin/seisinlaw08.PathTells", spec := "pathTells", unfollowed := true, recurses := true, named := ["seisin/check.needs", "math/bits.deBruijn32tab"], loops := true, apart := false, laid := [("math/bits.deBruijn32tab", laid_math_bits_deBruijn32tab), ("seisin/check.needs", laid_seisin_check_needs)] }
def PathTellsSaid : Prop := pathTellsRow.holds Tryz.pinned (OpenSpec.ofChange pathTellsSpec)

/-- ITS FALSE NEIGHBOUR: 'it returns false'. Refute it at one input. -/
def pathTellsWrong : ChangeSpec := { name := "pathTells", fn := fun _ => fun
  | [d1, d2, d3, d4, d5] => { results := [.lit (.bool false)], args := [d1, d2, d3, d4, d5] }
  | _ => none }
def PathTellsWrongFalsely : Prop := pathTellsRow.holds Tryz.pinned (OpenSpec.ofChange pathTellsWrong)

/-- 'seisinlaw08.PathReads': WHATEVER THE INPUT: true; the input reads as it did. -/
def pathReadsSpec : ChangeSpec := { name := "pathReads", fn := fun _ => fun
  | [d1, d2, d3] => { results := [.lit (.bool true)], args := [d1, d2, d3] }
  | _ => none }
def pathReadsRow : OpenClaim := { program := "ytklpiodciblabaagreatdoor", sum := "bc2498322defefd5f580f857f0be3439d115a681246e13a2569b4073a54b84f9", func := "seisin/seisinlaw08.PathReads", spec := "pathReads", unfollowed := true, recurses := true, named := ["seisin/check.needs", "math/bits.deBruijn32tab"], apart := false, laid := [("math/bits.deBruijn32tab", laid_math_bits_deBruijn32tab), ("seisin/check.needs", laid_seisin_check_needs)] }
def PathReadsSaid : Prop := pathReadsRow.holds Tryz.pinned (OpenSpec.ofChange pathReadsSpec)

/-- ITS FALSE NEIGHBOUR: 'it returns false'. Refute it at one input. -/
def pathReadsWrong : ChangeSpec := { name := "pathReads", fn := fun _ => fun
  | [d1, d2, d3] => { results := [.lit (.bool false)], args := [d1, d2, d3] }
  | _ => none }
def PathReadsWrongFalsely : Prop := pathReadsRow.holds Tryz.pinned (OpenSpec.ofChange pathReadsWrong)

/-- 'seisinlaw08.PathAll': WHATEVER THE INPUT: true; the input reads as it did. -/
def pathAllSpec : ChangeSpec := { name := "pathAll", fn := fun _ => fun
  | [d1, d2, d3] => { results := [.lit (.bool true)], args := [d1, d2, d3] }
  | _ => none }
def pathAllRow : OpenClaim := { program := "ytklpiodciblabaagreatdoor", sum := "bc2498322defefd5f580f857f0be3439d115a681246e13a2569b4073a54b84f9", func := "seisin/seisinlaw08.PathAll", spec := "pathAll", unfollowed := true, recurses := true, named := ["seisin/check.needs", "math/bits.deBruijn32tab"], apart := false, laid := [("math/bits.deBruijn32tab", laid_math_bits_deBruijn32tab), ("seisin/check.needs", laid_seisin_check_needs)] }
def PathAllSaid : Prop := pathAllRow.holds Tryz.pinned (OpenSpec.ofChange pathAllSpec)

/-- ITS FALSE NEIGHBOUR: 'it returns false'. Refute it at one input. -/
def pathAllWrong : ChangeSpec := { name := "pathAll", fn := fun _ => fun
  | [d1, d2, d3] => { results := [.lit (.bool false)], args := [d1, d2, d3] }
  | _ => none }
def PathAllWrongFalsely : Prop := pathAllRow.holds Tryz.pinned (OpenSpec.ofChange pathAllWrong)

/- THE SECOND FORM. 'bulk': how many values and letters a reading holds, each counted each time it is reached (what is shared counts as often as it is met; a slice's spare places count too). A statement '..UptoSaid' is the law's where the arguments, and the package variables that the reading takes, are together of bulk at most 1048576: NARROWER than '..Said'. Prove '..Said' where nothing that the law and all that it calls make is longer than what came in: it says more and counts as full. Else prove '..UptoSaid'. A law counts once. -/
mutual
def uptoBulk {H : Type} : DataW H → Nat
  | .lit (.string bytes) => bytes.length + 1
  | .lit _ => 1
  | .nil => 1
  | .ptr d => uptoBulk d + 1
  | .slice elems spare => uptoBulkAll elems + uptoBulkAll spare + 1
  | .agg parts => uptoBulkAll parts + 1
  | .iface _ d => uptoBulk d + 1
  | .map entries => uptoBulkEntries entries + 1
  | .held _ => 1
def uptoBulkAll {H : Type} : List (DataW H) → Nat
  | [] => 0
  | d :: r => uptoBulk d + uptoBulkAll r
def uptoBulkEntries {H : Type} : List (Lit × DataW H) → Nat
  | [] => 0
  | x :: r => uptoBulkEntry x + uptoBulkEntries r
def uptoBulkEntry {H : Type} : Lit × DataW H → Nat
  | (.string bytes, d) => bytes.length + uptoBulk d + 1
  | (_, d) => uptoBulk d + 1
 end
def uptoSmall : (H : Type) → List (DataW H) → Bool := fun _ ds => decide (uptoBulkAll ds ≤ 1048576)
def OpenSpec.upto (s : _root_.Go.ChangeSpec) : _root_.Go.OpenSpec := { _root_.Go.OpenSpec.ofChange s with cond := some uptoSmall }

/-- 'seisinlaw08.PathFront', WHERE WHAT IT READS IS OF BULK AT MOST 1048576: true; the input reads as it did. -/
def pathFrontUptoRow : OpenClaim := { program := "ytklpiodciblabaagreatdoor", sum := "bc2498322defefd5f580f857f0be3439d115a681246e13a2569b4073a54b84f9", func := "seisin/seisinlaw08.PathFront", spec := "pathFront", unfollowed := true, recurses := true, named := ["seisin/check.needs", "math/bits.deBruijn32tab"], apart := false, laid := [("math/bits.deBruijn32tab", laid_math_bits_deBruijn32tab), ("seisin/check.needs", laid_seisin_check_needs)], narrowed := true }
def PathFrontUptoSaid : Prop := pathFrontUptoRow.holds Tryz.pinned (OpenSpec.upto pathFrontSpec)

/-- 'seisinlaw08.PathHangs', WHERE WHAT IT READS IS OF BULK AT MOST 1048576: true; the input reads as it did. -/
def pathHangsUptoRow : OpenClaim := { program := "ytklpiodciblabaagreatdoor", sum := "bc2498322defefd5f580f857f0be3439d115a681246e13a2569b4073a54b84f9", func := "seisin/seisinlaw08.PathHangs", spec := "pathHangs", unfollowed := true, recurses := true, named := ["seisin/check.needs", "math/bits.deBruijn32tab"], apart := false, laid := [("math/bits.deBruijn32tab", laid_math_bits_deBruijn32tab), ("seisin/check.needs", laid_seisin_check_needs)], narrowed := true }
def PathHangsUptoSaid : Prop := pathHangsUptoRow.holds Tryz.pinned (OpenSpec.upto pathHangsSpec)

/-- 'seisinlaw08.PathValues', WHERE WHAT IT READS IS OF BULK AT MOST 1048576: true; the input reads as it did. -/
def pathValuesUptoRow : OpenClaim := { program := "ytklpiodciblabaagreatdoor", sum := "bc2498322defefd5f580f857f0be3439d115a681246e13a2569b4073a54b84f9", func := "seisin/seisinlaw08.PathValues", spec := "pathValues", unfollowed := true, recurses := true, named := ["seisin/check.needs", "math/bits.deBruijn32tab"], loops := true, apart := false, laid := [("math/bits.deBruijn32tab", laid_math_bits_deBruijn32tab), ("seisin/check.needs", laid_seisin_check_needs)], narrowed := true }
def PathValuesUptoSaid : Prop := pathValuesUptoRow.holds Tryz.pinned (OpenSpec.upto pathValuesSpec)

/-- 'seisinlaw08.PathSums', WHERE WHAT IT READS IS OF BULK AT MOST 1048576: true; the input reads as it did. -/
def pathSumsUptoRow : OpenClaim := { program := "ytklpiodciblabaagreatdoor", sum := "bc2498322defefd5f580f857f0be3439d115a681246e13a2569b4073a54b84f9", func := "seisin/seisinlaw08.PathSums", spec := "pathSums", unfollowed := true, recurses := true, named := ["seisin/check.needs", "math/bits.deBruijn32tab"], apart := false, laid := [("math/bits.deBruijn32tab", laid_math_bits_deBruijn32tab), ("seisin/check.needs", laid_seisin_check_needs)], narrowed := true }
def PathSumsUptoSaid : Prop := pathSumsUptoRow.holds Tryz.pinned (OpenSpec.upto pathSumsSpec)

/-- 'seisinlaw08.PathAtomic', WHERE WHAT IT READS IS OF BULK AT MOST 1048576: true; the input reads as it did. -/
def pathAtomicUptoRow : OpenClaim := { program := "ytklpiodciblabaagreatdoor", sum := "bc2498322defefd5f580f857f0be3439d115a681246e13a2569b4073a54b84f9", func := "seisin/seisinlaw08.PathAtomic", spec := "pathAtomic", unfollowed := true, recurses := true, named := ["seisin/check.needs", "math/bits.deBruijn32tab"], apart := false, laid := [("math/bits.deBruijn32tab", laid_math_bits_deBruijn32tab), ("seisin/check.needs", laid_seisin_check_needs)], narrowed := true }
def PathAtomicUptoSaid : Prop := pathAtomicUptoRow.holds Tryz.pinned (OpenSpec.upto pathAtomicSpec)

/-- 'seisinlaw08.PathTells', WHERE WHAT IT READS IS OF BULK AT MOST 1048576: true; the input reads as it did. -/
def pathTellsUptoRow : OpenClaim := { program := "ytklpiodciblabaagreatdoor", sum := "bc2498322defefd5f580f857f0be3439d115a681246e13a2569b4073a54b84f9", func := "seisin/seisinlaw08.PathTells", spec := "pathTells", unfollowed := true, recurses := true, named := ["seisin/check.needs", "math/bits.deBruijn32tab"], loops := true, apart := false, laid := [("math/bits.deBruijn32tab", laid_math_bits_deBruijn32tab), ("seisin/check.needs", laid_seisin_check_needs)], narrowed := true }
def PathTellsUptoSaid : Prop := pathTellsUptoRow.holds Tryz.pinned (OpenSpec.upto pathTellsSpec)

/-- 'seisinlaw08.PathReads', WHERE WHAT IT READS IS OF BULK AT MOST 1048576: true; the input reads as it did. -/
def pathReadsUptoRow : OpenClaim := { program := "ytklpiodciblabaagreatdoor", sum := "bc2498322defefd5f580f857f0be3439d115a681246e13a2569b4073a54b84f9", func := "seisin/seisinlaw08.PathReads", spec := "pathReads", unfollowed := true, recurses := true, named := ["seisin/check.needs", "math/bits.deBruijn32tab"], apart := false, laid := [("math/bits.deBruijn32tab", laid_math_bits_deBruijn32tab), ("seisin/check.needs", laid_seisin_check_needs)], narrowed := true }
def PathReadsUptoSaid : Prop := pathReadsUptoRow.holds Tryz.pinned (OpenSpec.upto pathReadsSpec)

/-- 'seisinlaw08.PathAll', WHERE WHAT IT READS IS OF BULK AT MOST 1048576: true; the input reads as it did. -/
def pathAllUptoRow : OpenClaim := { program := "ytklpiodciblabaagreatdoor", sum := "bc2498322defefd5f580f857f0be3439d115a681246e13a2569b4073a54b84f9", func := "seisin/seisinlaw08.PathAll", spec := "pathAll", unfollowed := true, recurses := true, named := ["seisin/check.needs", "math/bits.deBruijn32tab"], apart := false, laid := [("math/bits.deBruijn32tab", laid_math_bits_deBruijn32tab), ("seisin/check.needs", laid_seisin_check_needs)], narrowed := true }
def PathAllUptoSaid : Prop := pathAllUptoRow.holds Tryz.pinned (OpenSpec.upto pathAllSpec)

end Rows
end Go.Proofs.YtklpiodciblabaaGreatDoor
