/-
  DERIVED: THE SHELF's CONTRACTS AT THIS DUMP, IN PLAIN WORDS (tools/lay-plain.mjs out of 'TryzShelf.lean', which tools/lay-shelf.mjs wrote): THE SAME DECLARATIONS UNDER THE SAME NAMES: 'import', 'namespace', 'open', 'def', 'theorem' AND NOTHING ELSE: no command of the shelf's: FOR A HAND-IN. Each laying: the table of numbers ('.._ren') and one theorem, a field a fact of the dump's own or the kernel's comparison; each contract: ONE APPLICATION.
-/
import Derived.Shelf.Strconv.Itoa0
import Derived.Shelf.Strconv.Itoa1
import Derived.Shelf.LaysM
import Derived.Shelf.Strconv.Itoa2
import Derived.Shelf.Strconv.Itoa3
import Derived.Shelf.Slices.Turned
import Derived.Shelf.Slices.Equal
import Derived.Shelf.Slices.Empties2
import Derived.Test.YtkchaoajegkadaaGreatDoorProg
namespace Go.Proofs
open Go.Shelf
def Tryz.laysM171_ren:Go.Shelf.Ren:=⟨fun | 171=>94 | 243=>129 | 246=>151 | 283=>160 | 284=>161 | 285=>162 | 286=>163 | 129=>170 | 317=>169 | 318=>171 | 319=>172 | 320=>173 | 337=>174 | 338=>175 | n=>n,fun | 3=>3 | 9=>9 | 2=>2 | 4=>4 | 171=>184 | 0=>0 | 53=>185 | 37=>23 | 5=>5 | 173=>188 | 212=>199 | 51=>192 | 20=>20 | 213=>200 | 46=>178 | 232=>204 | 233=>205 | n=>n,fun | 17=>1 | 18=>2 | 19=>3 | n=>n⟩
theorem Tryz.laysM171:Go.Proofs.LaysM.n171 Tryz.prog Tryz.laysM171_ren:={
 mixed:=by kernel_rfl
 f129:=func170.trans (congrArg some (by kernel_rfl))
 f171:=func94.trans (congrArg some (by kernel_rfl))
 f243:=func129.trans (congrArg some (by kernel_rfl))
 f246:=func151.trans (congrArg some (by kernel_rfl))
 f283:=func160.trans (congrArg some (by kernel_rfl))
 f284:=func161.trans (congrArg some (by kernel_rfl))
 f285:=func162.trans (congrArg some (by kernel_rfl))
 f286:=func163.trans (congrArg some (by kernel_rfl))
 f317:=func169.trans (congrArg some (by kernel_rfl))
 f318:=func171.trans (congrArg some (by kernel_rfl))
 f319:=func172.trans (congrArg some (by kernel_rfl))
 f320:=func173.trans (congrArg some (by kernel_rfl))
 f337:=func174.trans (congrArg some (by kernel_rfl))
 f338:=func175.trans (congrArg some (by kernel_rfl))
 t0:=underlying0
 a0:=isAgg0
 z0:=sizeOf0
 v0:=zeroValue0
 t2:=underlying2
 a2:=isAgg2
 z2:=sizeOf2
 v2:=zeroValue2
 t3:=underlying3
 a3:=isAgg3
 z3:=sizeOf3
 v3:=zeroValue3
 t4:=underlying4
 a4:=isAgg4
 z4:=sizeOf4
 v4:=zeroValue4
 t5:=underlying5
 a5:=isAgg5
 z5:=sizeOf5
 v5:=zeroValue5
 t9:=underlying9
 a9:=isAgg9
 z9:=sizeOf9
 v9:=zeroValue9
 t20:=underlying20
 a20:=isAgg20
 z20:=sizeOf20
 v20:=zeroValue20
 t37:=underlying23
 a37:=isAgg23
 z37:=sizeOf23
 v37:=zeroValue23
 t46:=underlying178
 a46:=isAgg178
 z46:=sizeOf178
 v46:=zeroValue178
 t51:=underlying192
 a51:=isAgg192
 z51:=sizeOf192
 v51:=zeroValue192
 t53:=underlying185
 a53:=isAgg185
 z53:=sizeOf185
 v53:=zeroValue185
 t171:=underlying184
 a171:=isAgg184
 z171:=sizeOf184
 v171:=zeroValue184
 t173:=underlying188
 a173:=isAgg188
 z173:=sizeOf188
 v173:=zeroValue188
 t212:=underlying199
 a212:=isAgg199
 z212:=sizeOf199
 v212:=zeroValue199
 t213:=underlying200
 a213:=isAgg200
 z213:=sizeOf200
 t232:=underlying204
 a232:=isAgg204
 z232:=sizeOf204
 v232:=zeroValue204
 t233:=underlying205
 a233:=isAgg205
 z233:=sizeOf205
 v233:=zeroValue205
 g17:=by kernel_rfl
 g18:=by kernel_rfl
 g19:=by kernel_rfl
 i0:=by kernel_rfl
 i2:=by kernel_rfl
 i3:=by kernel_rfl
 i4:=by kernel_rfl
 i5:=by kernel_rfl
 i9:=by kernel_rfl
 i20:=by kernel_rfl
 i37:=by kernel_rfl
 i46:=by kernel_rfl
 i51:=by kernel_rfl
 i53:=by kernel_rfl
 i171:=by kernel_rfl
 i173:=by kernel_rfl
 i212:=by kernel_rfl
 i232:=by kernel_rfl
 i233:=by kernel_rfl
 m17:=by kernel_rfl
 m18:=by kernel_rfl
 m19:=by kernel_rfl }
open Go.RowKit Go.Sort Go.Lib in
theorem Tryz.strconv_Itoa (n : Int) (h0 : -9223372036854775808 ≤ n) (h1 : n ≤ 9223372036854775807) (w : World) (htab : Lib.TabIs Tryz.prog w "internal/strconv.uint64pow10" .u64 Lib.pow10Tab) :
   Calls Tryz.prog 94 #[.int .i64 n] w fun e w'=>e = .returned (.string ⟨(Lib.itoa n).toArray⟩)∧∃ k os,w'=grow (w.drewN k) os:=Any.strconv_Itoa Tryz.laysM171 n h0 h1 w htab
end Go.Proofs
