/-
  slices.SortFunc at outcomes and slices.Reverse at moves, laid at this program (printed by the kit's lay-plain for the seat of chapter 15: its numbers are that seat's). Conditions: none.
-/
import Derived.Shelf.SlSortCmp.WholeK
import Derived.Shelf.SlicesQ.Reverse
import Derived.Test.YtbgnapmaimkpkaaGreatDoorProg
set_option linter.unusedSimpArgs false
set_option linter.unusedVariables false
namespace Go.Proofs.YtbgnapmaimkpkaaGreatDoor
open Go.Proofs.Tryz
open Go.Shelf
def sortFin_ren : Go.Shelf.Ren := ⟨fun | 6 => 98 | 15 => 138 | 14 => 137 | 28 => 179 | 29 => 180 | 20 => 171 | 21 => 172 | 22 => 173 | 23 => 174 | 24 => 175 | 25 => 176 | 26 => 177 | 27 => 178 | 46 => 187 | 47 => 188 | 48 => 189 | 49 => 190 | 50 => 191 | 57 => 198 | n => n, fun | 22 => 30 | 24 => 47 | 25 => 160 | 3 => 3 | 39 => 204 | 0 => 0 | 53 => 233 | 55 => 235 | 4 => 4 | 46 => 227 | 45 => 226 | 50 => 82 | 5 => 5 | 9 => 9 | 66 => 246 | 70 => 250 | 76 => 253 | 77 => 254 | n => n, fun | n => n⟩
theorem sortFin : Go.Proofs.SlLaysF0.n6 Tryz.prog sortFin_ren := {
  mixed := by kernel_rfl
  f6 := ⟨Tryz.f98.name, by decide, func98.trans (congrArg some (by kernel_rfl))⟩
  f14 := ⟨Tryz.f137.name, by decide, func137.trans (congrArg some (by kernel_rfl))⟩
  f15 := func138.trans (congrArg some (by kernel_rfl))
  f20 := ⟨Tryz.f171.name, by decide, func171.trans (congrArg some (by kernel_rfl))⟩
  f21 := ⟨Tryz.f172.name, by decide, func172.trans (congrArg some (by kernel_rfl))⟩
  f22 := ⟨Tryz.f173.name, by decide, func173.trans (congrArg some (by kernel_rfl))⟩
  f23 := ⟨Tryz.f174.name, by decide, func174.trans (congrArg some (by kernel_rfl))⟩
  f24 := ⟨Tryz.f175.name, by decide, func175.trans (congrArg some (by kernel_rfl))⟩
  f25 := ⟨Tryz.f176.name, by decide, func176.trans (congrArg some (by kernel_rfl))⟩
  f26 := ⟨Tryz.f177.name, by decide, func177.trans (congrArg some (by kernel_rfl))⟩
  f27 := ⟨Tryz.f178.name, by decide, func178.trans (congrArg some (by kernel_rfl))⟩
  f28 := func179.trans (congrArg some (by kernel_rfl))
  f29 := func180.trans (congrArg some (by kernel_rfl))
  f46 := ⟨Tryz.f187.name, by decide, func187.trans (congrArg some (by kernel_rfl))⟩
  f47 := func188.trans (congrArg some (by kernel_rfl))
  f48 := func189.trans (congrArg some (by kernel_rfl))
  f49 := ⟨Tryz.f190.name, by decide, func190.trans (congrArg some (by kernel_rfl))⟩
  f50 := ⟨Tryz.f191.name, by decide, func191.trans (congrArg some (by kernel_rfl))⟩
  f57 := ⟨Tryz.f198.name, by decide, func198.trans (congrArg some (by kernel_rfl))⟩
  t0 := underlying0
  a0 := isAgg0
  z0 := sizeOf0
  v0 := zeroValue0
  t3 := underlying3
  a3 := isAgg3
  z3 := sizeOf3
  v3 := zeroValue3
  t4 := underlying4
  a4 := isAgg4
  z4 := sizeOf4
  v4 := zeroValue4
  t5 := underlying5
  a5 := isAgg5
  z5 := sizeOf5
  v5 := zeroValue5
  t9 := underlying9
  a9 := isAgg9
  z9 := sizeOf9
  v9 := zeroValue9
  t22 := underlying30
  a22 := isAgg30
  z22 := sizeOf30
  v22 := zeroValue30
  t25 := underlying160
  a25 := isAgg160
  z25 := sizeOf160
  v25 := zeroValue160
  t39 := underlying204
  a39 := isAgg204
  z39 := sizeOf204
  v39 := zeroValue204
  t45 := underlying226
  a45 := isAgg226
  z45 := sizeOf226
  v45 := zeroValue226
  t46 := underlying227
  a46 := isAgg227
  z46 := sizeOf227
  v46 := zeroValue227
  t50 := underlying82
  a50 := isAgg82
  z50 := sizeOf82
  v50 := zeroValue82
  t53 := underlying233
  a53 := isAgg233
  z53 := sizeOf233
  v53 := zeroValue233
  t55 := underlying235
  a55 := isAgg235
  z55 := sizeOf235
  v55 := zeroValue235
  t66 := underlying246
  a66 := isAgg246
  z66 := sizeOf246
  v66 := zeroValue246
  t70 := underlying250
  a70 := isAgg250
  z70 := sizeOf250
  v70 := zeroValue250
  t76 := underlying253
  a76 := isAgg253
  z76 := sizeOf253
  v76 := zeroValue253
  t77 := underlying254
  a77 := isAgg254
  z77 := sizeOf254
  v77 := zeroValue254 }
def revPass_ren : Go.Shelf.Ren := ⟨fun | 35 => 101 | n => n, fun | 22 => 58 | 23 => 86 | 3 => 3 | 4 => 4 | 0 => 0 | n => n, fun | n => n⟩
theorem revPass : Go.Proofs.SlLaysE0.n35 Tryz.prog revPass_ren := {
  mixed := by kernel_rfl
  f35 := ⟨Tryz.f101.name, by decide, func101.trans (congrArg some (by kernel_rfl))⟩
  t0 := underlying0
  a0 := isAgg0
  z0 := sizeOf0
  v0 := zeroValue0
  t3 := underlying3
  a3 := isAgg3
  z3 := sizeOf3
  v3 := zeroValue3
  t4 := underlying4
  a4 := isAgg4
  z4 := sizeOf4
  v4 := zeroValue4
  t22 := underlying58
  a22 := isAgg58
  z22 := sizeOf58
  v22 := zeroValue58 }
end Go.Proofs.YtbgnapmaimkpkaaGreatDoor
