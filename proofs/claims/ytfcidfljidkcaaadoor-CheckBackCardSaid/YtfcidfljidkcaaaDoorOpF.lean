/-
  Outcomes that are read: they are 38 bytes. Conditions: none.
-/
import Derived.Test.YtfcidfljidkcaaaDoorOpK
import Derived.Test.YtfcidfljidkcaaaDoorVcL
set_option linter.unusedSimpArgs false
set_option linter.unusedVariables false
namespace Go.Proofs.YtfcidfljidkcaaaDoor
open Go.ChangeShapes Go.WideShapes Go.ChangeAt Go.RowKit Go.Deep
set_option maxRecDepth 100000
theorem by_cells {P : Program} {t : TypeId} {n : Nat} (hb : ByT P t n) {H : Type} {enc : TypeId × Value → H} {w : World} {spare : Nat → Bool} {held : Bool} {fuel : Nat} {cs : List Value} {x : DataW H × List MemPlace} (h : DataW.trod enc P w 0 spare held fuel t cs = some x) : ∃ s : By, cs = bs n s := by
  obtain ⟨hl, hi⟩ := hb.2 enc w spare held fuel cs x h
  obtain ⟨T, hT⟩ := choose_lt hi
  refine ⟨T, List.ext_getElem? fun i => ?_⟩
  rcases Nat.lt_or_ge i n with h1 | h1
  · rw [hT i h1, bs_get h1]
  · rw [List.getElem?_eq_none (by omega), bs_none h1]
theorem b8T : ByT Tryd.prog 5 1 := byT_u8 Tryd.underlying5 cU8
theorem bRegs : ByT Tryd.prog 30 8 := byT_array Tryd.underlying30 b8T (by omega) (by kernel_rfl)
theorem bRegs4 : ByT Tryd.prog 31 32 := byT_array Tryd.underlying31 bRegs (by omega) (by kernel_rfl)
theorem bMem : ByT Tryd.prog 32 6 := byT_array Tryd.underlying32 b8T (by omega) (by kernel_rfl)
theorem bFinal : ByT Tryd.prog 34 38 := byT_struct Tryd.underlying34 (by kernel_rfl) fun i hi => by
  rcases (by omega : i < 32 ∨ 32 ≤ i) with h | h
  · exact ⟨0, _, 32, rfl, bRegs4, Nat.zero_le _, by show i < 0 + 32; omega⟩
  · exact ⟨1, _, 6, rfl, bMem, h, by show i < 32 + 6; omega⟩
section
variable {H : Type} {enc : TypeId × Value → H} {W : World} {v : Value} {d : DataW H} {p : List MemPlace}
theorem a_final (hv : Value.okWide Tryd.prog W .any 0 34 v) (h : DataW.Trod enc Tryd.prog W 0 (fun _ => true) true 34 v d p) : ∃ s : By, v = .agg (bs 38 s).toArray := by
  obtain ⟨cs, rfl, _⟩ := okWide_struct Tryd.underlying34 hv
  obtain ⟨fuel, hf⟩ := h
  obtain ⟨s, hs⟩ := by_cells bFinal hf
  exact ⟨s, by rw [← hs]; simp [Value.cells]⟩
end
end Go.Proofs.YtfcidfljidkcaaaDoor
