/-
  The table of trailing zeros as the rows' condition gives it. Conditions: none.
-/
import Derived.Test.YtklpiodciblabaaGreatDoorPa1
import Derived.Test.YtklpiodciblabaaGreatDoorOpK
set_option linter.unusedSimpArgs false
set_option linter.unusedVariables false
namespace Go.Proofs.YtklpiodciblabaaGreatDoor
open Go.ChangeShapes Go.WideShapes Go.ChangeAt Go.RowKit Go.Deep
set_option maxRecDepth 100000
theorem gTab : Tryz.prog.globalNamed "math/bits.deBruijn32tab" = some 1 := by kernel_rfl
theorem tTab : (Tryz.prog.globals[1]?).map (·.type) = some 165 := by kernel_rfl
theorem tab_lits : (Rows.laid_math_bits_deBruijn32tab : DataW Unit) = .agg (tabL.map fun n : Nat => .lit (.int .u8 (n : Int))) := rfl
theorem tab_of_laid {W : World} (h : laidMetH Tryz.prog laidN W) : TabAt W := by
  rw [MakeChecks.laidMetH_plain _ _ _ (by kernel_rfl)] at h
  obtain ⟨ps, hps, _, _⟩ := h
  obtain ⟨g0, t0, cs0, f0, p0, hg0, ht0, hv0, hd0⟩ := laid_at (n := "math/bits.deBruijn32tab") (d := Rows.laid_math_bits_deBruijn32tab) hps (by unfold laidN; exact .head _)
  obtain rfl := Option.some.inj (gTab.symm.trans hg0)
  obtain rfl := Option.some.inj (tTab.symm.trans ht0)
  obtain ⟨xs, m1, rfl, hx1, hlen, hn3, hel⟩ := DataW.trod_array Tryz.underlying165 hd0
  have key : ∀ i, i < 32 → ∃ n, cs0[i]? = some (.int .u8 n) ∧ (xs.map (·.1))[i]? = some (.lit (.int .u8 n)) := fun i hi => by
    have h1 := hel i hi
    rw [cU8, List.getElem?_eq_getElem (by omega)] at h1
    obtain ⟨n, e1, e2, _⟩ := DataW.trod_int Tryz.underlying5 h1
    refine ⟨n, ?_, ?_⟩
    · have : (((cs0.toList.drop (i * 1)).take 1))[0]? = some (.int .u8 n) := by rw [e1]; rfl
      rw [List.getElem?_take, if_pos (by omega), List.getElem?_drop, Nat.mul_one, Nat.add_zero, Array.getElem?_toList] at this
      exact this
    · rw [List.getElem?_map, List.getElem?_eq_getElem (by omega), e2]; rfl
  simp only [Prod.mk.injEq] at hx1
  have hl : xs.map (·.1) = tabL.map fun n : Nat => .lit (.int .u8 (n : Int)) := by
    have := hx1.1
    rw [tab_lits, DataW.agg.injEq] at this
    exact this.symm
  rw [hl] at key
  intro i hi
  obtain ⟨n, h1, h2⟩ := key i hi
  rw [World.var?_cell hg0 hv0, h1]
  have hlt : i < tabL.length := hi
  rw [List.getElem?_map, List.getElem?_eq_getElem hlt] at h2
  have e : n = ((tabL[i] : Nat) : Int) := by
    have := Option.some.inj h2
    injection this with this
    injection this with _ this
    exact this.symm
  have hb : ∀ j, (hj : j < 32) → (tabL[j]'hj) < 256 := by decide
  have hd : tabL.getD i 0 = tabL[i] := by rw [List.getD_eq_getElem?_getD, List.getElem?_eq_getElem hlt]; rfl
  unfold tabB b8
  rw [e, hd, UInt8.toNat_ofNat', Nat.mod_eq_of_lt (show tabL[i] < 2 ^ 8 from hb i hi)]
end Go.Proofs.YtklpiodciblabaaGreatDoor
