/-
  Arguments opened, with their capacities. Conditions: none.
-/
import Derived.Test.YtmfdpnjgljlkbaaDoorOpK
import Derived.Test.YtmfdpnjgljlkbaaDoorPgC
import Derived.Test.YtmfdpnjgljlkbaaDoorOpG
set_option linter.unusedSimpArgs false
set_option linter.unusedVariables false
namespace Go.Proofs.YtmfdpnjgljlkbaaDoor
open Go.ChangeShapes Go.WideShapes Go.ChangeAt Go.RowKit Go.Deep
set_option maxRecDepth 100000

section
variable {H : Type} {enc : TypeId × Value → H} {w : World} {spare : Nat → Bool} {held : Bool} {fuel : Nat} {cs : List Value} {x : DataW H × List MemPlace}
theorem o_threadsK (h : DataW.trod enc Tryd.prog w 0 spare held fuel 35 cs = some x) : ∃ A C, ∃ l : List (List Ins), cs = [.slice A l.length C] ∧ ThreadsCap w A l ∧ l.length ≤ C ∧ C ≤ maxLen ∧ (A = none → C = 0) := by
  obtain ⟨A, len, cap, rfl, hl, hc, hA, m, _, hi⟩ := o_slice Tryd.underlying35 (by rw [cInses]; omega) h
  rw [cInses] at hi
  obtain ⟨T, hT⟩ := choose_lt (p := fun i (t : List Ins) => ∃ b off B C, A = some ⟨b, off, none⟩ ∧ w.cell? ⟨b, off + i * 1, none⟩ = some (.slice B t.length C) ∧ RowsAt w B 10 (t.map Ins.cells) ∧ t.length ≤ C ∧ C ≤ 9223372036854775807) (fun i him => by
    obtain ⟨b, off, cs', y, h1, _, _, h2, h3⟩ := hi i him
    obtain ⟨B, C, l, rfl, h4, h5, h6, _⟩ := o_inses h3
    exact ⟨l, b, off, B, C, h1, by have := h2 0 _ rfl; rwa [Nat.add_zero] at this, h4, h5, by unfold maxLen at h6; omega⟩)
  refine ⟨A, cap, (List.range len).map T, by simp, fun j c hj => ?_, by simpa using hl, hc, fun h => (hA h).2⟩
  rw [List.getElem?_map] at hj
  obtain ⟨q, hq, rfl⟩ := Option.map_eq_some_iff.1 hj
  obtain ⟨hjl, rfl⟩ := List.getElem?_eq_some_iff.1 hq
  rw [List.length_range] at hjl
  rw [List.getElem_range]
  exact hT j hjl
theorem o_progK (h : DataW.trod enc Tryd.prog w 0 spare held fuel 37 cs = some x) : ∃ p : Prg, ProgCap w cs p := by
  obtain ⟨hl, m, _, hf⟩ := o_struct Tryd.underlying37 h
  rw [cProg] at hl
  obtain ⟨a0, a1, a2, a3, a4, a5, a6, a7, a8, a9, rfl⟩ := len10' hl
  obtain ⟨y0, h0⟩ := hf 0 _ rfl
  obtain ⟨y1, h1⟩ := hf 1 _ rfl
  obtain ⟨y2, h2⟩ := hf 2 _ rfl
  obtain ⟨y3, h3⟩ := hf 3 _ rfl
  obtain ⟨y4, h4⟩ := hf 4 _ rfl
  obtain ⟨y5, h5⟩ := hf 5 _ rfl
  replace h0 : DataW.trod enc Tryd.prog w 0 spare held m 9 (([a0, a1, a2, a3, a4, a5, a6, a7, a8, a9].drop 0).take (Tryd.prog.cellsOf 9)) = _ := h0
  replace h1 : DataW.trod enc Tryd.prog w 0 spare held m 33 (([a0, a1, a2, a3, a4, a5, a6, a7, a8, a9].drop 1).take (Tryd.prog.cellsOf 33)) = _ := h1
  replace h2 : DataW.trod enc Tryd.prog w 0 spare held m 34 (([a0, a1, a2, a3, a4, a5, a6, a7, a8, a9].drop 2).take (Tryd.prog.cellsOf 34)) = _ := h2
  replace h3 : DataW.trod enc Tryd.prog w 0 spare held m 35 (([a0, a1, a2, a3, a4, a5, a6, a7, a8, a9].drop 3).take (Tryd.prog.cellsOf 35)) = _ := h3
  replace h4 : DataW.trod enc Tryd.prog w 0 spare held m 5 (([a0, a1, a2, a3, a4, a5, a6, a7, a8, a9].drop 4).take (Tryd.prog.cellsOf 5)) = _ := h4
  replace h5 : DataW.trod enc Tryd.prog w 0 spare held m 25 (([a0, a1, a2, a3, a4, a5, a6, a7, a8, a9].drop 5).take (Tryd.prog.cellsOf 25)) = _ := h5
  rw [cStr] at h0
  rw [cStrs] at h1
  rw [cU8s] at h2
  rw [cInsess] at h3
  rw [cU8] at h4
  rw [cCond] at h5
  obtain ⟨s, e0, hs⟩ := o_str Tryd.underlying9 h0
  obtain ⟨LA, LC, locs, e1, l1, l2, l3, l4, _⟩ := o_strs h1
  obtain ⟨IA, IC, init, e2, i1, i2, i3, _⟩ := o_bytes h2
  obtain ⟨TA, TC, threads, e3, t1, t2, t3, _⟩ := o_threadsK h3
  obtain ⟨ask, e4⟩ := o_u8 Tryd.underlying5 h4
  obtain ⟨c, hc⟩ := o_condK m h5
  simp only [List.drop, List.take, List.cons.injEq, and_true] at e0 e1 e2 e3 e4 hc
  subst e0 e1 e2 e3 e4
  unfold maxLen at l4 i3 t3
  exact ⟨⟨s, locs, init, threads, ask, c⟩, LA, LC, IA, IC, TA, TC, m, [a5, a6, a7, a8, a9], ⟨rfl, hs, l1, by show locs.length ≤ _; omega, l3, l2, i1, by show init.length ≤ _; omega, t1.at, by show threads.length ≤ _; omega, hc.at⟩, hc, t1, i2, t2⟩
end
section
variable {H : Type} {enc : TypeId × Value → H} {W : World} {v : Value} {d : DataW H} {p : List MemPlace}
theorem a_inses (hv : Value.okWide Tryd.prog W .any 0 22 v) (h : DataW.Trod enc Tryd.prog W 0 (fun _ => true) true 22 v d p) : ∃ A C, ∃ l : List Ins, v = .slice A l.length C ∧ RowsAt W A 10 (l.map Ins.cells) ∧ l.length ≤ C ∧ l.length ≤ 9223372036854775807 ∧ (A = none → C = 0) := by
  obtain ⟨a, len, cap, rfl⟩ := okWide_slice Tryd.underlying22 hv
  obtain ⟨fuel, hf⟩ := h
  obtain ⟨A, C, l, h1, h2, h3, h4, h5⟩ := o_inses hf
  unfold maxLen at h4
  exact ⟨A, C, l, by simpa [Value.cells] using h1, h2, h3, by omega, h5⟩
theorem a_progK (hv : Value.okWide Tryd.prog W .any 0 37 v) (h : DataW.Trod enc Tryd.prog W 0 (fun _ => true) true 37 v d p) : ∃ cs q, v = .agg cs.toArray ∧ ProgCap W cs q := by
  obtain ⟨cs, rfl, _⟩ := okWide_struct Tryd.underlying37 hv
  obtain ⟨fuel, hf⟩ := h
  obtain ⟨q, hq⟩ := o_progK hf
  exact ⟨cs.toList, q, by simp, hq⟩
end
end Go.Proofs.YtmfdpnjgljlkbaaDoor
