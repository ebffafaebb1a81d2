/-
  How conditions, strings and slices of strings are read out of a row's arguments. Conditions: none.
-/
import Derived.Test.YtmfdpnjgljlkbaaDoorOpK
import Derived.Test.YtmfdpnjgljlkbaaDoorCapC
import Derived.OpenShut
set_option linter.unusedSimpArgs false
set_option linter.unusedVariables false
namespace Go.Proofs.YtmfdpnjgljlkbaaDoor
open Go.ChangeShapes Go.WideShapes Go.ChangeAt Go.RowKit Go.Deep
set_option maxRecDepth 100000

section
variable {H : Type} {enc : TypeId × Value → H} {w : World} {spare : Nat → Bool} {held : Bool} {fuel : Nat} {cs : List Value} {x : DataW H × List MemPlace}
theorem CapAt.succ : ∀ (h : Nat) (cs : List Value) (c : Cnd), CapAt w h cs c → CapAt w (h + 1) cs c
  | 0, _, _, hc => hc.elim
  | h + 1, cs, .mk k t n v kids, hc => by
    obtain ⟨A, C, h1, h2, h2', h3⟩ := hc
    refine ⟨A, C, h1, h2, h2', fun j kid hj => ?_⟩
    obtain ⟨b, off, cs', h4, h5, h6⟩ := h3 j kid hj
    exact ⟨b, off, cs', h4, h5, CapAt.succ h cs' kid h6⟩
theorem CapAt.mono {a b : Nat} (h : a ≤ b) {cs : List Value} {c : Cnd} (hc : CapAt w a cs c) : CapAt w b cs c := by
  induction h with
  | refl => exact hc
  | step _ ih => exact CapAt.succ _ _ _ ih
theorem o_condK : ∀ (fuel : Nat) {cs : List Value} {x : DataW H × List MemPlace}, DataW.trod enc Tryd.prog w 0 spare held fuel 25 cs = some x → ∃ c : Cnd, CapAt w fuel cs c := by
  intro fuel
  induction fuel using Nat.strongRecOn with
  | ind fuel ih =>
    intro cs x h
    obtain ⟨hl, m, rfl, hf⟩ := o_struct Tryd.underlying25 h
    rw [cCond] at hl
    obtain ⟨a0, a1, a2, a3, a4, rfl⟩ := len5' hl
    have key : ∀ o, DataW.trod enc Tryd.prog w 0 spare held m 5 (([a0, a1, a2, a3, a4].drop o).take (Tryd.prog.cellsOf 5)) ≠ none → ∃ u : UInt8, ([a0, a1, a2, a3, a4].drop o).take 1 = [b8 u] := by
      intro o ho
      obtain ⟨y, hy⟩ := Option.ne_none_iff_exists'.1 ho
      rw [cU8] at hy
      exact o_u8 Tryd.underlying5 hy
    have nn : ∀ {z : Option (DataW H × List MemPlace)}, (∃ y, z = some y) → z ≠ none := fun ⟨y, hy⟩ => by rw [hy]; exact fun h => by cases h
    obtain ⟨u0, e0⟩ := key 0 (nn (hf 0 _ rfl))
    obtain ⟨u1, e1⟩ := key 1 (nn (hf 1 _ rfl))
    obtain ⟨u2, e2⟩ := key 2 (nn (hf 2 _ rfl))
    obtain ⟨u3, e3⟩ := key 3 (nn (hf 3 _ rfl))
    obtain ⟨y4, h4⟩ := hf 4 _ rfl
    replace h4 : DataW.trod enc Tryd.prog w 0 spare held m 23 (([a0, a1, a2, a3, a4].drop 4).take (Tryd.prog.cellsOf 23)) = _ := h4
    rw [cConds] at h4
    obtain ⟨A, len, cap, e4, hle, hc, hA, m2, rfl, hi⟩ := o_slice Tryd.underlying23 (by rw [cCond]; omega) h4
    rw [cCond] at hi
    simp only [List.drop, List.take, List.cons.injEq, and_true] at e0 e1 e2 e3 e4
    subst e0 e1 e2 e3 e4
    obtain ⟨T, hT⟩ := choose_lt (p := fun i (c : Cnd) => ∃ b off cs', A = some ⟨b, off, none⟩ ∧ w.rangeAt b (off + i * 5) cs' ∧ CapAt w (m2 + 1) cs' c) (fun i him => by
      obtain ⟨b, off, cs', y, h1, _, _, h2, h3⟩ := hi i him
      obtain ⟨c, hcc⟩ := ih m2 (by omega) h3
      exact ⟨c, b, off, cs', h1, h2, hcc.mono (by omega)⟩)
    refine ⟨.mk u0 u1 u2 u3 ((List.range len).map T), A, cap, by simp, by rw [List.length_map, List.length_range]; exact hle, by unfold maxLen at hc; omega, fun j kid hj => ?_⟩
    rw [List.getElem?_map] at hj
    obtain ⟨q, hq, rfl⟩ := Option.map_eq_some_iff.1 hj
    obtain ⟨hjl, rfl⟩ := List.getElem?_eq_some_iff.1 hq
    rw [List.length_range] at hjl
    rw [List.getElem_range]
    exact hT j hjl
end
section
variable {H : Type} {enc : TypeId × Value → H} {W : World} {v : Value} {d : DataW H} {p : List MemPlace}
theorem a_cond (hv : Value.okWide Tryd.prog W .any 0 25 v) (h : DataW.Trod enc Tryd.prog W 0 (fun _ => true) true 25 v d p) : ∃ cs c k, v = .agg cs.toArray ∧ CapAt W k cs c := by
  obtain ⟨cs, rfl, _⟩ := okWide_struct Tryd.underlying25 hv
  obtain ⟨fuel, hf⟩ := h
  obtain ⟨c, hc⟩ := o_condK fuel hf
  exact ⟨cs.toList, c, fuel, by simp, hc⟩
theorem a_str (hv : Value.okWide Tryd.prog W .any 0 9 v) (h : DataW.Trod enc Tryd.prog W 0 (fun _ => true) true 9 v d p) : ∃ s : ByteArray, v = .string s ∧ s.size ≤ maxLen := by
  obtain ⟨fuel, hf⟩ := h
  obtain ⟨s, h1, h2⟩ := o_str Tryd.underlying9 hf
  obtain ⟨a, rfl⟩ := okWide_string Tryd.underlying9 hv
  simp only [Value.cells, List.cons.injEq, Value.string.injEq, and_true] at h1
  exact ⟨s, by rw [h1], h2⟩
theorem a_strs (hv : Value.okWide Tryd.prog W .any 0 33 v) (h : DataW.Trod enc Tryd.prog W 0 (fun _ => true) true 33 v d p) : ∃ A C, ∃ l : List ByteArray, v = .slice A l.length C ∧ StrsAt W A l ∧ (∀ s ∈ l, s.size ≤ maxLen) ∧ l.length ≤ C ∧ C ≤ maxLen := by
  obtain ⟨a, len, cap, rfl⟩ := okWide_slice Tryd.underlying33 hv
  obtain ⟨fuel, hf⟩ := h
  obtain ⟨A, C, l, h1, h2, h3, h4, h5, _⟩ := o_strs hf
  exact ⟨A, C, l, by simpa [Value.cells] using h1, h2, h3, h4, h5⟩
end
end Go.Proofs.YtmfdpnjgljlkbaaDoor
