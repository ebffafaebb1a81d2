/-
  Arguments opened: a program, its threads within their capacities and the memory's bound. Conditions: none.
-/
import Derived.Test.YtjephfjnohgcbaaDoorOpT
set_option linter.unusedSimpArgs false
set_option linter.unusedVariables false
namespace Go.Proofs.YtjephfjnohgcbaaDoor
open Go.ChangeShapes Go.WideShapes Go.ChangeAt Go.RowKit Go.Deep
set_option maxRecDepth 100000

theorem wAll_mem {H : Type} {P : Program} {e : TypeId} {d : DataW H} {n : Nat} (hn : n ∈ d.weights P e) : ∀ {l : List (DataW H)}, d ∈ l → n ∈ DataW.weightsAll P e l
  | [], h => by cases h
  | x :: r, h => by
    rw [DataW.weightsAll]
    cases List.mem_cons.1 h with
    | inl e => subst e; exact List.mem_append_left _ hn
    | inr e => exact List.mem_append_right _ (wAll_mem hn e)
section
variable {H : Type} {enc : TypeId × Value → H} {P : Program} {w : World} {spare : Nat → Bool} {held : Bool} {fuel : Nat} {t : TypeId} {cs : List Value} {x : DataW H × List MemPlace}
theorem o_sliceW {e : TypeId} (ht : P.underlying t = some (.slice e)) (hpos : 0 < P.cellsOf e) (h : DataW.trod enc P w 0 spare held fuel t cs = some x) {B : Nat} (hW : ∀ n ∈ x.1.weights P t, n ≤ B) :
    ∃ A len cap, cs = [.slice A len cap] ∧ len ≤ cap ∧ cap ≤ maxLen ∧ (A = none → len = 0 ∧ cap = 0) ∧ len * P.bytesOf e ≤ B ∧
      ∃ m, fuel = m + 1 ∧ ∀ i, i < len → ∃ b off cs' y, A = some ⟨b, off, none⟩ ∧ b < w.heap.size ∧ cs'.length = P.cellsOf e ∧ w.rangeAt b (off + i * P.cellsOf e) cs' ∧ DataW.trod enc P w 0 spare held m e cs' = some y ∧ ∀ n ∈ y.1.weights P e, n ≤ B := by
  obtain ⟨A, len, cap, rfl, hl, hc, hA, m, hm, hi⟩ := o_slice ht hpos h
  refine ⟨A, len, cap, rfl, hl, hc, hA, ?_, m, hm, fun i hil => ?_⟩
  · rcases DataW.trod_slice ht h with ⟨h1, _⟩ | ⟨a, len', cap', elems, rest, n, hn, h1, hx, _, _, _, hlen, hel, _, _⟩
    · cases h1; omega
    · cases h1
      have hb := hW ((elems.length + rest.length) * P.bytesOf e) (by rw [hx]; simp [DataW.weights, ht])
      rw [← hlen]
      exact Nat.le_trans (Nat.mul_le_mul_right _ (Nat.le_add_right _ _)) hb
  rcases DataW.trod_slice ht h with ⟨h1, _⟩ | ⟨a, len', cap', elems, rest, n, hn, h1, hx, _, _, _, hlen, hel, _, _⟩
  · cases h1; omega
  · cases h1
    obtain ⟨b, off, cs', y, e1, e2, e3, e4, e5⟩ := hi i hil
    have he := hel i hil
    rw [List.getElem?_eq_getElem (by omega)] at he
    obtain ⟨cs2, hc2, ht2⟩ := Option.bind_eq_some_iff.1 he
    obtain rfl : m = n := by omega
    have hcs : cs2 = cs' := by
      obtain ⟨_, hcl, hat⟩ := World.cells?_some hc2
      refine List.ext_getElem? fun k => ?_
      rcases Nat.lt_or_ge k (P.cellsOf e) with hk | hk
      · have h2 := hat k hk
        cases e1
        rw [Addr.add_mid, Addr.add_mid] at h2
        rw [← h2]
        rw [e4 k _ (List.getElem?_eq_getElem (by omega))]
        exact (List.getElem?_eq_getElem (by omega)).symm
      · rw [List.getElem?_eq_none (by omega), List.getElem?_eq_none (by omega)]
    subst hcs
    refine ⟨b, off, cs2, y, e1, e2, e3, e4, e5, ?_⟩
    rw [e5] at ht2
    have hy : y = elems[i]'(by omega) := Option.some.inj ht2
    intro q hq
    refine hW q ?_
    rw [hx]
    simp only [DataW.weights, ht]
    refine List.mem_cons_of_mem _ (List.mem_append_left _ (wAll_mem hq ?_))
    rw [hy]
    exact List.mem_map.2 ⟨_, List.getElem_mem (by omega : i < elems.length), rfl⟩
end
theorem bIns : Tryd.prog.bytesOf 58 = 10 := by kernel_rfl
theorem bInses : Tryd.prog.bytesOf 59 = 24 := by kernel_rfl
/-- Slices that memory bears. -/
def SizedT (l : List (List Ins)) : Prop := l.length * 24 ≤ reachBytes ∧ ∀ t ∈ l, t.length * 10 ≤ reachBytes
section
variable {H : Type} {enc : TypeId × Value → H} {w : World} {spare : Nat → Bool} {held : Bool} {fuel : Nat} {cs : List Value} {x : DataW H × List MemPlace}
theorem o_threadsW (h : DataW.trod enc Tryd.prog w 0 spare held fuel 24 cs = some x) (hW : ∀ n ∈ x.1.weights Tryd.prog 24, n ≤ reachBytes) : ∃ A C, ∃ l : List (List Ins), cs = [.slice A l.length C] ∧ ThreadsCap w A l ∧ SizedT l ∧ l.length ≤ C ∧ C ≤ maxLen ∧ (A = none → C = 0) := by
  obtain ⟨A, len, cap, rfl, hl, hc, hA, hlw, m, _, hi⟩ := o_sliceW Tryd.underlying24 (by rw [cInses]; omega) h hW
  rw [cInses] at hi
  obtain ⟨T, hT⟩ := choose_lt (p := fun i (t : List Ins) => ∃ b off B C, A = some ⟨b, off, none⟩ ∧ w.cell? ⟨b, off + i * 1, none⟩ = some (.slice B t.length C) ∧ RowsAt w B 10 (t.map Ins.cells) ∧ (t.length ≤ C ∧ C ≤ 9223372036854775807) ∧ t.length * 10 ≤ reachBytes) (fun i him => by
    obtain ⟨b, off, cs', y, h1, _, _, h2, h3, h7⟩ := hi i him
    obtain ⟨B, C, l, rfl, h4, h5, h6, _⟩ := o_inses h3
    obtain ⟨A', len', cap', e', _, _, _, hw', _⟩ := o_sliceW Tryd.underlying59 (by rw [cIns]; omega) h3 h7
    cases e'
    rw [bIns] at hw'
    exact ⟨l, b, off, B, C, h1, by have := h2 0 _ rfl; rwa [Nat.add_zero] at this, h4, ⟨h5, by unfold maxLen at h6; omega⟩, hw'⟩)
  rw [bInses] at hlw
  refine ⟨A, cap, (List.range len).map T, by simp, fun j c hj => ?_, ⟨by simpa using hlw, fun t ht => ?_⟩, by simpa using hl, hc, fun h => (hA h).2⟩
  rotate_left
  · obtain ⟨i, hi, rfl⟩ := List.mem_map.1 ht
    obtain ⟨_, _, _, _, _, _, _, _, h8⟩ := hT i (List.mem_range.1 hi)
    exact h8
  rw [List.getElem?_map] at hj
  obtain ⟨q, hq, rfl⟩ := Option.map_eq_some_iff.1 hj
  obtain ⟨hjl, rfl⟩ := List.getElem?_eq_some_iff.1 hq
  rw [List.length_range] at hjl
  rw [List.getElem_range]
  obtain ⟨b, off, B, C, g1, g2, g3, g4, _⟩ := hT j hjl
  exact ⟨b, off, B, C, g1, g2, g3, g4.1, g4.2⟩
theorem o_progW (h : DataW.trod enc Tryd.prog w 0 spare held fuel 29 cs = some x) (hW : ∀ n ∈ x.1.weights Tryd.prog 29, n ≤ reachBytes) : ∃ p : Prg, ProgT w cs p ∧ SizedT p.threads := by
  obtain ⟨xs, m, _, hx, hl, hxl, hf0⟩ := DataW.trod_struct Tryd.underlying29 h
  have hf : ∀ (i : Nat) (f : Field), (_ : Array Field)[i]? = some f → ∃ y, DataW.trod enc Tryd.prog w 0 spare held m f.type ((cs.drop f.offset).take (Tryd.prog.cellsOf f.type)) = some y := fun i f hi => ⟨_, (hf0 i f hi).trans (List.getElem?_eq_getElem (by rw [hxl]; exact (Array.getElem?_eq_some_iff.1 hi).1))⟩
  rw [cProg] at hl
  obtain ⟨a0, a1, a2, a3, a4, a5, a6, a7, a8, a9, rfl⟩ := len10' hl
  obtain ⟨y0, h0⟩ := hf 0 _ rfl
  obtain ⟨y1, h1⟩ := hf 1 _ rfl
  obtain ⟨y2, h2⟩ := hf 2 _ rfl
  obtain ⟨y3, h3⟩ := hf 3 _ rfl
  have hy3 : xs[3]? = some y3 := (hf0 3 _ rfl).symm.trans h3
  have hW3 : ∀ n ∈ y3.1.weights Tryd.prog 24, n ≤ reachBytes := fun n hn => hW n (by
    rw [hx]
    simp only [DataW.weights, Tryd.underlying29]
    exact DataW.weights_mem_each (j := 3) (t := 24) (d := y3.1) rfl (by rw [List.getElem?_map, hy3]; rfl) n hn)
  obtain ⟨y4, h4⟩ := hf 4 _ rfl
  obtain ⟨y5, h5⟩ := hf 5 _ rfl
  replace h0 : DataW.trod enc Tryd.prog w 0 spare held m 9 (([a0, a1, a2, a3, a4, a5, a6, a7, a8, a9].drop 0).take (Tryd.prog.cellsOf 9)) = _ := h0
  replace h1 : DataW.trod enc Tryd.prog w 0 spare held m 22 (([a0, a1, a2, a3, a4, a5, a6, a7, a8, a9].drop 1).take (Tryd.prog.cellsOf 22)) = _ := h1
  replace h2 : DataW.trod enc Tryd.prog w 0 spare held m 23 (([a0, a1, a2, a3, a4, a5, a6, a7, a8, a9].drop 2).take (Tryd.prog.cellsOf 23)) = _ := h2
  replace h3 : DataW.trod enc Tryd.prog w 0 spare held m 24 (([a0, a1, a2, a3, a4, a5, a6, a7, a8, a9].drop 3).take (Tryd.prog.cellsOf 24)) = _ := h3
  replace h4 : DataW.trod enc Tryd.prog w 0 spare held m 5 (([a0, a1, a2, a3, a4, a5, a6, a7, a8, a9].drop 4).take (Tryd.prog.cellsOf 5)) = _ := h4
  replace h5 : DataW.trod enc Tryd.prog w 0 spare held m 27 (([a0, a1, a2, a3, a4, a5, a6, a7, a8, a9].drop 5).take (Tryd.prog.cellsOf 27)) = _ := h5
  rw [cStr] at h0
  rw [cStrs] at h1
  rw [cU8s] at h2
  rw [cInsess] at h3
  rw [cU8] at h4
  rw [cCond] at h5
  obtain ⟨s, e0, hs⟩ := o_str Tryd.underlying9 h0
  obtain ⟨LA, LC, locs, e1, l1, l2, l3, l4, _⟩ := o_strs h1
  obtain ⟨IA, IC, init, e2, i1, i2, i3, _⟩ := o_bytes h2
  obtain ⟨TA, TC, threads, e3, t1, t4, t2, t3, _⟩ := o_threadsW h3 hW3
  obtain ⟨ask, e4⟩ := o_u8 Tryd.underlying5 h4
  obtain ⟨c, hc⟩ := o_cond m h5
  simp only [List.drop, List.take, List.cons.injEq, and_true] at e0 e1 e2 e3 e4 hc
  subst e0 e1 e2 e3 e4
  unfold maxLen at l4 i3 t3
  exact ⟨⟨s, locs, init, threads, ask, c⟩, ⟨LA, LC, IA, IC, TA, TC, m, [a5, a6, a7, a8, a9], ⟨rfl, hs, l1, by show locs.length ≤ _; omega, l3, l2, i1, by show init.length ≤ _; omega, t1.at, by show threads.length ≤ _; omega, hc⟩, t1⟩, t4⟩
end
section
variable {H : Type} {enc : TypeId × Value → H} {W : World} {v : Value} {d : DataW H} {p : List MemPlace}
theorem a_progW (hv : Value.okWide Tryd.prog W .any 0 29 v) (h : DataW.Trod enc Tryd.prog W 0 (fun _ => true) true 29 v d p) (hW : ∀ n ∈ d.weights Tryd.prog 29, n ≤ reachBytes) : ∃ cs q, v = .agg cs.toArray ∧ ProgT W cs q ∧ SizedT q.threads := by
  obtain ⟨cs, rfl, _⟩ := okWide_struct Tryd.underlying29 hv
  obtain ⟨fuel, hf⟩ := h
  obtain ⟨q, hq⟩ := o_progW hf hW
  exact ⟨cs.toList, q, by simp, hq⟩
end
end Go.Proofs.YtjephfjnohgcbaaDoor
