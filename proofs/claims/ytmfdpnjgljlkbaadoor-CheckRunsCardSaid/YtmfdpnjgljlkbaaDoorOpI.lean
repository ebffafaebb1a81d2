/-
  Arguments opened, with their capacities and how wide a condition is, by what memory bears. Conditions: none.
-/
import Derived.Test.YtmfdpnjgljlkbaaDoorOpD
set_option linter.unusedSimpArgs false
set_option linter.unusedVariables false
namespace Go.Proofs.YtmfdpnjgljlkbaaDoor
open Go.ChangeShapes Go.WideShapes Go.ChangeAt Go.RowKit Go.Deep
set_option maxRecDepth 100000
theorem wAll_mem {H : Type} {P : Program} {e : TypeId} {d : DataW H} {n : Nat} (hn : n ∈ d.weights P e) : ∀ {l : List (DataW H)}, d ∈ l → n ∈ DataW.weightsAll P e l
  | [], h => by cases h
  | x :: r, h => by
    rw [DataW.weightsAll]
    cases List.mem_cons.1 h with
    | inl e => subst e; exact List.mem_append_left _ hn
    | inr e => exact List.mem_append_right _ (wAll_mem hn e)
section
variable {H : Type} {enc : TypeId × Value → H} {P : Program} {w : World} {spare : Nat → Bool} {held : Bool} {fuel : Nat} {t : TypeId} {cs : List Value} {x : DataW H × List MemPlace}
theorem o_sliceW {e : TypeId} (ht : P.underlying t = some (.slice e)) (hpos : 0 < P.cellsOf e) (h : DataW.trod enc P w 0 spare held fuel t cs = some x) {B : Nat} (hW : ∀ n ∈ x.1.weights P t, n ≤ B) :
    ∃ A len cap, cs = [.slice A len cap] ∧ len ≤ cap ∧ cap ≤ maxLen ∧ (A = none → len = 0 ∧ cap = 0) ∧ len * P.bytesOf e ≤ B ∧
      ∃ m, fuel = m + 1 ∧ ∀ i, i < len → ∃ b off cs' y, A = some ⟨b, off, none⟩ ∧ b < w.heap.size ∧ cs'.length = P.cellsOf e ∧ w.rangeAt b (off + i * P.cellsOf e) cs' ∧ DataW.trod enc P w 0 spare held m e cs' = some y ∧ ∀ n ∈ y.1.weights P e, n ≤ B := by
  obtain ⟨A, len, cap, rfl, hl, hc, hA, m, hm, hi⟩ := o_slice ht hpos h
  refine ⟨A, len, cap, rfl, hl, hc, hA, ?_, m, hm, fun i hil => ?_⟩
  · rcases DataW.trod_slice ht h with ⟨h1, _⟩ | ⟨a, len', cap', elems, rest, n, hn, h1, hx, _, _, _, hlen, hel, _, _⟩
    · cases h1; omega
    · cases h1
      have hb := hW ((elems.length + rest.length) * P.bytesOf e) (by rw [hx]; simp [DataW.weights, ht])
      rw [← hlen]
      exact Nat.le_trans (Nat.mul_le_mul_right _ (Nat.le_add_right _ _)) hb
  rcases DataW.trod_slice ht h with ⟨h1, _⟩ | ⟨a, len', cap', elems, rest, n, hn, h1, hx, _, _, _, hlen, hel, _, _⟩
  · cases h1; omega
  · cases h1
    obtain ⟨b, off, cs', y, e1, e2, e3, e4, e5⟩ := hi i hil
    have he := hel i hil
    rw [List.getElem?_eq_getElem (by omega)] at he
    obtain ⟨cs2, hc2, ht2⟩ := Option.bind_eq_some_iff.1 he
    obtain rfl : m = n := by omega
    have hcs : cs2 = cs' := by
      obtain ⟨_, hcl, hat⟩ := World.cells?_some hc2
      refine List.ext_getElem? fun k => ?_
      rcases Nat.lt_or_ge k (P.cellsOf e) with hk | hk
      · have h2 := hat k hk
        cases e1
        rw [Addr.add_mid, Addr.add_mid] at h2
        rw [← h2]
        rw [e4 k _ (List.getElem?_eq_getElem (by omega))]
        exact (List.getElem?_eq_getElem (by omega)).symm
      · rw [List.getElem?_eq_none (by omega), List.getElem?_eq_none (by omega)]
    subst hcs
    refine ⟨b, off, cs2, y, e1, e2, e3, e4, e5, ?_⟩
    rw [e5] at ht2
    have hy : y = elems[i]'(by omega) := Option.some.inj ht2
    intro q hq
    refine hW q ?_
    rw [hx]
    simp only [DataW.weights, ht]
    refine List.mem_cons_of_mem _ (List.mem_append_left _ (wAll_mem hq ?_))
    rw [hy]
    exact List.mem_map.2 ⟨_, List.getElem_mem (by omega : i < elems.length), rfl⟩
end
theorem bCond : Tryd.prog.bytesOf 25 = 32 := by kernel_rfl
section
variable {H : Type} {enc : TypeId × Value → H} {w : World} {spare : Nat → Bool} {held : Bool} {fuel : Nat} {cs : List Value} {x : DataW H × List MemPlace}
theorem o_condI : ∀ (fuel : Nat) {cs : List Value} {x : DataW H × List MemPlace}, DataW.trod enc Tryd.prog w 0 spare held fuel 25 cs = some x → (∀ n ∈ x.1.weights Tryd.prog 25, n ≤ reachBytes) → ∃ c : Cnd, CapAt w fuel cs c ∧ wideC c ≤ 4398046510976 := by
  intro fuel
  induction fuel using Nat.strongRecOn with
  | ind fuel ih =>
    intro cs x h hW
    obtain ⟨xs, m, rfl, hx, hl, hxl, hf0⟩ := DataW.trod_struct Tryd.underlying25 h
    have hf : ∀ (i : Nat) (f : Field), (_ : Array Field)[i]? = some f → ∃ y, DataW.trod enc Tryd.prog w 0 spare held m f.type ((cs.drop f.offset).take (Tryd.prog.cellsOf f.type)) = some y := fun i f hi => ⟨_, (hf0 i f hi).trans (List.getElem?_eq_getElem (by rw [hxl]; exact (Array.getElem?_eq_some_iff.1 hi).1))⟩
    rw [cCond] at hl
    obtain ⟨a0, a1, a2, a3, a4, rfl⟩ := len5' hl
    have key : ∀ o, DataW.trod enc Tryd.prog w 0 spare held m 5 (([a0, a1, a2, a3, a4].drop o).take (Tryd.prog.cellsOf 5)) ≠ none → ∃ u : UInt8, ([a0, a1, a2, a3, a4].drop o).take 1 = [b8 u] := by
      intro o ho
      obtain ⟨y, hy⟩ := Option.ne_none_iff_exists'.1 ho
      rw [cU8] at hy
      exact o_u8 Tryd.underlying5 hy
    have nn : ∀ {z : Option (DataW H × List MemPlace)}, (∃ y, z = some y) → z ≠ none := fun ⟨y, hy⟩ => by rw [hy]; exact fun h => by cases h
    obtain ⟨u0, e0⟩ := key 0 (nn (hf 0 _ rfl))
    obtain ⟨u1, e1⟩ := key 1 (nn (hf 1 _ rfl))
    obtain ⟨u2, e2⟩ := key 2 (nn (hf 2 _ rfl))
    obtain ⟨u3, e3⟩ := key 3 (nn (hf 3 _ rfl))
    obtain ⟨y4, h4⟩ := hf 4 _ rfl
    have hy4 : xs[4]? = some y4 := (hf0 4 _ rfl).symm.trans h4
    have hW4 : ∀ n ∈ y4.1.weights Tryd.prog 23, n ≤ reachBytes := fun n hn => hW n (by
      rw [hx]
      simp only [DataW.weights, Tryd.underlying25]
      exact DataW.weights_mem_each (j := 4) (t := 23) (d := y4.1) rfl (by rw [List.getElem?_map, hy4]; rfl) n hn)
    replace h4 : DataW.trod enc Tryd.prog w 0 spare held m 23 (([a0, a1, a2, a3, a4].drop 4).take (Tryd.prog.cellsOf 23)) = _ := h4
    rw [cConds] at h4
    obtain ⟨A, len, cap, e4, hle, hc, hA, hlb, m2, rfl, hi⟩ := o_sliceW Tryd.underlying23 (by rw [cCond]; omega) h4 hW4
    rw [bCond] at hlb
    unfold reachBytes at hlb
    rw [cCond] at hi
    simp only [List.drop, List.take, List.cons.injEq, and_true] at e0 e1 e2 e3 e4
    subst e0 e1 e2 e3 e4
    obtain ⟨T, hT⟩ := choose_lt (p := fun i (c : Cnd) => ∃ b off cs', A = some ⟨b, off, none⟩ ∧ w.rangeAt b (off + i * 5) cs' ∧ CapAt w (m2 + 1) cs' c ∧ wideC c ≤ 4398046510976) (fun i him => by
      obtain ⟨b, off, cs', y, h1, _, _, h2, h3, h6⟩ := hi i him
      obtain ⟨c, hcc, hcd⟩ := ih m2 (by omega) h3 h6
      exact ⟨c, b, off, cs', h1, h2, hcc.mono (by omega), by omega⟩)
    refine ⟨.mk u0 u1 u2 u3 ((List.range len).map T), ⟨A, cap, by simp, by rw [List.length_map, List.length_range]; exact hle, by unfold maxLen at hc; omega, fun j kid hj => ?_⟩, ?_⟩
    · rw [List.getElem?_map] at hj
      obtain ⟨q, hq, rfl⟩ := Option.map_eq_some_iff.1 hj
      obtain ⟨hjl, rfl⟩ := List.getElem?_eq_some_iff.1 hq
      rw [List.length_range] at hjl
      rw [List.getElem_range]
      obtain ⟨b, off, cs', h1, h2, h3, _⟩ := hT j hjl
      exact ⟨b, off, cs', h1, h2, h3⟩
    · have h1 : wideL ((List.range len).map T) ≤ 4398046510976 := wideL_le.2 fun c hc => by
        obtain ⟨i, hi2, rfl⟩ := List.mem_map.1 hc
        obtain ⟨_, _, _, _, _, _, h⟩ := hT i (List.mem_range.1 hi2)
        exact h
      rw [wideC, List.length_map, List.length_range]
      omega
theorem o_progI (h : DataW.trod enc Tryd.prog w 0 spare held fuel 37 cs = some x) (hW : ∀ n ∈ x.1.weights Tryd.prog 37, n ≤ reachBytes) : ∃ p : Prg, ProgCap w cs p ∧ wideC p.cond ≤ 4398046510976 := by
  obtain ⟨xs, m, _, hx, hl, hxl, hf0⟩ := DataW.trod_struct Tryd.underlying37 h
  have hf : ∀ (i : Nat) (f : Field), (_ : Array Field)[i]? = some f → ∃ y, DataW.trod enc Tryd.prog w 0 spare held m f.type ((cs.drop f.offset).take (Tryd.prog.cellsOf f.type)) = some y := fun i f hi => ⟨_, (hf0 i f hi).trans (List.getElem?_eq_getElem (by rw [hxl]; exact (Array.getElem?_eq_some_iff.1 hi).1))⟩
  rw [cProg] at hl
  obtain ⟨a0, a1, a2, a3, a4, a5, a6, a7, a8, a9, rfl⟩ := len10' hl
  obtain ⟨y0, h0⟩ := hf 0 _ rfl
  obtain ⟨y1, h1⟩ := hf 1 _ rfl
  obtain ⟨y2, h2⟩ := hf 2 _ rfl
  obtain ⟨y3, h3⟩ := hf 3 _ rfl
  obtain ⟨y4, h4⟩ := hf 4 _ rfl
  obtain ⟨y5, h5⟩ := hf 5 _ rfl
  have hy5 : xs[5]? = some y5 := (hf0 5 _ rfl).symm.trans h5
  have hW5 : ∀ n ∈ y5.1.weights Tryd.prog 25, n ≤ reachBytes := fun n hn => hW n (by
    rw [hx]
    simp only [DataW.weights, Tryd.underlying37]
    exact DataW.weights_mem_each (j := 5) (t := 25) (d := y5.1) rfl (by rw [List.getElem?_map, hy5]; rfl) n hn)
  replace h0 : DataW.trod enc Tryd.prog w 0 spare held m 9 (([a0, a1, a2, a3, a4, a5, a6, a7, a8, a9].drop 0).take (Tryd.prog.cellsOf 9)) = _ := h0
  replace h1 : DataW.trod enc Tryd.prog w 0 spare held m 33 (([a0, a1, a2, a3, a4, a5, a6, a7, a8, a9].drop 1).take (Tryd.prog.cellsOf 33)) = _ := h1
  replace h2 : DataW.trod enc Tryd.prog w 0 spare held m 34 (([a0, a1, a2, a3, a4, a5, a6, a7, a8, a9].drop 2).take (Tryd.prog.cellsOf 34)) = _ := h2
  replace h3 : DataW.trod enc Tryd.prog w 0 spare held m 35 (([a0, a1, a2, a3, a4, a5, a6, a7, a8, a9].drop 3).take (Tryd.prog.cellsOf 35)) = _ := h3
  replace h4 : DataW.trod enc Tryd.prog w 0 spare held m 5 (([a0, a1, a2, a3, a4, a5, a6, a7, a8, a9].drop 4).take (Tryd.prog.cellsOf 5)) = _ := h4
  replace h5 : DataW.trod enc Tryd.prog w 0 spare held m 25 (([a0, a1, a2, a3, a4, a5, a6, a7, a8, a9].drop 5).take (Tryd.prog.cellsOf 25)) = _ := h5
  rw [cStr] at h0
  rw [cStrs] at h1
  rw [cU8s] at h2
  rw [cInsess] at h3
  rw [cU8] at h4
  rw [cCond] at h5
  obtain ⟨s, e0, hs⟩ := o_str Tryd.underlying9 h0
  obtain ⟨LA, LC, locs, e1, l1, l2, l3, l4, _⟩ := o_strs h1
  obtain ⟨IA, IC, init, e2, i1, i2, i3, _⟩ := o_bytes h2
  obtain ⟨TA, TC, threads, e3, t1, t2, t3, _⟩ := o_threadsK h3
  obtain ⟨ask, e4⟩ := o_u8 Tryd.underlying5 h4
  obtain ⟨c, hc, hcd⟩ := o_condI m h5 hW5
  simp only [List.drop, List.take, List.cons.injEq, and_true] at e0 e1 e2 e3 e4 hc
  subst e0 e1 e2 e3 e4
  unfold maxLen at l4 i3 t3
  refine ⟨⟨s, locs, init, threads, ask, c⟩, ⟨LA, LC, IA, IC, TA, TC, m, [a5, a6, a7, a8, a9], ⟨rfl, hs, l1, by show locs.length ≤ _; omega, l3, l2, i1, by show init.length ≤ _; omega, t1.at, by show threads.length ≤ _; omega, hc.at⟩, hc, t1, i2, t2⟩, ?_⟩
  · exact hcd
end
section
variable {H : Type} {enc : TypeId × Value → H} {W : World} {v : Value} {d : DataW H} {p : List MemPlace}
theorem a_progI (hv : Value.okWide Tryd.prog W .any 0 37 v) (h : DataW.Trod enc Tryd.prog W 0 (fun _ => true) true 37 v d p) (hW : ∀ n ∈ d.weights Tryd.prog 37, n ≤ reachBytes) : ∃ cs q, v = .agg cs.toArray ∧ ProgCap W cs q ∧ wideC q.cond ≤ 4398046510976 := by
  obtain ⟨cs, rfl, _⟩ := okWide_struct Tryd.underlying37 hv
  obtain ⟨fuel, hf⟩ := h
  obtain ⟨q, hq, hb⟩ := o_progI hf hW
  exact ⟨cs.toList, q, by simp, hq, hb⟩
end
end Go.Proofs.YtmfdpnjgljlkbaaDoor
