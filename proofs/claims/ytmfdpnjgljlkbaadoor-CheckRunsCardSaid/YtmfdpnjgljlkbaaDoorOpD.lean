/-
  Arguments opened, with their capacities and how wide a condition is, by the bulk of what is read. Conditions: none.
-/
import Derived.Test.YtmfdpnjgljlkbaaDoorOpC
set_option linter.unusedSimpArgs false
set_option linter.unusedVariables false
namespace Go.Proofs.YtmfdpnjgljlkbaaDoor
open Go.ChangeShapes Go.WideShapes Go.ChangeAt Go.RowKit Go.Deep
set_option maxRecDepth 100000

mutual
def wideC : Cnd → Nat
  | .mk _ _ _ _ l => max l.length (wideL l)
def wideL : List Cnd → Nat
  | [] => 0
  | c :: r => max (wideC c) (wideL r)
end
theorem wideL_le {n : Nat} : ∀ {l : List Cnd}, wideL l ≤ n ↔ ∀ c ∈ l, wideC c ≤ n
  | [] => by simp [wideL]
  | c :: l => by
    simp only [wideL, Nat.max_le, List.mem_cons, forall_eq_or_imp]
    rw [wideL_le (l := l)]
section
variable {H : Type} {enc : TypeId × Value → H} {P : Program} {w : World} {spare : Nat → Bool} {held : Bool} {fuel : Nat} {t : TypeId} {cs : List Value} {x : DataW H × List MemPlace}
theorem one_le {H : Type} (d : DataW H) : 1 ≤ Rows.uptoBulk d := by
  cases d with
  | lit l => cases l <;> simp [Rows.uptoBulk]
  | nil => simp [Rows.uptoBulk]
  | ptr d => simp [Rows.uptoBulk]
  | slice elems spare => simp [Rows.uptoBulk]
  | agg parts => simp [Rows.uptoBulk]
  | iface t d => simp [Rows.uptoBulk]
  | map entries => simp [Rows.uptoBulk]
  | held h => simp [Rows.uptoBulk]
theorem part_le {H : Type} {d : DataW H} {l : List (DataW H)} (h : d ∈ l) : Rows.uptoBulk d ≤ Rows.uptoBulkAll l := by
  induction l with
  | nil => cases h
  | cons x r ih =>
    simp only [Rows.uptoBulkAll]
    cases List.mem_cons.1 h with
    | inl e => subst e; omega
    | inr e => have := ih e; omega
section
variable {H : Type} {enc : TypeId × Value → H} {P : Program} {w : World} {spare : Nat → Bool} {held : Bool} {fuel : Nat} {t : TypeId} {cs : List Value} {x : DataW H × List MemPlace}
theorem all_len {H : Type} : ∀ l : List (DataW H), l.length ≤ Rows.uptoBulkAll l
  | [] => Nat.zero_le _
  | d :: r => by
    have h1 := all_len r
    have h2 := one_le d
    simp only [Rows.uptoBulkAll, List.length_cons]
    omega
theorem o_sliceS {e : TypeId} (ht : P.underlying t = some (.slice e)) (hpos : 0 < P.cellsOf e) (h : DataW.trod enc P w 0 spare held fuel t cs = some x) :
    ∃ A len cap, cs = [.slice A len cap] ∧ len ≤ cap ∧ cap ≤ maxLen ∧ (A = none → len = 0 ∧ cap = 0) ∧ len ≤ Rows.uptoBulk x.1 ∧
      ∃ m, fuel = m + 1 ∧ ∀ i, i < len → ∃ b off cs' y, A = some ⟨b, off, none⟩ ∧ b < w.heap.size ∧ cs'.length = P.cellsOf e ∧ w.rangeAt b (off + i * P.cellsOf e) cs' ∧ DataW.trod enc P w 0 spare held m e cs' = some y ∧ Rows.uptoBulk y.1 + 1 ≤ Rows.uptoBulk x.1 := by
  obtain ⟨A, len, cap, rfl, hl, hc, hA, m, hm, hi⟩ := o_slice ht hpos h
  refine ⟨A, len, cap, rfl, hl, hc, hA, ?_, m, hm, fun i hil => ?_⟩
  · rcases DataW.trod_slice ht h with ⟨h1, _⟩ | ⟨a, len', cap', elems, rest, n, hn, h1, hx, _, _, _, hlen, hel, _, _⟩
    · cases h1; exact Nat.zero_le _
    · cases h1
      rw [hx]
      have := all_len (elems.map (·.1))
      rw [List.length_map] at this
      simp only [Rows.uptoBulk]
      omega
  rcases DataW.trod_slice ht h with ⟨h1, _⟩ | ⟨a, len', cap', elems, rest, n, hn, h1, hx, _, _, _, hlen, hel, _, _⟩
  · cases h1; omega
  · cases h1
    obtain ⟨b, off, cs', y, e1, e2, e3, e4, e5⟩ := hi i hil
    have he := hel i hil
    rw [List.getElem?_eq_getElem (by omega)] at he
    obtain ⟨cs2, hc2, ht2⟩ := Option.bind_eq_some_iff.1 he
    obtain rfl : m = n := by omega
    have hcs : cs2 = cs' := by
      obtain ⟨_, hcl, hat⟩ := World.cells?_some hc2
      refine List.ext_getElem? fun k => ?_
      rcases Nat.lt_or_ge k (P.cellsOf e) with hk | hk
      · have h2 := hat k hk
        cases e1
        rw [Addr.add_mid, Addr.add_mid] at h2
        rw [← h2]
        rw [e4 k _ (List.getElem?_eq_getElem (by omega))]
        exact (List.getElem?_eq_getElem (by omega)).symm
      · rw [List.getElem?_eq_none (by omega), List.getElem?_eq_none (by omega)]
    subst hcs
    refine ⟨b, off, cs2, y, e1, e2, e3, e4, e5, ?_⟩
    rw [e5] at ht2
    have hy : y = elems[i]'(by omega) := Option.some.inj ht2
    rw [hx]
    have := part_le (List.mem_map.2 ⟨_, List.getElem_mem (by omega : i < elems.length), rfl⟩ : (elems[i]'(by omega)).1 ∈ elems.map (·.1))
    rw [hy]
    simp only [Rows.uptoBulk]
    omega
end
section
variable {H : Type} {enc : TypeId × Value → H} {w : World} {spare : Nat → Bool} {held : Bool} {fuel : Nat} {cs : List Value} {x : DataW H × List MemPlace}
theorem o_condS : ∀ (fuel : Nat) {cs : List Value} {x : DataW H × List MemPlace}, DataW.trod enc Tryd.prog w 0 spare held fuel 25 cs = some x → ∃ c : Cnd, CapAt w fuel cs c ∧ wideC c ≤ Rows.uptoBulk x.1 := by
  intro fuel
  induction fuel using Nat.strongRecOn with
  | ind fuel ih =>
    intro cs x h
    obtain ⟨xs, m, rfl, hx, hl, hxl, hf0⟩ := DataW.trod_struct Tryd.underlying25 h
    have hf : ∀ (i : Nat) (f : Field), (_ : Array Field)[i]? = some f → ∃ y, DataW.trod enc Tryd.prog w 0 spare held m f.type ((cs.drop f.offset).take (Tryd.prog.cellsOf f.type)) = some y := fun i f hi => ⟨_, (hf0 i f hi).trans (List.getElem?_eq_getElem (by rw [hxl]; exact (Array.getElem?_eq_some_iff.1 hi).1))⟩
    rw [cCond] at hl
    obtain ⟨a0, a1, a2, a3, a4, rfl⟩ := len5' hl
    have key : ∀ o, DataW.trod enc Tryd.prog w 0 spare held m 5 (([a0, a1, a2, a3, a4].drop o).take (Tryd.prog.cellsOf 5)) ≠ none → ∃ u : UInt8, ([a0, a1, a2, a3, a4].drop o).take 1 = [b8 u] := by
      intro o ho
      obtain ⟨y, hy⟩ := Option.ne_none_iff_exists'.1 ho
      rw [cU8] at hy
      exact o_u8 Tryd.underlying5 hy
    have nn : ∀ {z : Option (DataW H × List MemPlace)}, (∃ y, z = some y) → z ≠ none := fun ⟨y, hy⟩ => by rw [hy]; exact fun h => by cases h
    obtain ⟨u0, e0⟩ := key 0 (nn (hf 0 _ rfl))
    obtain ⟨u1, e1⟩ := key 1 (nn (hf 1 _ rfl))
    obtain ⟨u2, e2⟩ := key 2 (nn (hf 2 _ rfl))
    obtain ⟨u3, e3⟩ := key 3 (nn (hf 3 _ rfl))
    obtain ⟨y4, h4⟩ := hf 4 _ rfl
    have hy4 : xs[4]? = some y4 := (hf0 4 _ rfl).symm.trans h4
    replace h4 : DataW.trod enc Tryd.prog w 0 spare held m 23 (([a0, a1, a2, a3, a4].drop 4).take (Tryd.prog.cellsOf 23)) = _ := h4
    rw [cConds] at h4
    obtain ⟨A, len, cap, e4, hle, hc, hA, hlb, m2, rfl, hi⟩ := o_sliceS Tryd.underlying23 (by rw [cCond]; omega) h4
    rw [cCond] at hi
    simp only [List.drop, List.take, List.cons.injEq, and_true] at e0 e1 e2 e3 e4
    subst e0 e1 e2 e3 e4
    obtain ⟨T, hT⟩ := choose_lt (p := fun i (c : Cnd) => ∃ b off cs', A = some ⟨b, off, none⟩ ∧ w.rangeAt b (off + i * 5) cs' ∧ CapAt w (m2 + 1) cs' c ∧ wideC c + 1 ≤ Rows.uptoBulk y4.1) (fun i him => by
      obtain ⟨b, off, cs', y, h1, _, _, h2, h3, h6⟩ := hi i him
      obtain ⟨c, hcc, hcd⟩ := ih m2 (by omega) h3
      exact ⟨c, b, off, cs', h1, h2, hcc.mono (by omega), by omega⟩)
    refine ⟨.mk u0 u1 u2 u3 ((List.range len).map T), ⟨A, cap, by simp, by rw [List.length_map, List.length_range]; exact hle, by unfold maxLen at hc; omega, fun j kid hj => ?_⟩, ?_⟩
    · rw [List.getElem?_map] at hj
      obtain ⟨q, hq, rfl⟩ := Option.map_eq_some_iff.1 hj
      obtain ⟨hjl, rfl⟩ := List.getElem?_eq_some_iff.1 hq
      rw [List.length_range] at hjl
      rw [List.getElem_range]
      obtain ⟨b, off, cs', h1, h2, h3, _⟩ := hT j hjl
      exact ⟨b, off, cs', h1, h2, h3⟩
    · have h1 : wideL ((List.range len).map T) ≤ Rows.uptoBulk y4.1 - 1 := wideL_le.2 fun c hc => by
        obtain ⟨i, hi2, rfl⟩ := List.mem_map.1 hc
        obtain ⟨_, _, _, _, _, _, h⟩ := hT i (List.mem_range.1 hi2)
        omega
      have h2 := part_le (List.mem_map.2 ⟨_, List.mem_of_getElem? hy4, rfl⟩ : y4.1 ∈ xs.map (·.1))
      have h3 := one_le y4.1
      rw [wideC, hx, List.length_map, List.length_range]
      simp only [Rows.uptoBulk]
      omega
theorem o_progS (h : DataW.trod enc Tryd.prog w 0 spare held fuel 37 cs = some x) : ∃ p : Prg, ProgCap w cs p ∧ wideC p.cond ≤ Rows.uptoBulk x.1 := by
  obtain ⟨xs, m, _, hx, hl, hxl, hf0⟩ := DataW.trod_struct Tryd.underlying37 h
  have hf : ∀ (i : Nat) (f : Field), (_ : Array Field)[i]? = some f → ∃ y, DataW.trod enc Tryd.prog w 0 spare held m f.type ((cs.drop f.offset).take (Tryd.prog.cellsOf f.type)) = some y := fun i f hi => ⟨_, (hf0 i f hi).trans (List.getElem?_eq_getElem (by rw [hxl]; exact (Array.getElem?_eq_some_iff.1 hi).1))⟩
  rw [cProg] at hl
  obtain ⟨a0, a1, a2, a3, a4, a5, a6, a7, a8, a9, rfl⟩ := len10' hl
  obtain ⟨y0, h0⟩ := hf 0 _ rfl
  obtain ⟨y1, h1⟩ := hf 1 _ rfl
  obtain ⟨y2, h2⟩ := hf 2 _ rfl
  obtain ⟨y3, h3⟩ := hf 3 _ rfl
  obtain ⟨y4, h4⟩ := hf 4 _ rfl
  obtain ⟨y5, h5⟩ := hf 5 _ rfl
  have hy5 : xs[5]? = some y5 := (hf0 5 _ rfl).symm.trans h5
  replace h0 : DataW.trod enc Tryd.prog w 0 spare held m 9 (([a0, a1, a2, a3, a4, a5, a6, a7, a8, a9].drop 0).take (Tryd.prog.cellsOf 9)) = _ := h0
  replace h1 : DataW.trod enc Tryd.prog w 0 spare held m 33 (([a0, a1, a2, a3, a4, a5, a6, a7, a8, a9].drop 1).take (Tryd.prog.cellsOf 33)) = _ := h1
  replace h2 : DataW.trod enc Tryd.prog w 0 spare held m 34 (([a0, a1, a2, a3, a4, a5, a6, a7, a8, a9].drop 2).take (Tryd.prog.cellsOf 34)) = _ := h2
  replace h3 : DataW.trod enc Tryd.prog w 0 spare held m 35 (([a0, a1, a2, a3, a4, a5, a6, a7, a8, a9].drop 3).take (Tryd.prog.cellsOf 35)) = _ := h3
  replace h4 : DataW.trod enc Tryd.prog w 0 spare held m 5 (([a0, a1, a2, a3, a4, a5, a6, a7, a8, a9].drop 4).take (Tryd.prog.cellsOf 5)) = _ := h4
  replace h5 : DataW.trod enc Tryd.prog w 0 spare held m 25 (([a0, a1, a2, a3, a4, a5, a6, a7, a8, a9].drop 5).take (Tryd.prog.cellsOf 25)) = _ := h5
  rw [cStr] at h0
  rw [cStrs] at h1
  rw [cU8s] at h2
  rw [cInsess] at h3
  rw [cU8] at h4
  rw [cCond] at h5
  obtain ⟨s, e0, hs⟩ := o_str Tryd.underlying9 h0
  obtain ⟨LA, LC, locs, e1, l1, l2, l3, l4, _⟩ := o_strs h1
  obtain ⟨IA, IC, init, e2, i1, i2, i3, _⟩ := o_bytes h2
  obtain ⟨TA, TC, threads, e3, t1, t2, t3, _⟩ := o_threadsK h3
  obtain ⟨ask, e4⟩ := o_u8 Tryd.underlying5 h4
  obtain ⟨c, hc, hcd⟩ := o_condS m h5
  simp only [List.drop, List.take, List.cons.injEq, and_true] at e0 e1 e2 e3 e4 hc
  subst e0 e1 e2 e3 e4
  unfold maxLen at l4 i3 t3
  refine ⟨⟨s, locs, init, threads, ask, c⟩, ⟨LA, LC, IA, IC, TA, TC, m, [a5, a6, a7, a8, a9], ⟨rfl, hs, l1, by show locs.length ≤ _; omega, l3, l2, i1, by show init.length ≤ _; omega, t1.at, by show threads.length ≤ _; omega, hc.at⟩, hc, t1, i2, t2⟩, ?_⟩
  · show wideC c ≤ _
    rw [hx]
    have := part_le (List.mem_map.2 ⟨_, List.mem_of_getElem? hy5, rfl⟩ : y5.1 ∈ xs.map (·.1))
    simp only [Rows.uptoBulk]
    omega
end
end
instance : Inhabited UInt8 := ⟨0⟩
theorem by_cells {P : Program} {t : TypeId} {n : Nat} (hb : ByT P t n) {H : Type} {enc : TypeId × Value → H} {w : World} {spare : Nat → Bool} {held : Bool} {fuel : Nat} {cs : List Value} {x : DataW H × List MemPlace} (h : DataW.trod enc P w 0 spare held fuel t cs = some x) : ∃ s : By, cs = bs n s := by
  obtain ⟨hl, hi⟩ := hb.2 enc w spare held fuel cs x h
  obtain ⟨T, hT⟩ := choose_lt hi
  refine ⟨T, List.ext_getElem? fun i => ?_⟩
  rcases Nat.lt_or_ge i n with h1 | h1
  · rw [hT i h1, bs_get h1]
  · rw [List.getElem?_eq_none (by omega), bs_none h1]
theorem b8T : ByT Tryd.prog 5 1 := byT_u8 Tryd.underlying5 cU8
theorem bRegs : ByT Tryd.prog 52 8 := byT_array Tryd.underlying52 b8T (by omega) (by kernel_rfl)
section
variable {H : Type} {enc : TypeId × Value → H} {W : World} {v : Value} {d : DataW H} {p : List MemPlace}
theorem a_progS (hv : Value.okWide Tryd.prog W .any 0 37 v) (h : DataW.Trod enc Tryd.prog W 0 (fun _ => true) true 37 v d p) : ∃ cs q, v = .agg cs.toArray ∧ ProgCap W cs q ∧ wideC q.cond ≤ Rows.uptoBulk d := by
  obtain ⟨cs, rfl, _⟩ := okWide_struct Tryd.underlying37 hv
  obtain ⟨fuel, hf⟩ := h
  obtain ⟨q, hq, hb⟩ := o_progS hf
  exact ⟨cs.toList, q, by simp, hq, hb⟩
theorem a_regs (hv : Value.okWide Tryd.prog W .any 0 52 v) (h : DataW.Trod enc Tryd.prog W 0 (fun _ => true) true 52 v d p) : ∃ s : By, v = .agg (bs 8 s).toArray := by
  obtain ⟨cs, rfl⟩ := okWide_array' Tryd.underlying52 hv
  obtain ⟨fuel, hf⟩ := h
  obtain ⟨s, hs⟩ := by_cells bRegs hf
  exact ⟨s, by rw [← hs]; simp [Value.cells]⟩
end
end Go.Proofs.YtmfdpnjgljlkbaaDoor
