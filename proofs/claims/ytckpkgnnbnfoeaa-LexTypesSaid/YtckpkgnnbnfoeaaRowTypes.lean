/-
  The law LexTypes: for every input it returns true, and its argument reads behind the call as before. Conditions: none.
-/
import Derived.Test.YtckpkgnnbnfoeaaLawTypes
import Derived.Test.YtckpkgnnbnfoeaaEnd
import Derived.Deep.Slices
import Derived.Deep.Fields
import Derived.ChangeSame
import Derived.SizedLaws
import Derived.WideKeyArgs
namespace Go.Proofs.Ytckpkgnnbnfoeaa
open Go.ChangeShapes Go.WideShapes Go.ChangeAt Go.RowKit Go.Deep

section
variable {H : Type} {enc : TypeId × Value → H} {P : Program} {w : World} {base : Nat} {spare : Nat → Bool} {held : Bool}
theorem open_slice_fields {t e : TypeId} {fs : Array Field} {fuel : Nat} {cs : List Value} {x : DataW H × List MemPlace} (ht : P.underlying t = some (.slice e)) (he : P.underlying e = some (.struct fs))
    (hone : oneCellFields P fs = true) (hC : P.cellsOf e = fs.size) (h : DataW.trod enc P w base spare held fuel t cs = some x) :
    (cs = [.slice none 0 0] ∧ x = (.nil, [])) ∨
    ∃ (a : Addr) (len cap m : Nat) (D : Nat → DataW H) (Pl : Nat → List MemPlace), cs = [.slice (some a) len cap] ∧ base ≤ a.block ∧ len ≤ cap ∧ cap ≤ maxLen ∧ m = (if spare a.block then cap else len) ∧
      x = (.slice ((List.range len).map D) ((List.range (m - len)).map fun j => D (len + j)), MemPlace.row a (m * fs.size) ++ (List.range m).flatMap Pl) ∧
      ∀ i, i < m → ∃ (ys : List (DataW H × List MemPlace)) (n : Nat), D i = .agg (ys.map (·.1)) ∧ Pl i = ys.flatMap (·.2) ∧ ys.length = fs.size ∧
        ∀ (j : Nat) (f : Field), fs[j]? = some f → ∃ (v : Value) (y : DataW H × List MemPlace), w.cell? (a.add (i * fs.size + j)) = some v ∧ ys[j]? = some y ∧ DataW.trod enc P w base spare held n f.type [v] = some y := by
  rcases open_slice ht h with h0 | ⟨a, len, cap, m, n, D, Pl, hcs, hb, hl, hm, hmm, hx, hi⟩
  · exact .inl h0
  · refine .inr ⟨a, len, cap, m, D, Pl, hcs, hb, hl, hm, hmm, by rw [hC] at hx; exact hx, fun i him => ?_⟩
    obtain ⟨cs', hc, ht'⟩ := hi i him
    rw [hC] at hc
    obtain ⟨ys, n', hn', hy, hlen, hyl, hf⟩ := DataW.trod_struct he ht'
    obtain ⟨_, hcl, hat⟩ := World.cells?_some hc
    simp only [Prod.mk.injEq] at hy
    refine ⟨ys, n', hy.1, hy.2, hyl, fun j f hj => ?_⟩
    obtain ⟨ho, hk⟩ := hone_of hone j f hj
    have hjl : j < fs.size := (Array.getElem?_eq_some_iff.1 hj).1
    have hcell := hat j hjl
    have hv : cs'[j]? = some (cs'[j]'(by omega)) := List.getElem?_eq_getElem (by omega)
    have h1 := hf j f hj
    rw [ho, hk] at h1
    have hone' : (cs'.drop j).take 1 = [cs'[j]'(by omega)] := by
      rw [List.drop_eq_getElem_cons (by omega)]
      rfl
    rw [hone'] at h1
    have hys : ys[j]? = some (ys[j]'(by omega)) := List.getElem?_eq_getElem (by omega)
    refine ⟨_, _, ?_, hys, h1.trans hys⟩
    rw [← Go.Deep.add_add, hcell, hv]
end

theorem weightsAll_mem {H : Type} {P : Program} {e : TypeId} {d : DataW H} {n : Nat} (hn : n ∈ d.weights P e) : ∀ {l : List (DataW H)}, d ∈ l → n ∈ DataW.weightsAll P e l
  | [], h => by cases h
  | x :: r, h => by
    rw [DataW.weightsAll]
    rcases List.mem_cons.1 h with rfl | h
    · exact List.mem_append_left _ hn
    · exact List.mem_append_right _ (weightsAll_mem hn h)
theorem laidOut' : laidOutB Try.prog = true := by kernel_rfl
theorem tok_fields : ∃ f0 f1 f2 : Field, Try.prog.underlying 27 = some (.struct #[f0, f1, f2]) ∧ oneCellFields Try.prog #[f0, f1, f2] = true ∧ Try.prog.cellsOf 27 = 3 ∧
    Try.prog.underlying f0.type = some (.int .u8) ∧ Try.prog.underlying f1.type = some .string ∧ Try.prog.underlying f2.type = some (.int .i64) :=
  ⟨_, _, _, Try.underlying27, by kernel_rfl, by kernel_rfl, by kernel_rfl, by kernel_rfl, by kernel_rfl⟩
instance : Inhabited AT := ⟨⟨0, ByteArray.empty, 0⟩⟩

/-- The argument, opened. -/
theorem open_tokens {H : Type} {enc : TypeId × Value → H} {W : World} {v : Value} {d : DataW H} {p : List MemPlace} (hv : Value.okWide Try.prog W .any 0 24 v)
    (h : DataW.Trod enc Try.prog W 0 (fun _ => true) true 24 v d p) (hw : ∀ n ∈ d.weights Try.prog 24, n ≤ reachBytes) :
    ∃ A n C ts, v = .slice A n C ∧ TokGen W A n ts ∧ KindsOk ts ∧ (∀ t ∈ ts, t.text.size ≤ 140737488355328) ∧ n ≤ maxLen ∧ (A = none → C = 0) := by
  obtain ⟨a, len, cap, rfl⟩ := okWide_slice Try.underlying24 hv
  obtain ⟨fuel, hf⟩ := h
  obtain ⟨f0, f1, f2, hs, hone, hC, u0, u1, u2⟩ := tok_fields
  rcases open_slice_fields Try.underlying24 hs hone hC hf with ⟨hc, _⟩ | ⟨b, len', cap', m, D, Pl, hc, _, hl, hm, hmm, hx, hi⟩
  · simp only [Value.cells, List.cons.injEq, Value.slice.injEq, and_true] at hc
    obtain ⟨rfl, rfl, rfl⟩ := hc
    exact ⟨none, 0, 0, [], rfl, ⟨rfl, fun j t ht => by simp at ht⟩, fun t ht => by simp at ht, fun t ht => by simp at ht, Nat.zero_le _, fun _ => rfl⟩
  · simp only [Value.cells, List.cons.injEq, Value.slice.injEq, and_true] at hc
    obtain ⟨rfl, rfl, rfl⟩ := hc
    have hd : d = .slice ((List.range len).map D) ((List.range (m - len)).map fun j => D (len + j)) := congrArg Prod.fst hx
    have each : ∀ i, i < len → ∃ t : AT, (W.cell? (b.add (i * 3)) = some (.int .u8 t.kind) ∧ W.cell? (b.add (i * 3 + 1)) = some (.string t.text) ∧ W.cell? (b.add (i * 3 + 2)) = some (.int .i64 t.pos)) ∧ (0 ≤ t.kind ∧ t.kind ≤ 255) ∧ t.text.size ≤ 140737488355328 := by
      intro i hlt
      have him : i < m := by rw [hmm]; simp; omega
      obtain ⟨ys, n', hD, _, hyl, hfs⟩ := hi i him
      obtain ⟨v0, y0, c0, _, t0⟩ := hfs 0 f0 rfl
      obtain ⟨v1, y1, c1, hy1, t1⟩ := hfs 1 f1 rfl
      obtain ⟨v2, y2, c2, _, t2⟩ := hfs 2 f2 rfl
      obtain ⟨n0, hv0, _, hwf⟩ := DataW.trod_int u0 t0
      obtain ⟨s, hv1, hys, hs1⟩ := DataW.trod_string u1 t1
      obtain ⟨n2, hv2, _, _⟩ := DataW.trod_int u2 t2
      simp only [List.cons.injEq, and_true] at hv0 hv1 hv2
      subst hv0 hv1 hv2
      have hwt : s.data.toList.length ≤ reachBytes := by
        refine hw _ ?_
        rw [hd]
        have h1 : s.data.toList.length ∈ (D i).weights Try.prog 27 := by
          rw [hD]
          simp only [DataW.weights, hs]
          refine DataW.weights_mem_each (j := 1) (t := f1.type) (d := y1.1) rfl (by rw [List.getElem?_map, hy1]; rfl) _ ?_
          rw [hys]; simp [DataW.weights]
        have h2 : D i ∈ (List.range len).map D := List.mem_map.2 ⟨i, List.mem_range.2 hlt, rfl⟩
        have h3 := weightsAll_mem h1 h2
        simp only [DataW.weights, Try.underlying24]
        exact List.mem_cons_of_mem _ (List.mem_append_left _ h3)
      refine ⟨⟨n0, s, n2⟩, ⟨by simpa using c0, by simpa using c1, by simpa using c2⟩, ?_, ?_⟩
      · simp only [Lit.wf, Bool.and_eq_true, decide_eq_true_eq] at hwf
        rw [show IntKind.u8.min = 0 from by decide, show IntKind.u8.max = 255 from by decide] at hwf
        exact hwf
      · have := Nat.le_trans (Nat.le_of_eq (data_length s).symm) hwt
        unfold reachBytes at this
        show s.size ≤ _
        omega
    obtain ⟨T, hT⟩ := choose_lt each
    have hlm : len ≤ maxLen := by omega
    refine ⟨some b, len, cap, (List.range len).map T, rfl, ⟨by simp, ?_⟩, ?_, ?_, hlm, fun h => by cases h⟩
    · intro j t ht
      rw [List.getElem?_map] at ht
      obtain ⟨j', hj', rfl⟩ := Option.map_eq_some_iff.1 ht
      obtain ⟨hjl, hje⟩ := List.getElem?_eq_some_iff.1 hj'
      rw [List.length_range] at hjl
      rw [List.getElem_range] at hje
      subst hje
      obtain ⟨bb, bo, bs⟩ := b
      have hbs : bs = none := by
        have h0 := (hT 0 (by omega)).1.1
        simpa [Addr.add] using World.cell?_spot h0
      subst hbs
      obtain ⟨⟨c0, c1, c2⟩, _⟩ := hT j hjl
      have hp : ∀ k, (⟨bb, bo, none⟩ : Addr).add k = ⟨bb, bo + k, none⟩ := fun k => by simp [Addr.add]
      rw [hp] at c0 c1 c2
      exact ⟨bb, bo, rfl, World.block_lt_of_cell? W _ c0, c0, c1, c2⟩
    · intro t ht
      obtain ⟨i, hi2, rfl⟩ := List.mem_map.1 ht
      exact (hT i (List.mem_range.1 hi2)).2.1
    · intro t ht
      obtain ⟨i, hi2, rfl⟩ := List.mem_map.1 ht
      exact (hT i (List.mem_range.1 hi2)).2.2

set_option maxRecDepth 100000 in
theorem lexTypes_lifted (os : Os) (started : os.Started) (H : Type) (enc : TypeId × Value → H) :
    ReturnsInHanded {} Try.checked os 5 .any (Rows.lexTypesSpec.pre6 enc Try.prog Try.f5 Rows.lexTypesRow.domain false) (Rows.lexTypesSpec.post enc Try.prog Try.f5 false true false false) := by
  refine returnsInHanded_of_change_sized (C := Try.checked) row_knob started (by kernel_rfl) Try.func5
    (ChangeSpec.witness6 (enc := enc) (C := Try.checked) false ⟨#[], #[.slice none 0 0], []⟩ 8 (by kernel_rfl) (by kernel_rfl) (by kernel_rfl) (by kernel_rfl)) ?_
  intro W base args ds gs before hval0 hW hcnd hsz0 _
  have hval : ∀ (j : Nat) t v, Try.f5.params[j]? = some t → args[j]? = some v → Value.okWide Try.prog W .any base t v := hval0
  have hsz : (DataW.weightsEach Try.prog (Try.f5.params.toList ++ Rows.lexTypesSpec.plain.varTypes Try.prog) (ds ++ gs)).all (· ≤ reachBytes) = true := hsz0
  have hW' := hW
  obtain ⟨p, q, hA0, hV, rfl, hfz, hnd⟩ := hW
  have hA : DataW.TrodAll enc Try.prog W 0 (fun _ => true) true Try.f5.params.toList args.toList ds p := hA0
  rw [Try.params5] at hA hval hsz
  obtain ⟨v0, vs0, d0, ds0, p0, q0, hargs0, rfl, rfl, h0, r0⟩ := trodAll_cons hA
  obtain ⟨rfl, rfl, rfl⟩ := trodAll_nil r0
  obtain rfl : args = #[v0] := by cases args; simp_all
  obtain ⟨rfl, rfl⟩ := trodVars_none hV
  have hw : ∀ n ∈ d0.weights Try.prog 24, n ≤ reachBytes := fun n hn => by
    have := List.all_eq_true.1 hsz _ (DataW.weights_mem_each (j := 0) (t := 24) (d := d0) rfl rfl n hn)
    simpa using this
  obtain ⟨A, n, C, ts, rfl, hg, hk, hs, hn, hnil⟩ := open_tokens (hval 0 24 v0 rfl rfl) h0 hw
  clear hA0 hval0 hsz0
  simp only [List.append_nil] at hW'
  refine (lexTypes_any A n C ts W hg hk hs hn hnil).mono fun e W' ⟨he, hb⟩ => ?_
  subst he
  have hlt : ∀ x ∈ p0, x.block < W.heap.size := by
    obtain ⟨fuel, hf⟩ := h0
    exact DataW.trod_lt _ _ _ _ hf
  exact ⟨_, rfl, post_of_below (pa := p0 ++ []) (pv := []) hW' (fun _ _ _ => (trodAll_cons_mk (shut_bool Try.underlying4 _) trodAll_mk0))
    (fun sp hsp => (trodAll_cons_mk (WideElems.Trod_stays (P := Try.prog) laidOut' (by kernel_rfl) (of_decide_eq_true (by kernel_rfl)) h0 (fun x hx => hb.same (hlt x hx)) (fun x hx => hsp x (by simpa using hx))) trodAll_mk0)) (fun _ _ => rfl) (by simp)
    hb (ok_one (by kernel_rfl) rfl (okWide_bool_mk Try.underlying4 _))⟩

theorem lexTypes_holds : Rows.LexTypesSaid :=
  OpenClaim.holds_of_wide 5 Try.f5 rfl rfl rfl rfl rfl rfl rfl ⟨rfl, rfl, rfl, rfl, rfl⟩ rfl rfl rfl rfl rfl (by kernel_rfl) Try.func5 (by kernel_rfl)
    (of_decide_eq_true (by kernel_rfl)) (by unfold Func.isWrapper; first | (rw [if_pos (by decide +kernel)]; kernel_rfl) | (rw [if_neg (by decide +kernel)]; exact ⟨rfl, rfl⟩))
    (fun os started H enc _ => lexTypes_lifted os started H enc)
end Go.Proofs.Ytckpkgnnbnfoeaa
