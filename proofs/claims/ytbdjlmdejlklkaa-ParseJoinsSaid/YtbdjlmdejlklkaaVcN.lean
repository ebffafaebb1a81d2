/-
  WALK2. Windows on blocks of the function's own: slices that are cut and appended to; stores into slices of the function's own. Conditions: none.
-/
import Derived.Test.YtbdjlmdejlklkaaVcL
import Derived.Test.YtbdjlmdejlklkaaVcZ
set_option linter.unusedSimpArgs false
set_option linter.unusedVariables false
namespace Go.Proofs.Ytbdjlmdejlklkaa
open Go.RowKit
section
variable {P : Program} {l : List Oper} {Q : Exit → Act → World → Prop} {N : Nat} {a : Act} {env : List (Nat × Value)} {rest : List Oper} {d : Tmp} {ty : TypeId} {pos : String} {af : Array Edge} {g : Option (Nat × Bool)}
  {w0 w : World} {row : Option Nat} {rs : List Res} {Kt : Act → World → Prop}
/-- A slice whose array lies in a block of the function's own, from some place on. -/
def winP (e : TypeId) (sz : Nat) (v : Value) (rows : List (List Value)) (w : World) : Prop :=
  (∀ r ∈ rows, r.length = sz) ∧ ((v = .slice none 0 0 ∧ rows = []) ∨ ∃ g off cap cur, v = .slice (some ⟨g, off, none⟩) rows.length cap ∧ w.heap[g]? = some (.cells cur e (0, 0)) ∧ rows.length ≤ cap ∧ cap ≤ maxLen ∧ off + cap * sz ≤ cur.size ∧ ∀ (j : Nat) (u : Value), rows.flatten[j]? = some u → cur[off + j]? = some u)
def Res.win (e : TypeId) (sz : Nat) (v : Value) (rows : List (List Value)) : Res where
  foot := fun b => v.ownBlock = some b
  pred := winP e sz v rows
  loc := fun w w' h hp => by
    refine ⟨hp.1, ?_⟩
    rcases hp.2 with h1 | ⟨g, off, cap, cur, h1, h2, h3⟩
    · exact .inl h1
    · exact .inr ⟨g, off, cap, cur, h1, (h g (by rw [h1]; rfl)).trans h2, h3⟩
theorem flat_len {sz : Nat} : ∀ (q : List (List Value)), (∀ r ∈ q, r.length = sz) → q.flatten.length = q.length * sz
  | [], _ => by simp
  | r0 :: rest, hq => by rw [List.flatten_cons, List.length_append, flat_len rest (fun r hm => hq r (by simp [hm])), hq r0 (by simp), List.length_cons, Nat.add_mul]; omega
theorem flat_at {sz : Nat} : ∀ (rows : List (List Value)), (∀ r ∈ rows, r.length = sz) → ∀ (j : Nat) (cs : List Value), rows[j]? = some cs → ∀ (k : Nat) (v : Value), cs[k]? = some v → rows.flatten[j * sz + k]? = some v
  | [], _, j, cs, hj, _, _, _ => by simp at hj
  | r0 :: rest, hr, j, cs, hj, k, v, hk => by
    have h0 : r0.length = sz := hr r0 (by simp)
    cases j with
    | zero =>
      simp at hj; subst hj
      have : k < r0.length := (List.getElem?_eq_some_iff.1 hk).1
      rw [List.flatten_cons, List.getElem?_append_left (by omega)]; simpa using hk
    | succ j =>
      rw [List.flatten_cons, List.getElem?_append_right (by rw [h0, Nat.add_mul]; omega), h0]
      have e1 : (j + 1) * sz + k - sz = j * sz + k := by rw [Nat.add_mul]; omega
      rw [e1]
      exact flat_at rest (fun r hm => hr r (by simp [hm])) j cs (by simpa using hj) k v hk
theorem flat_drop {sz : Nat} (rows : List (List Value)) (hr : ∀ r ∈ rows, r.length = sz) (i : Nat) (hi : i ≤ rows.length) : (rows.drop i).flatten = rows.flatten.drop (i * sz) := by
  have h1 : rows.flatten = (rows.take i).flatten ++ (rows.drop i).flatten := by rw [← List.flatten_append, List.take_append_drop]
  have h2 : (rows.take i).flatten.length = i * sz := by rw [flat_len _ (fun r hm => hr r (List.mem_of_mem_take hm)), List.length_take]; congr 1; omega
  rw [h1, ← h2, List.drop_left]
theorem flat_take {sz : Nat} (rows : List (List Value)) (hr : ∀ r ∈ rows, r.length = sz) (i : Nat) (hi : i ≤ rows.length) : (rows.take i).flatten = rows.flatten.take (i * sz) := by
  have h1 : rows.flatten = (rows.take i).flatten ++ (rows.drop i).flatten := by rw [← List.flatten_append, List.take_append_drop]
  have h2 : (rows.take i).flatten.length = i * sz := by rw [flat_len _ (fun r hm => hr r (List.mem_of_mem_take hm)), List.length_take]; congr 1; omega
  rw [h1, ← h2, List.take_left]
theorem winP.nil (e : TypeId) (sz : Nat) (w : World) : winP e sz (.slice none 0 0) [] w := ⟨by simp, .inl ⟨rfl, rfl⟩⟩
theorem Own.nilWin (H : Own w0 row w rs) (e : TypeId) (sz : Nat) : Own w0 row w (.win e sz (.slice Option.none 0 0) [] :: rs) :=
  H.add _ (Below.refl _ _) (winP.nil e sz w) (fun b hb => by simp [Res.win, Value.ownBlock] at hb)
theorem winP.len {e : TypeId} {sz n c : Nat} {A : Option Addr} {rows : List (List Value)} (h : winP e sz (.slice A n c) rows w) : n = rows.length ∧ n ≤ c ∧ c ≤ maxLen := by
  rcases h.2 with ⟨h1, h2⟩ | ⟨g, off, cap, cur, h1, _, h3, h4, _⟩
  · cases h1; subst h2; exact ⟨rfl, Nat.le_refl _, Nat.zero_le _⟩
  · cases h1; exact ⟨rfl, h3, h4⟩
theorem winP.at {e : TypeId} {sz n c : Nat} {A : Option Addr} {rows : List (List Value)} (h : winP e sz (.slice A n c) rows w) : RowsAt w A sz rows := fun j cs hj => by
  rcases h.2 with ⟨h1, h2⟩ | ⟨g, off, cap, cur, h1, h2, _, _, _, h6⟩
  · subst h2; simp at hj
  · cases h1
    refine ⟨g, off, rfl, fun k v hk => ?_⟩
    have h7 := h6 _ v (flat_at rows h.1 j cs hj k v hk)
    simp [World.cell?, h2, Nat.add_assoc, h7]
theorem winP.cells {e : TypeId} {sz n c : Nat} {A : Addr} {rows : List (List Value)} (h : winP e sz (.slice (some A) n c) rows w) : ∀ j u, rows.flatten[j]? = some u → w.cell? (A.add j) = some u := fun j u hj => by
  rcases h.2 with ⟨h1, _⟩ | ⟨g, off, cap, cur, h1, h2, _, _, _, h6⟩
  · cases h1
  · cases h1
    have h7 := h6 _ u hj
    rw [Addr.add_mid]
    simp [World.cell?, h2, h7]
/-- x[i:] -/
theorem winP.from {e : TypeId} {sz n c i : Nat} {A : Option Addr} {rows : List (List Value)} (h : winP e sz (.slice A n c) rows w) (hi : i ≤ n) : winP e sz (.slice (if c = i then A else A.map (·.add (i * sz))) (n - i) (c - i)) (rows.drop i) w := by
  obtain ⟨hn, hc, hm⟩ := h.len
  refine ⟨fun r hr => h.1 r (List.mem_of_mem_drop hr), ?_⟩
  rcases h.2 with ⟨h1, h2⟩ | ⟨g, off, cap, cur, h1, h2, h3, h4, h5, h6⟩
  · cases h1; subst h2
    obtain rfl : i = 0 := by omega
    exact .inl ⟨by simp, by simp⟩
  · cases h1
    by_cases hci : c = i
    · have : rows.drop i = [] := List.drop_eq_nil_of_le (by omega)
      refine .inr ⟨g, off, 0, cur, ?_, h2, by rw [this]; simp, Nat.zero_le _, by omega, fun j u hj => by rw [this] at hj; simp at hj⟩
      rw [if_pos hci, this]
      simp only [List.length_nil]
      congr 1 <;> omega
    · refine .inr ⟨g, off + i * sz, c - i, cur, ?_, h2, by rw [List.length_drop]; omega, by omega, ?_, fun j u hj => ?_⟩
      · rw [if_neg hci, List.length_drop]
        simp [Addr.add_mid]
      · have : i * sz + (c - i) * sz = c * sz := by rw [← Nat.add_mul]; congr 1; omega
        omega
      · rw [flat_drop rows h.1 i (by omega), List.getElem?_drop] at hj
        rw [Nat.add_assoc]; exact h6 _ u hj
/-- x[:i:j] -/
theorem winP.upto {e : TypeId} {sz n c i j : Nat} {A : Option Addr} {rows : List (List Value)} (h : winP e sz (.slice A n c) rows w) (hi : i ≤ n) (hij : i ≤ j) (hj : j ≤ c) : winP e sz (.slice A i j) (rows.take i) w := by
  obtain ⟨hn, hc, hm⟩ := h.len
  refine ⟨fun r hr => h.1 r (List.mem_of_mem_take hr), ?_⟩
  rcases h.2 with ⟨h1, h2⟩ | ⟨g, off, cap, cur, h1, h2, h3, h4, h5, h6⟩
  · cases h1; subst h2
    obtain rfl : i = 0 := by omega
    obtain rfl : j = 0 := by omega
    exact .inl ⟨rfl, by simp⟩
  · cases h1
    refine .inr ⟨g, off, j, cur, by rw [List.length_take, Nat.min_eq_left (by omega)], h2, by rw [List.length_take]; omega, by omega, ?_, fun k u hk => ?_⟩
    · have := Nat.mul_le_mul_right sz hj
      omega
    · rw [flat_take rows h.1 i (by omega), List.getElem?_take] at hk
      split at hk
      · exact h6 _ u hk
      · cases hk
theorem Own.winAt (H : Own w0 row w rs) (i : Nat) {e : TypeId} {sz : Nat} {v : Value} {rows : List (List Value)} (hi : rs[i]? = some (.win e sz v rows)) : winP e sz v rows w := H.pred i _ hi
/-- A part is seen otherwise, within its blocks. -/
theorem Own.reseen (H : Own w0 row w rs) (i : Nat) {r : Res} (hi : rs[i]? = some r) (r' : Res) (hp : r'.pred w) (hf : ∀ b, r'.foot b → r.foot b) : Own w0 row w (rs.set i r') :=
  H.turn i hi r' H.grown (Nat.le_refl _) (fun _ _ _ => rfl) hp (fun b hb => ⟨.inl (hf b hb), (H.foot i r hi b (hf b hb)).2⟩)
theorem run_append_win {t e : TypeId} {ti : TypeInfo} {z : Value} {sz bytes : Nat} (ht : P.underlying t = some (.slice e)) (hi : P.info? e = some ti) (hz : ti.zero = some z) (hsize : ti.size = sz) (hby : ti.bytes = bytes) (hzs : z.cells.size = sz) (hsz : 0 < sz) (hb1 : 0 < bytes)
    {v : Value} {rows news : List (List Value)} {ad : Addr} {m c : Nat} (hw : winP e sz v rows w) (hm : news.length = m) (hnews : ∀ j u, news.flatten[j]? = some u → w.cell? (ad.add j) = some u) (hl : ∀ r ∈ news, r.length = sz) (h1 : ∀ u ∈ news.flatten, u.oneCell' = true) (hb : (rows.length + m) * bytes ≤ 140737488355328) (ty : TypeId) :
    ∃ A c' w', (Builtin.append_ #[t, t] ty #[v, .slice (some ad) m c]).run P w = .ok (.slice A (rows ++ news).length c') w' ∧ winP e sz (.slice A (rows ++ news).length c') (rows ++ news) w' ∧ w.grownBy w' v.ownBlock ∧
      ((Value.slice A (rows ++ news).length c').ownBlock = v.ownBlock ∨ ((Value.slice A (rows ++ news).length c').ownBlock = some w.heap.size ∧ w.heap.size < w'.heap.size)) := by
  subst hsize
  subst hby
  have hlen : rows.length + m ≤ 140737488355328 := Nat.le_trans (Nat.le_mul_of_pos_right _ hb1) hb
  have hfr := flat_len rows hw.1
  have hfn := flat_len news hl
  rw [hm] at hfn
  have hall : ∀ r ∈ rows ++ news, r.length = ti.size := fun r hr => by
    rcases List.mem_append.1 hr with h | h
    · exact hw.1 r h
    · exact hl r h
  have e1 : (rows ++ news).length = rows.length + m := by rw [List.length_append, hm]
  have hfa := flat_len (rows ++ news) hall
  rw [e1] at hfa
  have grown : ∀ (old : Nat), old < rows.length + m → ∀ (rw' : Option Nat),
      winP e ti.size (.slice (some ⟨w.heap.size, 0, none⟩) (rows ++ news).length (grownCap w (rows.length + m) old e)) (rows ++ news) (w.drew.alloc (.cells (rows.flatten.toArray ++ news.flatten.toArray ++ Builtin.zeroCells z.cells (grownCap w (rows.length + m) old e - (rows.length + m))) e)) ∧
      w.grownBy (w.drew.alloc (.cells (rows.flatten.toArray ++ news.flatten.toArray ++ Builtin.zeroCells z.cells (grownCap w (rows.length + m) old e - (rows.length + m))) e)) rw' := by
    intro old ho rw'
    have hge := grownCap_ge w (rows.length + m) old e
    have hcm : grownCap w (rows.length + m) old e ≤ maxLen := grownCap_le_maxLen w (rows.length + m) old e (by simp only [maxLen]; omega)
    refine ⟨⟨hall, .inr ⟨w.heap.size, 0, _, _, rfl, heap_alloc_new w.drew _, by omega, hcm, ?_, fun j u hj => ?_⟩⟩, ⟨rfl, rfl, rfl, by simp, fun k hk _ => heap_alloc_old w.drew _ hk⟩⟩
    · have hmul : (rows.length + m) * ti.size + (grownCap w (rows.length + m) old e - (rows.length + m)) * ti.size = grownCap w (rows.length + m) old e * ti.size := by rw [← Nat.add_mul]; congr 1; omega
      rw [List.flatten_append, List.length_append] at hfa
      simp only [Array.size_append, List.size_toArray, size_zeroCells, hzs]
      omega
    · have hjl := (List.getElem?_eq_some_iff.1 hj).1
      rw [List.flatten_append] at hj hjl
      rw [Nat.zero_add, Array.getElem?_append_left (by simpa using hjl)]
      have e2 : rows.flatten.toArray ++ news.flatten.toArray = (rows.flatten ++ news.flatten).toArray := by simp
      rw [e2]
      simpa using hj
  rcases hw.2 with ⟨rfl, rfl⟩ | ⟨g, off, cap, cur, rfl, hg, hnc, hcm, hfit, hat⟩
  · by_cases hm0 : m = 0
    · have hn : news = [] := List.eq_nil_of_length_eq_zero (by omega)
      subst hn
      subst hm0
      refine ⟨none, 0, w, ?_, winP.nil e ti.size w, ⟨rfl, rfl, rfl, Nat.le_refl _, fun _ _ _ => rfl⟩, .inl rfl⟩
      simp [Builtin.append_, run_underlying ht, sizeOf, typeInfo, hi, Builtin.lenOf, Builtin.firstCells, loadCells, loadCellsFrom]
    · have hr := run_append_nil (P := P) w t ty e ti z ht hi hz ad m c news.flatten hfn hnews (by omega) (by simp only [List.length_nil] at hlen; omega) (by simp only [List.length_nil, Nat.zero_add] at hb; omega)
      have hgr := grown 0 (by omega) (Value.ownBlock (.slice none 0 0))
      have e0 : ([] ++ news : List (List Value)).length = m := hm
      simp only [List.length_nil, Nat.zero_add, List.flatten_nil, e0, Array.empty_append] at hgr ⊢
      refine ⟨_, _, _, hr, ?_, hgr.2, .inr ⟨rfl, by simp⟩⟩
      simpa using hgr.1
  · by_cases hroom : rows.length + m ≤ cap
    · have hmul : rows.length * ti.size + m * ti.size ≤ cap * ti.size := by rw [← Nat.add_mul]; exact Nat.mul_le_mul_right _ hroom
      have hf := run_firstCells_some (P := P) w ti.size m ad m c news.flatten hfn hnews
      have hst := run_storeCells_at P g (off + rows.length * ti.size) e news.flatten 0 cur w hg (by omega) h1
      simp only [Nat.add_zero] at hst
      refine ⟨some ⟨g, off, none⟩, cap, w.setRow g (cur.toList.take (off + rows.length * ti.size) ++ news.flatten ++ cur.toList.drop (off + rows.length * ti.size + news.flatten.length)).toArray, ?_, ⟨hall, .inr ⟨g, off, cap, _, rfl, setRow_heap w g cur _ e _ hg, by omega, hcm, ?_, fun j u hj => ?_⟩⟩, ⟨rfl, rfl, rfl, by simp, fun k _ hk => setRow_other w g k _ (fun e => hk (by simp [Value.ownBlock, e]))⟩, .inl rfl⟩
      · rw [e1]
        simp [Builtin.append_, run_underlying ht, sizeOf, typeInfo, hi, Builtin.lenOf, hroom, hf, Addr.add_mid, hst]
      · simp only [List.size_toArray, List.length_append, List.length_take, List.length_drop, Array.length_toList]
        omega
      · have hjl := (List.getElem?_eq_some_iff.1 hj).1
        rw [hfa] at hjl
        rw [List.flatten_append] at hj
        rw [List.getElem?_toArray]
        by_cases hjr : j < rows.flatten.length
        · rw [List.getElem?_append_left hjr] at hj
          have := hat j u hj
          rw [List.append_assoc, List.getElem?_append_left (by rw [List.length_take, Array.length_toList (xs := cur)]; omega), List.getElem?_take_of_lt (by omega)]
          simpa using this
        · rw [List.getElem?_append_right (by omega)] at hj
          have hkl := (List.getElem?_eq_some_iff.1 hj).1
          have htl : (cur.toList.take (off + rows.length * ti.size)).length = off + rows.length * ti.size := by rw [List.length_take, Array.length_toList (xs := cur)]; omega
          rw [List.append_assoc, List.getElem?_append_right (by omega), htl, List.getElem?_append_left (by omega), show off + j - (off + rows.length * ti.size) = j - rows.flatten.length by omega]
          exact hj
    · have holds : ∀ j u, rows.flatten[j]? = some u → w.cell? ((⟨g, off, none⟩ : Addr).add j) = some u := hw.cells
      have hr := run_append_grow (P := P) w t ty e ti z ht hi hz ⟨g, off, none⟩ rows.length cap rows.flatten hfr holds ad m c news.flatten hfn hnews (by omega) (by omega) (growslice_fits (by omega) hb)
      have hgr := grown cap (by omega) (Value.ownBlock (.slice (some ⟨g, off, none⟩) rows.length cap))
      refine ⟨_, _, _, ?_, hgr.1, hgr.2, .inr ⟨rfl, by simp⟩⟩
      rw [hr, e1]
theorem win_run {t e : TypeId} {v : Value} {rows news : List (List Value)} {ad : Addr} {m c : Nat} {ti : TypeInfo} {z : Value} {sz bytes : Nat} (H : Own w0 row w rs) (i : Nat) (ht : P.underlying t = some (.slice e))
    (hi : ∀ w, (typeInfo e).run P w = .ok ti w) (hz : ti.zero = some z) (hsize : ti.size = sz) (hby : ti.bytes = bytes) (hzs : z.cells.size = sz) (hsz : Nat.blt 0 sz = true) (hb1 : Nat.blt 0 bytes = true)
    (hr : rs[i]? = some (.win e sz v rows)) (hm : news.length = m) (hnews : ∀ j u, news.flatten[j]? = some u → w.cell? (ad.add j) = some u) (hl : ∀ r ∈ news, r.length = sz) (h1 : ∀ r ∈ news, r.all (·.oneCell') = true) (hb : (rows.length + m) * bytes ≤ 140737488355328) (ty : TypeId) :
    ∃ A c' w', (Builtin.append_ #[t, t] ty #[v, .slice (some ad) m c]).run P w = .ok (.slice A (rows ++ news).length c') w' ∧ Own w0 row w' (rs.set i (.win e sz (.slice A (rows ++ news).length c') (rows ++ news))) := by
  obtain ⟨A, c', w', h2, h3, hgr, hat⟩ := run_append_win (P := P) (w := w) (c := c) ht (info_of hi) hz hsize hby hzs (Nat.blt_eq.mp hsz) (Nat.blt_eq.mp hb1) (H.winAt i hr) hm hnews hl (fun u hu => by
    obtain ⟨r, hr1, hr2⟩ := List.mem_flatten.1 hu
    exact (List.all_eq_true.1 (h1 r hr1)) u hr2) hb ty
  refine ⟨A, c', w', h2, H.turn i hr _ ?_ hgr.size (fun b hb hnb => hgr.block b hb (fun e => hnb (show v.ownBlock = some b from e.symm))) h3 ?_⟩
  · refine ⟨hgr.os.trans H.grown.os, hgr.tape.trans H.grown.tape, hgr.output.trans H.grown.output, Nat.le_trans H.grown.size hgr.size, fun k hk hne => ?_⟩
    refine (hgr.block k (Nat.lt_of_lt_of_le hk H.grown.size) (fun e => ?_)).trans (H.grown.block k hk hne)
    rcases (H.foot i _ hr k (show v.ownBlock = some k from e.symm)).1 with h | h
    · exact absurd hk (by omega)
    · exact hne h
  · intro b hb
    have hb : (Value.slice A (rows ++ news).length c').ownBlock = some b := hb
    rcases hat with h | ⟨h, hlt⟩
    · rw [h] at hb
      exact ⟨.inl hb, Nat.lt_of_lt_of_le (H.foot i _ hr b hb).2 hgr.size⟩
    · rw [hb] at h
      cases h
      exact ⟨.inr (Nat.le_refl _), hlt⟩
theorem sWin {t e : TypeId} {s x : Operand} {v : Value} {rows news : List (List Value)} {ad : Addr} {m c : Nat} {ti : TypeInfo} {z : Value} {sz bytes : Nat} (H : Own w0 row w rs) (i : Nat) (ht : P.underlying t = some (.slice e))
    (hi : ∀ w, (typeInfo e).run P w = .ok ti w) (hz : ti.zero = some z) (hsize : ti.size = sz) (hby : ti.bytes = bytes) (hzs : z.cells.size = sz) (hsz : Nat.blt 0 sz = true) (hb1 : Nat.blt 0 bytes = true)
    (F : Has N a env) (hg : wants l env g = true) (hN : Nat.blt d N = true) (hs : ev env s = some v) (hx : ev env x = some (.slice (some ad) m c))
    (hr : rs[i]? = some (.win e sz v rows)) (hm : news.length = m) (hnews : ∀ j u, news.flatten[j]? = some u → w.cell? (ad.add j) = some u) (hl : ∀ r ∈ news, r.length = sz) (h1 : ∀ r ∈ news, r.all (·.oneCell') = true) (hb : (rows.length + m) * bytes ≤ 140737488355328)
    (K : ∀ A c a w, Has N a ((d, .slice A (rows ++ news).length c) :: env) → Own w0 row w (rs.set i (.win e sz (.slice A (rows ++ news).length c) (rows ++ news))) → wpList P l.toArray Q rest a w) :
    wpList P l.toArray Q (⟨some d, .call ⟨.builtin .append, #[s, x], #[t, t]⟩, ty, pos, af, g⟩ :: rest) a w := by
  obtain ⟨A, c', w', h2, h3⟩ := win_run (P := P) (c := c) H i ht hi hz hsize hby hzs hsz hb1 hr hm hnews hl h1 hb ty
  exact stepV F hg rfl hN (app_exec (ty' := ty) F hs hx h2) (fun a F' => K A c' a w' F' h3)
theorem oWin {t e : TypeId} {s x : Operand} {v : Value} {rows news : List (List Value)} {ad : Addr} {m c : Nat} {ti : TypeInfo} {z : Value} {sz bytes : Nat} (H : Own w0 row w rs) (i : Nat) (ht : P.underlying t = some (.slice e))
    (hi : ∀ w, (typeInfo e).run P w = .ok ti w) (hz : ti.zero = some z) (hsize : ti.size = sz) (hby : ti.bytes = bytes) (hzs : z.cells.size = sz) (hsz : Nat.blt 0 sz = true) (hb1 : Nat.blt 0 bytes = true)
    (F : Has N a env) (hN : Nat.blt d N = true) (hs : ev env s = some v) (hx : ev env x = some (.slice (some ad) m c))
    (hr : rs[i]? = some (.win e sz v rows)) (hm : news.length = m) (hnews : ∀ j u, news.flatten[j]? = some u → w.cell? (ad.add j) = some u) (hl : ∀ r ∈ news, r.length = sz) (h1 : ∀ r ∈ news, r.all (·.oneCell') = true) (hb : (rows.length + m) * bytes ≤ 140737488355328)
    (K : ∀ A c a w, Has N a ((d, .slice A (rows ++ news).length c) :: env) → Own w0 row w (rs.set i (.win e sz (.slice A (rows ++ news).length c) (rows ++ news))) → Kt a w) :
    (Oper.mk (some d) (.call ⟨.builtin .append, #[s, x], #[t, t]⟩) ty pos af g).wp P a w Kt Q := by
  obtain ⟨A, c', w', h2, h3⟩ := win_run (P := P) (c := c) H i ht hi hz hsize hby hzs hsz hb1 hr hm hnews hl h1 hb ty
  exact oV F rfl hN (app_exec (ty' := ty) F hs hx h2) (fun a F' => K A c' a w' F' h3)
/-- x[i:], i up to the capacity. -/
theorem rSlF {t e : TypeId} {x lo : Operand} {A : Option Addr} {n c i sz : Nat} {k' : IntKind} (ht : P.underlying t = some (.slice e)) (hz : ∀ w, (sizeOf e).run P w = .ok sz w) (F : Has N a env) (hx : ev env x = some (.slice A n c)) (hl : ev env lo = some (.int k' (i : Int))) (hi : i ≤ n) :
    (execOp a.eval ⟨some d, .slice t x (some lo) none none, ty, pos, af, g⟩).run P w = .ok (.value (.slice (if c = i then A else A.map (·.add (i * sz))) (n - i) (c - i))) w := by
  have he : P.elem t = e := by simp [Program.elem, ht]
  have h1 := run_slice_l (P := P) w t A n c (elem_of ht) k' (i : Int) (by omega) (by omega)
  rw [he, hz] at h1
  have h3 : (Instr.slice t (.slice A n c) (some (.int k' (i : Int))) none none).run P w = .ok (.slice (if c = i then A else A.map (·.add (i * sz))) (n - i) (c - i)) w := by
    rw [h1]
    simp only [Result.andThen_ok, sliced, Int.toNat_natCast]
  simp only [execOp, Option.map_some, Option.map_none, F.eval hx, F.eval hl, Sem.run_bind, run_sliceAt_slice w t _ _ _ none (elem_of ht), h3]
  rfl
theorem sSlF {t e : TypeId} {x lo : Operand} {A : Option Addr} {n c i sz : Nat} {k' : IntKind} (ht : P.underlying t = some (.slice e)) (hz : ∀ w, (sizeOf e).run P w = .ok sz w) (F : Has N a env) (hg : wants l env g = true) (hN : Nat.blt d N = true) (hx : ev env x = some (.slice A n c)) (hl : ev env lo = some (.int k' (i : Int))) (hi : i ≤ n)
    (K : ∀ a, Has N a ((d, .slice (if c = i then A else A.map (·.add (i * sz))) (n - i) (c - i)) :: env) → wpList P l.toArray Q rest a w) : wpList P l.toArray Q (⟨some d, .slice t x (some lo) none none, ty, pos, af, g⟩ :: rest) a w :=
  stepV F hg rfl hN (rSlF ht hz F hx hl hi) K
/-- x[:h:m] -/
theorem rSlHM {t e : TypeId} {x hi mx : Operand} {A : Option Addr} {n c i j sz : Nat} {k k' : IntKind} (ht : P.underlying t = some (.slice e)) (hz : ∀ w, (sizeOf e).run P w = .ok sz w) (F : Has N a env) (hx : ev env x = some (.slice A n c)) (hh : ev env hi = some (.int k (i : Int))) (hm : ev env mx = some (.int k' (j : Int))) (hij : i ≤ j) (hj : j ≤ c) :
    (execOp a.eval ⟨some d, .slice t x none (some hi) (some mx), ty, pos, af, g⟩).run P w = .ok (.value (.slice A i j)) w := by
  have he : P.elem t = e := by simp [Program.elem, ht]
  have h1 := run_slice_hm (P := P) w t A n c (elem_of ht) k k' (i : Int) (j : Int) (by omega) (by omega) (by omega)
  rw [he, hz] at h1
  have h2 : (if j = 0 then A else Option.map (fun x => x.add (0 * sz)) A) = A := by
    split
    · rfl
    · cases A with
      | none => rfl
      | some p => simp [Addr.add]
  have h3 : (Instr.slice t (.slice A n c) none (some (.int k (i : Int))) (some (.int k' (j : Int)))).run P w = .ok (.slice A i j) w := by
    rw [h1]
    simp only [Result.andThen_ok, sliced, h2, Int.toNat_natCast, Nat.sub_zero]
  simp only [execOp, Option.map_some, Option.map_none, F.eval hx, F.eval hh, F.eval hm, Sem.run_bind, run_sliceAt_slice w t _ none _ _ (elem_of ht), h3]
  rfl
theorem sSlHM {t e : TypeId} {x hi mx : Operand} {A : Option Addr} {n c i j sz : Nat} {k k' : IntKind} (ht : P.underlying t = some (.slice e)) (hz : ∀ w, (sizeOf e).run P w = .ok sz w) (F : Has N a env) (hg : wants l env g = true) (hN : Nat.blt d N = true) (hx : ev env x = some (.slice A n c)) (hh : ev env hi = some (.int k (i : Int))) (hm : ev env mx = some (.int k' (j : Int))) (hij : i ≤ j) (hj : j ≤ c)
    (K : ∀ a, Has N a ((d, .slice A i j) :: env) → wpList P l.toArray Q rest a w) : wpList P l.toArray Q (⟨some d, .slice t x none (some hi) (some mx), ty, pos, af, g⟩ :: rest) a w :=
  stepV F hg rfl hN (rSlHM ht hz F hx hh hm hij hj) K
theorem cut_run {t e : TypeId} {rows : List (List Value)} {A : Option Addr} {n c i j : Nat} {ti : TypeInfo} {z : Value} {sz bytes : Nat} (H : Own w0 row w rs) (q : Nat) (ht : P.underlying t = some (.slice e))
    (hi : ∀ w, (typeInfo e).run P w = .ok ti w) (hz : ti.zero = some z) (hsize : ti.size = sz) (hby : ti.bytes = bytes) (hzs : z.cells.size = sz) (hsz : Nat.blt 0 sz = true) (hb1 : Nat.blt 0 bytes = true)
    (hr : rs[q]? = some (.win e sz (.slice A n c) rows)) (hij : i ≤ j) (hj : j ≤ n) (hn : 0 < n) (h1 : ∀ r ∈ rows, r.all (·.oneCell') = true) (hb : rows.length * bytes ≤ 140737488355328) (ty : TypeId) :
    ∃ A' c' w', (Builtin.append_ #[t, t] ty #[.slice A i i, .slice (if c = j then A else A.map (·.add (j * sz))) (n - j) (c - j)]).run P w = .ok (.slice A' (rows.take i ++ rows.drop j).length c') w' ∧ Own w0 row w' (rs.set q (.win e sz (.slice A' (rows.take i ++ rows.drop j).length c') (rows.take i ++ rows.drop j))) := by
  have hw := H.winAt q hr
  obtain ⟨hn2, hc, _⟩ := hw.len
  have hu := hw.upto (i := i) (j := i) (by omega) (Nat.le_refl _) (by omega)
  have hf := hw.from hj
  obtain ⟨ad, rfl⟩ : ∃ ad, A = some ad := by
    rcases hw.2 with ⟨e1, e2⟩ | ⟨g, off, cap, cur, e1, _⟩
    · cases e1; omega
    · cases e1; exact ⟨_, rfl⟩
  obtain ⟨ad2, e2⟩ : ∃ ad2, (if c = j then some ad else Option.map (fun x => x.add (j * sz)) (some ad)) = some ad2 := by
    split
    · exact ⟨_, rfl⟩
    · exact ⟨_, rfl⟩
  rw [e2] at hf ⊢
  have H2 := H.reseen q hr (.win e sz (.slice (some ad) i i) (rows.take i)) hu (fun b hb => hb)
  have hql : q < rs.length := (List.getElem?_eq_some_iff.1 hr).1
  obtain ⟨A', c', w', h2, h3⟩ := win_run (P := P) (c := c - j) (m := n - j) (news := rows.drop j) H2 q ht hi hz hsize hby hzs hsz hb1 (by rw [List.getElem?_set, if_pos rfl, if_pos hql]) (by rw [List.length_drop]; omega) hf.cells (fun r hr => hw.1 r (List.mem_of_mem_drop hr)) (fun r hr => h1 r (List.mem_of_mem_drop hr))
    (by
      have : (rows.take i).length + (n - j) ≤ rows.length := by rw [List.length_take]; omega
      exact Nat.le_trans (Nat.mul_le_mul_right _ this) hb) ty
  rw [List.set_set] at h3
  exact ⟨A', c', w', h2, h3⟩
theorem oWinCut {t e : TypeId} {s x : Operand} {rows : List (List Value)} {A : Option Addr} {n c i j : Nat} {ti : TypeInfo} {z : Value} {sz bytes : Nat} (H : Own w0 row w rs) (q : Nat) (ht : P.underlying t = some (.slice e))
    (hi : ∀ w, (typeInfo e).run P w = .ok ti w) (hz : ti.zero = some z) (hsize : ti.size = sz) (hby : ti.bytes = bytes) (hzs : z.cells.size = sz) (hsz : Nat.blt 0 sz = true) (hb1 : Nat.blt 0 bytes = true)
    (F : Has N a env) (hN : Nat.blt d N = true) (hs : ev env s = some (.slice A i i)) (hx : ev env x = some (.slice (if c = j then A else A.map (·.add (j * sz))) (n - j) (c - j)))
    (hr : rs[q]? = some (.win e sz (.slice A n c) rows)) (hij : i ≤ j) (hj : j ≤ n) (hn : 0 < n) (h1 : ∀ r ∈ rows, r.all (·.oneCell') = true) (hb : rows.length * bytes ≤ 140737488355328)
    (K : ∀ A c a w, Has N a ((d, .slice A (rows.take i ++ rows.drop j).length c) :: env) → Own w0 row w (rs.set q (.win e sz (.slice A (rows.take i ++ rows.drop j).length c) (rows.take i ++ rows.drop j))) → Kt a w) :
    (Oper.mk (some d) (.call ⟨.builtin .append, #[s, x], #[t, t]⟩) ty pos af g).wp P a w Kt Q := by
  obtain ⟨A', c', w', h2, h3⟩ := cut_run (P := P) H q ht hi hz hsize hby hzs hsz hb1 hr hij hj hn h1 hb ty
  exact oV F rfl hN (app_exec (ty' := ty) F hs hx h2) (fun a F' => K A' c' a w' F' h3)
theorem range_news {b o : Nat} {cs : List Value} (h : w.rangeAt b o cs) : ∀ (j : Nat) (u : Value), cs[j]? = some u → w.cell? ((⟨b, o, none⟩ : Addr).add j) = some u := fun j u hj => by
  rw [Addr.add_mid]; exact h j u hj
end
end Go.Proofs.Ytbdjlmdejlklkaa
