/-
  A slice of the function's own: an element is stored; its tail is cleared. Conditions: none.
-/
import Derived.Test.YtbgnapmaimkpkaaGreatDoorRnK
set_option linter.unusedSimpArgs false
set_option linter.unusedVariables false
namespace Go.Proofs.YtbgnapmaimkpkaaGreatDoor
open Go.RowKit
set_option maxRecDepth 100000
theorem rwsBlk {w0 w : World} {row : Option Nat} {rs : List Res} {e : TypeId} {sz n c g : Nat} {rows : List (List Value)} (H : Own w0 row w rs) (i : Nat) (hi : rs[i]? = some (.rws e sz (.slice (some ⟨g, 0, none⟩) n c) rows)) :
    ∃ cur : List Value, n = rows.length ∧ n ≤ c ∧ c ≤ maxLen ∧ cur.length = c * sz ∧ cur.take (n * sz) = rows.flatten ∧ rows.flatten.length = n * sz ∧ Own w0 row w (rs.set i (.blk g cur e)) := by
  have h : w.ownsRow 0 e sz (.slice (some ⟨g, 0, none⟩) n c) rows.length rows.flatten := H.pred i _ hi
  have hf := H.foot i _ hi g rfl
  obtain ⟨h0, ⟨h1, _⟩ | ⟨g', cap, cur, h1, _, h2, h3, h4, h5, h6⟩⟩ := h
  · cases h1
  · obtain ⟨⟨rfl⟩, hn, rfl⟩ : (g = g') ∧ n = rows.length ∧ c = cap := by
      simp only [Value.slice.injEq, Option.some.injEq, Addr.mk.injEq] at h1
      exact ⟨h1.1.1, h1.2.1, h1.2.2⟩
    subst hn
    refine ⟨cur.toList, rfl, h3, h4, by simpa using h5, h6, h0, H.turn i hi _ H.grown (Nat.le_refl _) (fun _ _ _ => rfl) (by show Blk w g cur.toList e; unfold Blk; simpa using h2) (fun b hb => ?_)⟩
    have hb : b = g := hb
    subst hb
    exact ⟨.inl rfl, hf.2⟩
theorem blkRws {w0 w : World} {row : Option Nat} {rs : List Res} {e : TypeId} {sz n c g : Nat} {cur : List Value} {rows : List (List Value)} (H : Own w0 row w rs) (i : Nat) (hi : rs[i]? = some (.blk g cur e)) (hn : n = rows.length) (hc : n ≤ c) (hm : c ≤ maxLen) (hl : cur.length = c * sz) (ht : cur.take (n * sz) = rows.flatten) (hf : rows.flatten.length = n * sz) :
    Own w0 row w (rs.set i (.rws e sz (.slice (some ⟨g, 0, none⟩) n c) rows)) := by
  have hB := H.blk i hi
  subst hn;refine H.turn i hi _ H.grown (Nat.le_refl _) (fun _ _ _ => rfl) ⟨hf, .inr ⟨g, c, cur.toArray, rfl, Nat.zero_le _, hB, hc, hm, by simpa using hl, by simpa using ht⟩⟩ (fun b hb => ?_)
  have hb : Value.ownBlock (.slice (some ⟨g, 0, none⟩) rows.length c) = some b := hb
  simp only [Value.ownBlock, Option.some.injEq] at hb
  subst hb
  exact ⟨.inl rfl, (H.foot i _ hi g rfl).2⟩
theorem splice_len : ∀ (vs cs : List Value) (o : Nat), (splice cs o vs).length = cs.length
  | [], _, _ => rfl
  | v :: r, cs, o => by rw [splice, splice_len r, List.length_set]
theorem splice_take : ∀ (vs cs : List Value) (o m : Nat), (splice cs o vs).take m = splice (cs.take m) o vs
  | [], _, _, _ => rfl
  | v :: r, cs, o, m => by rw [splice, splice, splice_take r, List.take_set]
theorem splice_low : ∀ (vs cs : List Value) (o m : Nat), m ≤ o → (splice cs o vs).take m = cs.take m
  | [], _, _, _, _ => rfl
  | v :: r, cs, o, m, h => by
    rw [splice, splice_low r _ _ _ (by omega), List.take_set]
    exact List.set_eq_of_length_le (by rw [List.length_take]; omega)
theorem set_flat {sz : Nat} {rows : List (List Value)} (hr : ∀ r ∈ rows, r.length = sz) {j : Nat} (hj : j < rows.length) {cs : List Value} (hc : cs.length = sz) : (rows.set j cs).flatten = splice rows.flatten (j * sz) cs := by
  have hr2 : ∀ r ∈ rows.set j cs, r.length = sz := fun r hm => by
    rcases List.mem_or_eq_of_mem_set hm with h | h
    · exact hr r h
    · rw [h]; exact hc
  have hl := flat_len rows hr
  have hb : j * sz + cs.length ≤ rows.flatten.length := by
    rw [hl, hc]
    have := Nat.mul_le_mul_right sz (show j + 1 ≤ rows.length from hj)
    rw [Nat.add_mul] at this; omega
  apply List.ext_getElem?
  intro t
  rw [splice_get _ _ _ _ hb, hc]
  by_cases ht : t < rows.length * sz
  · have k0 : 0 < sz := by
      rcases Nat.eq_zero_or_pos sz with h | h
      · subst h; simp at ht
      · exact h
    have hq : t / sz < rows.length := Nat.div_lt_of_lt_mul (by rw [Nat.mul_comm]; exact ht)
    have hm : t % sz < sz := Nat.mod_lt _ k0
    have e1 : t / sz * sz + t % sz = t := by rw [Nat.mul_comm]; exact Nat.div_add_mod t sz
    have a1 := flat_at rows hr (t / sz) rows[t / sz] (List.getElem?_eq_getElem hq) (t % sz) (rows[t / sz][t % sz]'(by rw [hr _ (List.getElem_mem _)]; exact hm)) (List.getElem?_eq_getElem _)
    rw [e1] at a1
    by_cases hjt : t / sz = j
    · have a2 := flat_at (rows.set j cs) hr2 (t / sz) cs (by rw [hjt, List.getElem?_set, if_pos rfl, if_pos hj]) (t % sz) (cs[t % sz]'(by omega)) (List.getElem?_eq_getElem _)
      rw [e1] at a2;subst hjt;rw [a2, if_pos (by omega), List.getElem?_eq_getElem (by omega)]
      congr 2
      omega
    · have a2 := flat_at (rows.set j cs) hr2 (t / sz) rows[t / sz] (by rw [List.getElem?_set, if_neg (Ne.symm hjt)]; exact List.getElem?_eq_getElem hq) (t % sz) (rows[t / sz][t % sz]'(by rw [hr _ (List.getElem_mem _)]; exact hm)) (List.getElem?_eq_getElem _)
      rw [e1] at a2;rw [a2, a1, if_neg];rintro ⟨h1, h2⟩
      exact hjt (Nat.div_eq_of_lt_le h1 (by rw [Nat.add_mul]; omega))
  · rw [List.getElem?_eq_none (by rw [flat_len _ hr2, List.length_set]; omega), if_neg (by
      rw [hl, hc] at hb; omega), List.getElem?_eq_none (by rw [hl]; omega)]
theorem take_flat {sz : Nat} : ∀ (rows : List (List Value)), (∀ r ∈ rows, r.length = sz) → ∀ k, k ≤ rows.length → (rows.take k).flatten = rows.flatten.take (k * sz)
  | [], _, k, hk => by
    have : k = 0 := by simpa using hk
    subst this; simp
  | r0 :: rest, hr, 0, _ => by simp
  | r0 :: rest, hr, k + 1, hk => by
    have h0 : r0.length = sz := hr r0 (by simp)
    rw [List.take_succ_cons, List.flatten_cons, List.flatten_cons, take_flat rest (fun r hm => hr r (by simp [hm])) k (by simpa using hk), List.take_append, List.take_of_length_le (l := r0) (by rw [h0, Nat.add_mul]; omega), h0]
    congr 2
    rw [Nat.add_mul]; omega
section
variable {P : Program} {l : List Oper} {Q : Exit → Act → World → Prop} {N : Nat} {a : Act} {env : List (Nat × Value)} {rest : List Oper} {d : Tmp} {ty : TypeId} {pos : String} {af : Array Edge} {g : Option (Nat × Bool)} {w0 w : World} {row : Option Nat} {rs : List Res}
theorem sStR {t e : TypeId} {x y : Operand} {sz n c gb o j : Nat} {rows : List (List Value)} {cs : List Value} (H : Own w0 row w rs) (i : Nat) (hz : ∀ w, (sizeOf t).run P w = .ok sz w) (F : Has N a env) (hg : wants l env g = true)
    (hx : ev env x = some (.pointer (some ⟨gb, o, none⟩))) (hy : ev env y = some (.agg cs.toArray)) (hi : rs[i]? = some (.rws e sz (.slice (some ⟨gb, 0, none⟩) n c) rows)) (ho : o = j * sz) (hj : j < rows.length) (hr : ∀ r ∈ rows, r.length = sz) (hc : cs.length = sz) (h1 : cs.all (·.oneCell') = true)
    (K : ∀ w, Own w0 row w (rs.set i (.rws e sz (.slice (some ⟨gb, 0, none⟩) n c) (rows.set j cs))) → wpList P l.toArray Q rest a w) : wpList P l.toArray Q (⟨none, .store t x y, ty, pos, af, g⟩ :: rest) a w := by
  subst ho
  obtain ⟨cur, hn, hnc, hm, hl, ht, hf, H2⟩ := rwsBlk H i hi
  have hi2 : (rs.set i (.blk gb cur e))[i]? = some (.blk gb cur e) := by
    rw [List.getElem?_set, if_pos rfl, if_pos (List.getElem?_eq_some_iff.1 hi).1]
  have hb : j * sz + cs.length ≤ n * sz := by
    rw [hc, hn]
    have := Nat.mul_le_mul_right sz (show j + 1 ≤ rows.length from hj)
    rw [Nat.add_mul] at this; omega
  have hb2 : n * sz ≤ c * sz := Nat.mul_le_mul_right _ hnc
  have H3 := Own.setCells i cs (j * sz) w _ cur H2 hi2
  rw [List.set_set] at H3
  have hi3 : (rs.set i (.blk gb (splice cur (j * sz) cs) e))[i]? = some (.blk gb (splice cur (j * sz) cs) e) := by
    rw [List.getElem?_set, if_pos rfl, if_pos (List.getElem?_eq_some_iff.1 hi).1]
  have hset := set_flat hr hj hc
  have H4 := blkRws (sz := sz) (n := n) (c := c) (rows := rows.set j cs) H3 i hi3 (by rw [List.length_set]; exact hn) hnc hm (by rw [splice_len]; exact hl) (by rw [splice_take, ht, hset]) (by rw [hset, splice_len]; exact hf)
  rw [List.set_set] at H4
  exact stepU F hg rfl (w' := w.setCells gb (j * sz) cs) (by
    simp only [execOp, F.eval hx, F.eval hy]
    have h2 := run_storeAt_mid (P := P) w gb (j * sz) t cs.toArray (by simpa using H2.there i hi2 (j * sz) cs.length (Nat.ble_eq_true_of_le (by omega))) (by rw [info_size hz, List.size_toArray, hc]) (by simpa using h1)
    simp only [Sem.run_bind, h2, Result.andThen_ok, Sem.run_pure]) (K _ H4)
theorem stepN {o : Oper} {v : Value} {w' : World} (F : Has N a env) (hg : wants l env o.guard = true) (hd : o.dst = none)
    (hr : (execOp a.eval o).run P w = .ok (.value v) w') (K : wpList P l.toArray Q rest a w') : wpList P l.toArray Q (o :: rest) a w := by
  unfold wpList
  rw [if_pos (wanted_of F hg)];refine .inl ?_
  unfold Oper.wp
  rw [hr, Oper.upon_value, hd]
  exact K
theorem sClr {t e : TypeId} {x : Operand} {z : Array Value} {sz n c gb o k m c' : Nat} {rows : List (List Value)} (H : Own w0 row w rs) (i : Nat) (ht : P.underlying t = some (.slice e)) (hz : ∀ w, (zeroValue e).run P w = .ok (.agg z) w) (hzs : z.size = sz) (hz1 : z.toList.all (·.oneCell') = true) (F : Has N a env) (hg : wants l env g = true)
    (hx : ev env x = some (.slice (some ⟨gb, o, none⟩) m c')) (hi : rs[i]? = some (.rws e sz (.slice (some ⟨gb, 0, none⟩) n c) rows)) (ho : o = k * sz) (hm : k + m = n) (hr : ∀ r ∈ rows, r.length = sz)
    (K : ∀ w, Own w0 row w (rs.set i (.rws e sz (.slice (some ⟨gb, 0, none⟩) k c) (rows.take k))) → wpList P l.toArray Q rest a w) : wpList P l.toArray Q (⟨none, .call ⟨.builtin .clear, #[x], #[t]⟩, ty, pos, af, g⟩ :: rest) a w := by
  subst ho
  obtain ⟨cur, hn, hnc, hmx, hl, htk, hf, H2⟩ := rwsBlk H i hi
  have hi2 : (rs.set i (.blk gb cur e))[i]? = some (.blk gb cur e) := by
    rw [List.getElem?_set, if_pos rfl, if_pos (List.getElem?_eq_some_iff.1 hi).1]
  have hzl : (Builtin.zeroCells z m).toList.length = m * sz := by rw [Array.length_toList, zeroCells_size, hzs]
  have hb : k * sz + m * sz = n * sz := by rw [← Nat.add_mul, hm]
  have hb2 : n * sz ≤ c * sz := Nat.mul_le_mul_right _ hnc
  have hones : ∀ v ∈ (Builtin.zeroCells z m).toList, v.oneCell' = true := fun v hv => by
    unfold Builtin.zeroCells at hv
    rw [Array.toList_map] at hv
    obtain ⟨q, hq, rfl⟩ := List.mem_map.1 hv
    have hq : q < m * z.size := by simpa using hq
    have hp : 0 < z.size := by
      rcases Nat.eq_zero_or_pos z.size with h | h
      · rw [h] at hq; simp at hq
      · exact h
    have hlt : q % z.size < z.size := Nat.mod_lt _ hp
    rw [getElem!_pos z _ hlt]
    exact List.all_eq_true.1 hz1 _ (Array.getElem_mem_toList hlt)
  have H3 := Own.setCells i (Builtin.zeroCells z m).toList (k * sz) w _ cur H2 hi2
  rw [List.set_set] at H3
  have hi3 : (rs.set i (.blk gb (splice cur (k * sz) (Builtin.zeroCells z m).toList) e))[i]? = some (.blk gb (splice cur (k * sz) (Builtin.zeroCells z m).toList) e) := by
    rw [List.getElem?_set, if_pos rfl, if_pos (List.getElem?_eq_some_iff.1 hi).1]
  have hkt : (rows.take k).flatten = rows.flatten.take (k * sz) := take_flat rows hr k (by omega)
  have H4 := blkRws (sz := sz) (n := k) (c := c) (rows := rows.take k) H3 i hi3 (by rw [List.length_take]; omega) (by omega) hmx (by rw [splice_len]; exact hl) (by rw [splice_low _ _ _ _ (Nat.le_refl _), hkt, ← htk, List.take_take, Nat.min_eq_left (by omega)]) (by rw [hkt, List.length_take, hf]; omega)
  rw [List.set_set] at H4
  refine stepN (v := .tuple #[]) F hg rfl (w' := w.setCells gb (k * sz) (Builtin.zeroCells z m).toList) ?_ (K _ H4)
  have hth := H2.there i hi2 (k * sz) (m * sz) (Nat.ble_eq_true_of_le (by omega))
  have hst := run_storeCells_cells (P := P) gb (k * sz) (Builtin.zeroCells z m).toList 0 w (fun q hq => by rw [Nat.add_zero]; exact (hth q (by omega)).1) (fun q hq => by rw [Nat.add_zero]; exact (hth q (by omega)).2) hones
  rw [Nat.add_zero] at hst
  simp only [execOp, resolve, List.map_toArray, List.map_cons, List.map_nil, F.eval hx]
  cases m with
  | zero =>
    have e0 : w.setCells gb (k * sz) (Builtin.zeroCells z 0).toList = w := by
      have : (Builtin.zeroCells z 0).toList = [] := List.eq_nil_of_length_eq_zero (by rw [hzl]; omega)
      rw [this]; rfl
    rw [e0]
    simp [invoke, builtin, Builtin.clear_, run_underlying ht, go_sem]
  | succ m =>
    simp [invoke, builtin, Builtin.clear_, run_underlying ht, hz, hst, go_sem]
end
theorem compact_snoc : ∀ {L : List (List UInt8)} {x y : List UInt8}, L.getLast? = some x → compactL (L ++ [y]) = if x = y then compactL L else compactL L ++ [y]
  | [], x, y, h => by cases h
  | [a], x, y, h => by
    have : a = x := by simpa using h
    subst this
    have e : compactL ([a] ++ [y]) = if a = y then compactL [y] else a :: compactL [y] := by
      show compactL (a :: y :: []) = _
      simp only [compactL]
    rw [e]
    by_cases h1 : a = y
    · rw [if_pos h1, if_pos h1, h1]
    · rw [if_neg h1, if_neg h1]
      simp [compactL]
  | a :: b :: r, x, y, h => by
    have ih := compact_snoc (L := b :: r) (x := x) (y := y) (by simpa using h)
    have e1 : compactL (a :: b :: r ++ [y]) = if a = b then compactL (b :: (r ++ [y])) else a :: compactL (b :: (r ++ [y])) := by
      show compactL (a :: b :: (r ++ [y])) = _
      rw [compactL]
    have e2 : compactL (a :: b :: r) = if a = b then compactL (b :: r) else a :: compactL (b :: r) := by rw [compactL]
    have ih : compactL (b :: (r ++ [y])) = _ := ih
    rw [e1, e2, ih]
    by_cases h1 : a = b
    · rw [if_pos h1, if_pos h1]
    · rw [if_neg h1, if_neg h1]
      by_cases h2 : x = y
      · rw [if_pos h2, if_pos h2]
      · rw [if_neg h2, if_neg h2]; rfl
end Go.Proofs.YtbgnapmaimkpkaaGreatDoor
