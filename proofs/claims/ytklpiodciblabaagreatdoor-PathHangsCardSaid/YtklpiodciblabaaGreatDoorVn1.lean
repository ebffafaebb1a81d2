/-
  WALK2. Windows on blocks of the function's own: slices that are cut and appended to; stores into slices of the function's own. Conditions: none.
-/
import Derived.Test.YtklpiodciblabaaGreatDoorVcL
import Derived.Test.YtklpiodciblabaaGreatDoorVm1
set_option linter.unusedSimpArgs false
set_option linter.unusedVariables false
namespace Go.Proofs.YtklpiodciblabaaGreatDoor
-- VcN
open Go.RowKit
section
variable {P : Program} {l : List Oper} {Q : Exit → Act → World → Prop} {N : Nat} {a : Act} {env : List (Nat × Value)} {rest : List Oper} {d : Tmp} {ty : TypeId} {pos : String} {af : Array Edge} {g : Option (Nat × Bool)}
  {w0 w : World} {row : Option Nat} {rs : List Res} {Kt : Act → World → Prop}
def winP (e : TypeId) (sz : Nat) (v : Value) (rows : List (List Value)) (w : World) : Prop :=
  (∀ r ∈ rows, r.length = sz) ∧ ((v = .slice none 0 0 ∧ rows = []) ∨ ∃ g off cap cur, v = .slice (some ⟨g, off, none⟩) rows.length cap ∧ w.heap[g]? = some (.cells cur e (0, 0)) ∧ rows.length ≤ cap ∧ cap ≤ maxLen ∧ off + cap * sz ≤ cur.size ∧ ∀ (j : Nat) (u : Value), rows.flatten[j]? = some u → cur[off + j]? = some u)
theorem flat_len {sz : Nat} : ∀ (q : List (List Value)), (∀ r ∈ q, r.length = sz) → q.flatten.length = q.length * sz
  | [], _ => by simp
  | r0 :: rest, hq => by rw [List.flatten_cons, List.length_append, flat_len rest (fun r hm => hq r (by simp [hm])), hq r0 (by simp), List.length_cons, Nat.add_mul]; omega
theorem flat_at {sz : Nat} : ∀ (rows : List (List Value)), (∀ r ∈ rows, r.length = sz) → ∀ (j : Nat) (cs : List Value), rows[j]? = some cs → ∀ (k : Nat) (v : Value), cs[k]? = some v → rows.flatten[j * sz + k]? = some v
  | [], _, j, cs, hj, _, _, _ => by simp at hj
  | r0 :: rest, hr, j, cs, hj, k, v, hk => by
    have h0 : r0.length = sz := hr r0 (by simp)
    cases j with
    | zero =>
      simp at hj; subst hj
      have : k < r0.length := (List.getElem?_eq_some_iff.1 hk).1
      rw [List.flatten_cons, List.getElem?_append_left (by omega)]; simpa using hk
    | succ j =>
      rw [List.flatten_cons, List.getElem?_append_right (by rw [h0, Nat.add_mul]; omega), h0]
      have e1 : (j + 1) * sz + k - sz = j * sz + k := by rw [Nat.add_mul]; omega
      rw [e1]
      exact flat_at rest (fun r hm => hr r (by simp [hm])) j cs (by simpa using hj) k v hk
theorem flat_drop {sz : Nat} (rows : List (List Value)) (hr : ∀ r ∈ rows, r.length = sz) (i : Nat) (hi : i ≤ rows.length) : (rows.drop i).flatten = rows.flatten.drop (i * sz) := by
  have h1 : rows.flatten = (rows.take i).flatten ++ (rows.drop i).flatten := by rw [← List.flatten_append, List.take_append_drop]
  have h2 : (rows.take i).flatten.length = i * sz := by rw [flat_len _ (fun r hm => hr r (List.mem_of_mem_take hm)), List.length_take]; congr 1; omega
  rw [h1, ← h2, List.drop_left]
theorem winP.nil (e : TypeId) (sz : Nat) (w : World) : winP e sz (.slice none 0 0) [] w := ⟨by simp, .inl ⟨rfl, rfl⟩⟩
theorem winP.len {e : TypeId} {sz n c : Nat} {A : Option Addr} {rows : List (List Value)} (h : winP e sz (.slice A n c) rows w) : n = rows.length ∧ n ≤ c ∧ c ≤ maxLen := by
  rcases h.2 with ⟨h1, h2⟩ | ⟨g, off, cap, cur, h1, _, h3, h4, _⟩
  · cases h1; subst h2; exact ⟨rfl, Nat.le_refl _, Nat.zero_le _⟩
  · cases h1; exact ⟨rfl, h3, h4⟩
theorem winP.at {e : TypeId} {sz n c : Nat} {A : Option Addr} {rows : List (List Value)} (h : winP e sz (.slice A n c) rows w) : RowsAt w A sz rows := fun j cs hj => by
  rcases h.2 with ⟨h1, h2⟩ | ⟨g, off, cap, cur, h1, h2, _, _, _, h6⟩
  · subst h2; simp at hj
  · cases h1
    refine ⟨g, off, rfl, fun k v hk => ?_⟩
    have h7 := h6 _ v (flat_at rows h.1 j cs hj k v hk)
    simp [World.cell?, h2, Nat.add_assoc, h7]
theorem winP.cells {e : TypeId} {sz n c : Nat} {A : Addr} {rows : List (List Value)} (h : winP e sz (.slice (some A) n c) rows w) : ∀ j u, rows.flatten[j]? = some u → w.cell? (A.add j) = some u := fun j u hj => by
  rcases h.2 with ⟨h1, _⟩ | ⟨g, off, cap, cur, h1, h2, _, _, _, h6⟩
  · cases h1
  · cases h1
    have h7 := h6 _ u hj
    rw [Addr.add_mid]
    simp [World.cell?, h2, h7]
theorem winP.from {e : TypeId} {sz n c i : Nat} {A : Option Addr} {rows : List (List Value)} (h : winP e sz (.slice A n c) rows w) (hi : i ≤ n) : winP e sz (.slice (if c = i then A else A.map (·.add (i * sz))) (n - i) (c - i)) (rows.drop i) w := by
  obtain ⟨hn, hc, hm⟩ := h.len
  refine ⟨fun r hr => h.1 r (List.mem_of_mem_drop hr), ?_⟩
  rcases h.2 with ⟨h1, h2⟩ | ⟨g, off, cap, cur, h1, h2, h3, h4, h5, h6⟩
  · cases h1; subst h2
    obtain rfl : i = 0 := by omega
    exact .inl ⟨by simp, by simp⟩
  · cases h1
    by_cases hci : c = i
    · have : rows.drop i = [] := List.drop_eq_nil_of_le (by omega)
      refine .inr ⟨g, off, 0, cur, ?_, h2, by rw [this]; simp, Nat.zero_le _, by omega, fun j u hj => by rw [this] at hj; simp at hj⟩
      rw [if_pos hci, this]
      simp only [List.length_nil]
      congr 1 <;> omega
    · refine .inr ⟨g, off + i * sz, c - i, cur, ?_, h2, by rw [List.length_drop]; omega, by omega, ?_, fun j u hj => ?_⟩
      · rw [if_neg hci, List.length_drop]
        simp [Addr.add_mid]
      · have : i * sz + (c - i) * sz = c * sz := by rw [← Nat.add_mul]; congr 1; omega
        omega
      · rw [flat_drop rows h.1 i (by omega), List.getElem?_drop] at hj
        rw [Nat.add_assoc]; exact h6 _ u hj
end
-- VcO
open Go.RowKit
section
variable {P : Program} {l : List Oper} {Q : Exit → Act → World → Prop} {N : Nat} {a : Act} {env : List (Nat × Value)} {rest : List Oper} {d : Tmp} {ty : TypeId} {pos : String} {af : Array Edge} {g : Option (Nat × Bool)}
  {w0 w : World} {row : Option Nat} {rs : List Res} {Kt : Act → World → Prop}
theorem Own.setRws (H : Own w0 row w rs) (i : Nat) {e : TypeId} {sz n c g k : Nat} {rows : List (List Value)} {r : List Value} {j : Nat} {u : Value} (hi : rs[i]? = some (.rws e sz (.slice (some ⟨g, 0, .none⟩) n c) rows)) (hl : ∀ r ∈ rows, r.length = sz) (hj : rows[j]? = some r) (hk : k < sz) :
    w.there g (j * sz + k) 1 ∧ Own w0 row (w.setCell ⟨g, j * sz + k, .none⟩ u) (rs.set i (.rws e sz (.slice (some ⟨g, 0, .none⟩) n c) (rows.set j (r.set k u)))) := by
  have h := H.arr i hi
  have hjl := (List.getElem?_eq_some_iff.1 hj).1
  have hflat := flat_len rows hl
  have hrl := hl r (List.mem_of_getElem? hj)
  have hjk : j * sz + k < rows.length * sz := by
    have := Nat.mul_le_mul_right sz (show j + 1 ≤ rows.length from hjl)
    rw [Nat.add_mul] at this
    omega
  have hset : ∀ (rows : List (List Value)) (j : Nat), (∀ r ∈ rows, r.length = sz) → rows[j]? = some r → (rows.set j (r.set k u)).flatten = rows.flatten.set (j * sz + k) u := by
    intro rows
    induction rows with
    | nil => intro j _ h; simp at h
    | cons r0 rest ih =>
      intro j hl h
      have h0 : r0.length = sz := hl r0 (by simp)
      cases j with
      | zero =>
        simp at h; subst h
        simp only [List.set_cons_zero, List.flatten_cons, Nat.zero_mul, Nat.zero_add]
        rw [List.set_append_left _ _ (by omega)]
      | succ j =>
        simp only [List.set_cons_succ, List.flatten_cons]
        rw [ih j (fun r hm => hl r (by simp [hm])) (by simpa using h), List.set_append_right _ _ (by rw [h0, Nat.add_mul]; omega), h0]
        congr 2
        rw [Nat.add_mul]; omega
  rcases h.2 with ⟨h1, _⟩ | ⟨g', cap, cur, h1, _, h2, h3, h4, h5, h6⟩
  · cases h1
  · have hg : g' = g := by cases h1; rfl
    subst hg
    obtain ⟨rfl, rfl⟩ : n = rows.length ∧ c = cap := by cases h1; exact ⟨rfl, rfl⟩
    have hcs : rows.length * sz ≤ cur.size := by rw [h5]; exact Nat.mul_le_mul_right _ h3
    have hB : Blk w g' cur.toList e := by unfold Blk; simpa using h2
    refine ⟨fun q hq => ?_, H.turn i hi _ (grown_setCell H.grown (H.foot i _ hi g' rfl).1 _ _) (by simp [World.setCell]) (fun b _ hb => Below.heap_setCell w _ u b (fun e => hb (by rw [e]; rfl))) ?_ (fun b hb => ⟨.inl hb, by
      have : g' = b := by simpa [Res.rws, Res.arr, Value.ownBlock] using hb
      subst this
      simpa [World.setCell] using (H.foot i _ hi g' rfl).2⟩)⟩
    · obtain rfl : q = 0 := by omega
      have hc := hB.cell (j * sz + k) (v := cur.toList[j * sz + k]'(by simpa using (by omega : j * sz + k < cur.size))) (List.getElem?_eq_getElem _)
      exact ⟨by rw [Nat.add_zero, hc]; rfl, by rw [Nat.add_zero]; exact hB.frozen _⟩
    · have h7 := hB.set (j * sz + k) u
      show World.ownsRow _ 0 e sz _ (rows.set j (r.set k u)).length (rows.set j (r.set k u)).flatten
      rw [hset rows j hl hj, List.length_set]
      refine ⟨by rw [List.length_set, hflat], .inr ⟨g', c, (cur.toList.set (j * sz + k) u).toArray, rfl, Nat.zero_le _, h7, h3, h4, by simpa using h5, ?_⟩⟩
      simp only
      rw [List.take_set, h6]
theorem store_there {t : TypeId} {x y : Operand} {b o : Nat} {v : Value} (hz : ∀ w, (sizeOf t).run P w = .ok 1 w) (F : Has N a env)
    (hx : ev env x = some (.pointer (some ⟨b, o, none⟩))) (hy : ev env y = some v) (h1 : v.oneCell' = true) (ht : w.there b o 1) : (execOp a.eval ⟨none, .store t x y, ty, pos, af, g⟩).run P w = .ok .skip (w.setCell ⟨b, o, none⟩ v) := by
  simp only [execOp, F.eval hx, F.eval hy]
  obtain ⟨hc, hf⟩ := ht 0 (by omega)
  rw [Nat.add_zero] at hc hf
  have h2 : v.cells = #[v] := by cases v <;> simp_all [Value.oneCell', Value.cells]
  have h3 := run_storeCells_cells (P := P) b o [v] 0 w (fun q hq => by simp at hq; subst hq; simpa using hc) (fun q hq => by simp at hq; subst hq; simpa using hf) (fun q hq => by simp at hq; subst hq; exact h1)
  simp only [Nat.add_zero] at h3
  have h4 : (storeCells ⟨b, o, none⟩ [v]).run P w = .ok () (w.setCell ⟨b, o, none⟩ v) := h3
  simp only [Instr.storeAt, Instr.sureAddr, storeVar, h2, Sem.run_bind, Sem.run_pure, Result.andThen_ok, hz, List.size_toArray, List.length_cons, List.length_nil, ne_eq, not_true_eq_false, ↓reduceIte, Nat.zero_add, h4]
theorem sStW {t : TypeId} {x y : Operand} {e : TypeId} {sz n c gb k o : Nat} {rows : List (List Value)} {r : List Value} {j : Nat} {v : Value} (H : Own w0 row w rs) (i : Nat) (hz : ∀ w, (sizeOf t).run P w = .ok 1 w) (F : Has N a env) (hg : wants l env g = true)
    (hx : ev env x = some (.pointer (some ⟨gb, o, none⟩))) (hy : ev env y = some v) (h1 : v.oneCell' = true) (hi : rs[i]? = some (.rws e sz (.slice (some ⟨gb, 0, none⟩) n c) rows)) (hl : ∀ r ∈ rows, r.length = sz) (hj : rows[j]? = some r) (hk : k < sz) (ho : o = j * sz + k)
    (K : ∀ w, Own w0 row w (rs.set i (.rws e sz (.slice (some ⟨gb, 0, none⟩) n c) (rows.set j (r.set k v)))) → wpList P l.toArray Q rest a w) : wpList P l.toArray Q (⟨none, .store t x y, ty, pos, af, g⟩ :: rest) a w := by
  subst ho
  obtain ⟨h2, h3⟩ := H.setRws i (u := v) hi hl hj hk
  exact stepU F hg rfl (w' := w.setCell ⟨gb, j * sz + k, none⟩ v) (store_there hz F hx hy h1 h2) (K _ h3)
theorem oStW {t : TypeId} {x y : Operand} {e : TypeId} {sz n c gb k o : Nat} {rows : List (List Value)} {r : List Value} {j : Nat} {v : Value} (H : Own w0 row w rs) (i : Nat) (hz : ∀ w, (sizeOf t).run P w = .ok 1 w) (F : Has N a env)
    (hx : ev env x = some (.pointer (some ⟨gb, o, none⟩))) (hy : ev env y = some v) (h1 : v.oneCell' = true) (hi : rs[i]? = some (.rws e sz (.slice (some ⟨gb, 0, none⟩) n c) rows)) (hl : ∀ r ∈ rows, r.length = sz) (hj : rows[j]? = some r) (hk : k < sz) (ho : o = j * sz + k)
    (K : ∀ w, Own w0 row w (rs.set i (.rws e sz (.slice (some ⟨gb, 0, none⟩) n c) (rows.set j (r.set k v)))) → Kt a w) : (Oper.mk none (.store t x y) ty pos af g).wp P a w Kt Q := by
  subst ho
  obtain ⟨h2, h3⟩ := H.setRws i (u := v) hi hl hj hk
  exact oU rfl (w' := w.setCell ⟨gb, j * sz + k, none⟩ v) (store_there hz F hx hy h1 h2) (K _ h3)
end
end Go.Proofs.YtklpiodciblabaaGreatDoor
