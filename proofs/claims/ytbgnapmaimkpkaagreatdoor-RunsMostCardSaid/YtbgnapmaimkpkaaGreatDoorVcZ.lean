/-
  append of many elements of the caller's; slices beside nil; an empty slice of the function's own; two parts of memory made one. Conditions: none.
-/
import Derived.Test.YtbgnapmaimkpkaaGreatDoorVcY
import Derived.Lib.BufferMore
set_option linter.unusedSimpArgs false
set_option linter.unusedVariables false
namespace Go.Proofs.YtbgnapmaimkpkaaGreatDoor
open Go.RowKit
section
variable {P : Program} {l : List Oper} {Q : Exit → Act → World → Prop} {N : Nat} {a : Act} {env : List (Nat × Value)} {rest : List Oper} {d : Tmp} {ty : TypeId} {pos : String} {af : Array Edge} {g : Option (Nat × Bool)}
  {w0 w : World} {row : Option Nat} {rs : List Res} {Kt : Act → World → Prop}
theorem appM_run {t e : TypeId} {v : Value} {rows news : List (List Value)} {ad : Addr} {m c : Nat} {ti : TypeInfo} {z : Value} {sz bytes : Nat} (H : Own w0 row w rs) (i : Nat) (ht : P.underlying t = some (.slice e))
    (hi : ∀ w, (typeInfo e).run P w = .ok ti w) (hz : ti.zero = some z) (hsize : ti.size = sz) (hby : ti.bytes = bytes) (hzs : z.cells.size = sz) (hsz : Nat.blt 0 sz = true) (hb1 : Nat.blt 0 bytes = true)
    (hr : rs[i]? = some (.rws e sz v rows)) (hm : news.length = m) (hnews : ∀ j u, news.flatten[j]? = some u → w.cell? (ad.add j) = some u) (hl : ∀ r ∈ news, r.length = sz) (h1 : ∀ r ∈ news, r.all (·.oneCell') = true) (hb : (rows.length + m) * bytes ≤ 140737488355328) (ty : TypeId) :
    ∃ A c' w', (Builtin.append_ #[t, t] ty #[v, .slice (some ad) m c]).run P w = .ok (.slice A (rows ++ news).length c') w' ∧ Own w0 row w' (rs.set i (.rws e sz (.slice A (rows ++ news).length c') (rows ++ news))) := by
  have hsz' := Nat.blt_eq.mp hsz
  have hb1' := Nat.blt_eq.mp hb1
  have hfl : ∀ (q : List (List Value)), (∀ r ∈ q, r.length = sz) → q.flatten.length = q.length * sz := by
    intro q hq
    induction q with
    | nil => simp
    | cons r0 rest ih => rw [List.flatten_cons, List.length_append, ih (fun r hm => hq r (by simp [hm])), hq r0 (by simp), List.length_cons, Nat.add_mul]; omega
  have hlen : rows.length + m ≤ 140737488355328 := Nat.le_trans (Nat.le_mul_of_pos_right _ hb1') hb
  obtain ⟨v', w', hrun, hown, hgr, _, hat⟩ := run_append_own_at (P := P) w 0 t ty e ti z sz bytes ht (info_of hi) hz hsize hby hzs hsz' v rows.length rows.flatten (H.arr i hr) ad m c news.flatten (by rw [hfl news hl, hm])
    hnews (fun u hu => by
      obtain ⟨r, hr1, hr2⟩ := List.mem_flatten.1 hu
      exact (List.all_eq_true.1 (h1 r hr1)) u hr2) (by simp only [maxLen]; omega) hb (Nat.zero_le _)
  have e1 : (rows ++ news).length = rows.length + m := by rw [List.length_append, hm]
  obtain ⟨A, c', rfl⟩ : ∃ A c', v' = .slice A (rows ++ news).length c' := by
    rcases hown.2 with ⟨h2, h3⟩ | ⟨g, cap, cur, h2, _⟩
    · exact ⟨none, 0, by rw [e1, h3]; exact h2⟩
    · exact ⟨_, cap, by rw [e1]; exact h2⟩
  refine ⟨A, c', w', hrun, ?_⟩
  have hlt : ∀ k, (Value.slice A (rows ++ news).length c').ownBlock = some k → k < w'.heap.size := fun k hk => (hown.lt k hk).2
  refine H.turn i hr _ ?_ hgr.size (fun b hb hnb => hgr.block b hb (fun e => hnb (show v.ownBlock = some b from e.symm))) ?_ ?_
  · refine ⟨hgr.os.trans H.grown.os, hgr.tape.trans H.grown.tape, hgr.output.trans H.grown.output, Nat.le_trans H.grown.size hgr.size, fun k hk hne => ?_⟩
    refine (hgr.block k (Nat.lt_of_lt_of_le hk H.grown.size) (fun e => ?_)).trans (H.grown.block k hk hne)
    rcases (H.foot i _ hr k (show v.ownBlock = some k from e.symm)).1 with h | h
    · exact absurd hk (by omega)
    · exact hne h
  · show w'.ownsRow 0 e sz _ (rows ++ news).length (rows ++ news).flatten
    rw [List.flatten_append]
    rw [e1] at hown ⊢
    exact hown
  · intro b hb
    have hb : (Value.slice A (rows ++ news).length c').ownBlock = some b := hb
    refine ⟨?_, hlt b hb⟩
    rcases hat with h | h
    · exact .inl (show v.ownBlock = some b from h ▸ hb)
    · rw [hb] at h
      cases h
      exact .inr (Nat.le_refl _)
/-- Rows that lie at a place, cell by cell. -/
theorem RowsAt.flat {w : World} {A : Addr} {sz : Nat} {rows : List (List Value)} (h : RowsAt w (some A) sz rows) (hl : ∀ r ∈ rows, r.length = sz) : ∀ j u, rows.flatten[j]? = some u → w.cell? (A.add j) = some u := by
  have key : ∀ (rows : List (List Value)) (o : Nat), (∀ r ∈ rows, r.length = sz) → (∀ (j : Nat) (cs : List Value), rows[j]? = some cs → ∃ b off, A = ⟨b, off, none⟩ ∧ w.rangeAt b (off + (o + j) * sz) cs) → ∀ j u, rows.flatten[j]? = some u → w.cell? (A.add (o * sz + j)) = some u := by
    intro rows
    induction rows with
    | nil => intro o _ _ j u hu; simp at hu
    | cons r rest ih =>
      intro o hl h j u hu
      have hr : r.length = sz := hl r (by simp)
      rw [List.flatten_cons] at hu
      rcases Nat.lt_or_ge j r.length with hj | hj
      · rw [List.getElem?_append_left hj] at hu
        obtain ⟨b, off, rfl, h2⟩ := h 0 r rfl
        have := h2 j u hu
        rw [Addr.add_mid, ← Nat.add_assoc]
        simpa using this
      · rw [List.getElem?_append_right hj] at hu
        have := ih (o + 1) (fun r hm => hl r (by simp [hm])) (fun k cs hk => by
          obtain ⟨b, off, h1, h2⟩ := h (k + 1) cs hk
          exact ⟨b, off, h1, by rw [show o + 1 + k = o + (k + 1) by omega]; exact h2⟩) (j - r.length) u hu
        rw [Nat.add_mul, Nat.one_mul, ← hr, Nat.add_assoc, show r.length + (j - r.length) = j by omega] at this
        rw [← hr]
        exact this
  intro j u hu
  have := key rows 0 hl (fun k cs hk => by
    obtain ⟨b, off, h1, h2⟩ := h k cs hk
    exact ⟨b, off, Option.some.inj h1, by rw [Nat.zero_add]; exact h2⟩) j u hu
  simpa using this
end
end Go.Proofs.YtbgnapmaimkpkaaGreatDoor
