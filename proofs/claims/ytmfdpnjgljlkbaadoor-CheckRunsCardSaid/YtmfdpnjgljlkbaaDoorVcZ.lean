/-
  append of many elements of the caller's; slices beside nil; an empty slice of the function's own; two parts of memory made one. Conditions: none.
-/
import Derived.Test.YtmfdpnjgljlkbaaDoorVcY
import Derived.Lib.BufferMore
set_option linter.unusedSimpArgs false
set_option linter.unusedVariables false
namespace Go.Proofs.YtmfdpnjgljlkbaaDoor
open Go.RowKit
section
variable {P : Program} {l : List Oper} {Q : Exit → Act → World → Prop} {N : Nat} {a : Act} {env : List (Nat × Value)} {rest : List Oper} {d : Tmp} {ty : TypeId} {pos : String} {af : Array Edge} {g : Option (Nat × Bool)}
  {w0 w : World} {row : Option Nat} {rs : List Res} {Kt : Act → World → Prop}
/-- Two parts become one. -/
theorem Own.fuse {r s : Res} (H : Own w0 row w (r :: s :: rs)) (r' : Res) (hp : r'.pred w) (hf : ∀ b, r'.foot b → r.foot b ∨ s.foot b) : Own w0 row w (r' :: rs) where
  grown := H.grown
  pred := fun i q hi => by
    cases i with
    | zero => cases hi; exact hp
    | succ i => exact H.pred (i + 2) q hi
  foot := fun i q hi b hb => by
    cases i with
    | zero =>
      cases hi
      rcases hf b hb with h | h
      · exact H.foot 0 r rfl b h
      · exact H.foot 1 s rfl b h
    | succ i => exact H.foot (i + 2) q hi b hb
  apart := fun i j q u hi hj hij b h1 h2 => by
    cases i with
    | zero =>
      cases hi
      cases j with
      | zero => exact hij rfl
      | succ j =>
        rcases hf b h1 with h | h
        · exact H.apart 0 (j + 2) r u rfl hj (by omega) b h h2
        · exact H.apart 1 (j + 2) s u rfl hj (by omega) b h h2
    | succ i =>
      cases j with
      | zero =>
        cases hj
        rcases hf b h2 with h | h
        · exact H.apart 0 (i + 2) r q rfl hi (by omega) b h h1
        · exact H.apart 1 (i + 2) s q rfl hi (by omega) b h h1
      | succ j => exact H.apart (i + 2) (j + 2) q u hi hj (by omega) b h1 h2
/-- A part of no blocks. -/
theorem Own.void (H : Own w0 row w rs) (r : Res) (hp : r.pred w) (hf : ∀ b, ¬ r.foot b) : Own w0 row w (r :: rs) :=
  H.add r (Below.refl _ _) hp (fun b hb => absurd hb (hf b))
/-- The newest part, seen otherwise. -/
theorem Own.seen {r : Res} (H : Own w0 row w (r :: rs)) (r' : Res) (hp : r'.pred w) (hf : ∀ b, r'.foot b → r.foot b) : Own w0 row w (r' :: rs) :=
  (H.void ⟨fun _ => False, fun _ => True, fun _ _ _ _ => trivial⟩ trivial (fun _ h => h)).fuse r' hp (fun b hb => .inr (hf b hb))
theorem Own.emptyRws {b : Nat} {e : TypeId} (H : Own w0 row w (.blk b [] e :: rs)) (sz : Nat) : Own w0 row w (.rws e sz (.slice (some ⟨b, 0, .none⟩) 0 0) [] :: rs) :=
  H.seen _ (show w.ownsRow 0 e sz (.slice (some ⟨b, 0, .none⟩) 0 0) 0 [] from ⟨by simp, .inr ⟨b, 0, #[], rfl, Nat.zero_le _, H.blk 0 rfl, Nat.le_refl _, Nat.zero_le _, by simp, by simp⟩⟩)
    (fun c hc => by
      have : b = c := by simpa [Res.rws, Res.arr, Value.ownBlock] using hc
      exact this.symm)
theorem appM_run {t e : TypeId} {v : Value} {rows news : List (List Value)} {ad : Addr} {m c : Nat} {ti : TypeInfo} {z : Value} {sz bytes : Nat} (H : Own w0 row w rs) (i : Nat) (ht : P.underlying t = some (.slice e))
    (hi : ∀ w, (typeInfo e).run P w = .ok ti w) (hz : ti.zero = some z) (hsize : ti.size = sz) (hby : ti.bytes = bytes) (hzs : z.cells.size = sz) (hsz : Nat.blt 0 sz = true) (hb1 : Nat.blt 0 bytes = true)
    (hr : rs[i]? = some (.rws e sz v rows)) (hm : news.length = m) (hnews : ∀ j u, news.flatten[j]? = some u → w.cell? (ad.add j) = some u) (hl : ∀ r ∈ news, r.length = sz) (h1 : ∀ r ∈ news, r.all (·.oneCell') = true) (hb : (rows.length + m) * bytes ≤ 140737488355328) (ty : TypeId) :
    ∃ A c' w', (Builtin.append_ #[t, t] ty #[v, .slice (some ad) m c]).run P w = .ok (.slice A (rows ++ news).length c') w' ∧ Own w0 row w' (rs.set i (.rws e sz (.slice A (rows ++ news).length c') (rows ++ news))) := by
  have hsz' := Nat.blt_eq.mp hsz
  have hb1' := Nat.blt_eq.mp hb1
  have hfl : ∀ (q : List (List Value)), (∀ r ∈ q, r.length = sz) → q.flatten.length = q.length * sz := by
    intro q hq
    induction q with
    | nil => simp
    | cons r0 rest ih => rw [List.flatten_cons, List.length_append, ih (fun r hm => hq r (by simp [hm])), hq r0 (by simp), List.length_cons, Nat.add_mul]; omega
  have hlen : rows.length + m ≤ 140737488355328 := Nat.le_trans (Nat.le_mul_of_pos_right _ hb1') hb
  obtain ⟨v', w', hrun, hown, hgr, _, hat⟩ := run_append_own_at (P := P) w 0 t ty e ti z sz bytes ht (info_of hi) hz hsize hby hzs hsz' v rows.length rows.flatten (H.arr i hr) ad m c news.flatten (by rw [hfl news hl, hm])
    hnews (fun u hu => by
      obtain ⟨r, hr1, hr2⟩ := List.mem_flatten.1 hu
      exact (List.all_eq_true.1 (h1 r hr1)) u hr2) (by simp only [maxLen]; omega) hb (Nat.zero_le _)
  have e1 : (rows ++ news).length = rows.length + m := by rw [List.length_append, hm]
  obtain ⟨A, c', rfl⟩ : ∃ A c', v' = .slice A (rows ++ news).length c' := by
    rcases hown.2 with ⟨h2, h3⟩ | ⟨g, cap, cur, h2, _⟩
    · exact ⟨none, 0, by rw [e1, h3]; exact h2⟩
    · exact ⟨_, cap, by rw [e1]; exact h2⟩
  refine ⟨A, c', w', hrun, ?_⟩
  have hlt : ∀ k, (Value.slice A (rows ++ news).length c').ownBlock = some k → k < w'.heap.size := fun k hk => (hown.lt k hk).2
  refine H.turn i hr _ ?_ hgr.size (fun b hb hnb => hgr.block b hb (fun e => hnb (show v.ownBlock = some b from e.symm))) ?_ ?_
  · refine ⟨hgr.os.trans H.grown.os, hgr.tape.trans H.grown.tape, hgr.output.trans H.grown.output, Nat.le_trans H.grown.size hgr.size, fun k hk hne => ?_⟩
    refine (hgr.block k (Nat.lt_of_lt_of_le hk H.grown.size) (fun e => ?_)).trans (H.grown.block k hk hne)
    rcases (H.foot i _ hr k (show v.ownBlock = some k from e.symm)).1 with h | h
    · exact absurd hk (by omega)
    · exact hne h
  · show w'.ownsRow 0 e sz _ (rows ++ news).length (rows ++ news).flatten
    rw [List.flatten_append]
    rw [e1] at hown ⊢
    exact hown
  · intro b hb
    have hb : (Value.slice A (rows ++ news).length c').ownBlock = some b := hb
    refine ⟨?_, hlt b hb⟩
    rcases hat with h | h
    · exact .inl (show v.ownBlock = some b from h ▸ hb)
    · rw [hb] at h
      cases h
      exact .inr (Nat.le_refl _)
theorem sAppM {t e : TypeId} {s x : Operand} {v : Value} {rows news : List (List Value)} {ad : Addr} {m c : Nat} {ti : TypeInfo} {z : Value} {sz bytes : Nat} (H : Own w0 row w rs) (i : Nat) (ht : P.underlying t = some (.slice e))
    (hi : ∀ w, (typeInfo e).run P w = .ok ti w) (hz : ti.zero = some z) (hsize : ti.size = sz) (hby : ti.bytes = bytes) (hzs : z.cells.size = sz) (hsz : Nat.blt 0 sz = true) (hb1 : Nat.blt 0 bytes = true)
    (F : Has N a env) (hg : wants l env g = true) (hN : Nat.blt d N = true) (hs : ev env s = some v) (hx : ev env x = some (.slice (some ad) m c))
    (hr : rs[i]? = some (.rws e sz v rows)) (hm : news.length = m) (hnews : ∀ j u, news.flatten[j]? = some u → w.cell? (ad.add j) = some u) (hl : ∀ r ∈ news, r.length = sz) (h1 : ∀ r ∈ news, r.all (·.oneCell') = true) (hb : (rows.length + m) * bytes ≤ 140737488355328)
    (K : ∀ A c a w, Has N a ((d, .slice A (rows ++ news).length c) :: env) → Own w0 row w (rs.set i (.rws e sz (.slice A (rows ++ news).length c) (rows ++ news))) → wpList P l.toArray Q rest a w) :
    wpList P l.toArray Q (⟨some d, .call ⟨.builtin .append, #[s, x], #[t, t]⟩, ty, pos, af, g⟩ :: rest) a w := by
  obtain ⟨A, c', w', h2, h3⟩ := appM_run (P := P) (c := c) H i ht hi hz hsize hby hzs hsz hb1 hr hm hnews hl h1 hb ty
  exact stepV F hg rfl hN (app_exec (ty' := ty) F hs hx h2) (fun a F' => K A c' a w' F' h3)
theorem bNil {t e : TypeId} {x y : Operand} {A : Option Addr} {n c : Nat} (ht : P.underlying t = some (.slice e)) : BinR P .eql t x y (.slice A n c) (.slice none 0 0) (.bool A.isNone) := fun w => by
  have h0 : (eqGuard .eql t x y (.slice A n c) (.slice none 0 0)).run P w = .ok () w := by
    simp [eqGuard, run_underlying ht, go_sem]
  cases A with
  | none => simp only [Sem.run_bind, h0, Result.andThen_ok]; exact Lib.run_eql_slice_nil_nil w _ _ ht
  | some a => simp only [Sem.run_bind, h0, Result.andThen_ok]; exact Lib.run_eql_slice_some_nil w a _ _ ht
theorem eFour {S : World → Prop} {k i j n p : Nat} {m : List Bool} {oi oj on op : Oper} (ht : readyR l m k [i, j, n, p] = true) (F : Has N a env) (hi : opAt l i = some oi) (hj : opAt l j = some oj) (hn : opAt l n = some on) (hp : opAt l p = some op) (hgi : wants l env oi.guard = true) (hgj : wants l env oj.guard = true) (hgn : wants l env on.guard = true) (hgp : wants l env op.guard = true)
    (h1 : oi.wp P a w (Ke P l Q S k m i) Q) (h2 : oj.wp P a w (Ke P l Q S k m j) Q) (h3 : on.wp P a w (Ke P l Q S k m n) Q) (h4 : op.wp P a w (Ke P l Q S k m p) Q) : wpR P l Q S k m a w :=
  eSplit ht (fun q hq => by
    simp only [List.mem_cons, List.not_mem_nil, or_false] at hq
    rcases hq with rfl | rfl | rfl | rfl
    · exact ⟨oi, hi, hgi, h1⟩
    · exact ⟨oj, hj, hgj, h2⟩
    · exact ⟨on, hn, hgn, h3⟩
    · exact ⟨op, hp, hgp, h4⟩) rfl F
theorem eFive {S : World → Prop} {k i j n p s : Nat} {m : List Bool} {oi oj on op os : Oper} (ht : readyR l m k [i, j, n, p, s] = true) (F : Has N a env) (hi : opAt l i = some oi) (hj : opAt l j = some oj) (hn : opAt l n = some on) (hp : opAt l p = some op) (hs : opAt l s = some os) (hgi : wants l env oi.guard = true) (hgj : wants l env oj.guard = true) (hgn : wants l env on.guard = true) (hgp : wants l env op.guard = true) (hgs : wants l env os.guard = true)
    (h1 : oi.wp P a w (Ke P l Q S k m i) Q) (h2 : oj.wp P a w (Ke P l Q S k m j) Q) (h3 : on.wp P a w (Ke P l Q S k m n) Q) (h4 : op.wp P a w (Ke P l Q S k m p) Q) (h5 : os.wp P a w (Ke P l Q S k m s) Q) : wpR P l Q S k m a w :=
  eSplit ht (fun q hq => by
    simp only [List.mem_cons, List.not_mem_nil, or_false] at hq
    rcases hq with rfl | rfl | rfl | rfl | rfl
    · exact ⟨oi, hi, hgi, h1⟩
    · exact ⟨oj, hj, hgj, h2⟩
    · exact ⟨on, hn, hgn, h3⟩
    · exact ⟨op, hp, hgp, h4⟩
    · exact ⟨os, hs, hgs, h5⟩) rfl F
theorem oBsR {t e : TypeId} {size : Nat} {parts : List (Nat × Operand)} {rows : List (List Value)} {z : Value} (H : Own w0 row w rs) (ht : P.underlying t = some (.slice e)) (hs : ∀ w, (sizeOf e).run P w = .ok size w) (hz : ∀ w, (zeroValue e).run P w = .ok z w) (hzs : z.cells.size = size)
    (F : Has N a env) (hN : Nat.blt d N = true) (he : evP env parts = some (numP rows 0)) (hn : Nat.ble (rows.length * size) 16777216 = true) (hr : (rows.all fun r => Nat.beq r.length size) = true)
    (K : ∀ b a w, Has N a ((d, .slice (some ⟨b, 0, .none⟩) rows.length rows.length) :: env) → Own w0 row w (.blk b rows.flatten e :: rs) → Kt a w) : (Oper.mk (some d) (.buildSlice t rows.length parts.toArray) ty pos af g).wp P a w Kt Q :=
  oBs H ht hs hz hzs F hN he hn (fill_rows (size := size) (by rw [Array.length_toList]; exact hzs) rows 0 [] (by simp) (fun r hm => Nat.eq_of_beq_eq_true (List.all_eq_true.1 hr r hm))) K
/-- A struct and a plain value as the results. -/
theorem bRetC1 {fn : Func} {R : Ending → World → Prop} {t u : Tmp} {st : TypeId} {b n : Nat} {cs : List Value} {bt : TypeId} {dd : TypeDesc} {y : Value} (hres : fn.results = #[.cell t st, .tmp u]) (F : Has N a env) (hv : lk env t = some (.pointer (some ⟨b, 0, .none⟩))) (hy : lk env u = some y)
    (hu : P.underlying st = some dd) (hdd : dd.isRow = true) (H : Own w0 row w rs) (i : Nat) (hi : rs[i]? = some (.blk b cs bt)) (hz : ∀ w, (sizeOf st).run P w = .ok n w) (hn : Nat.beq cs.length n = true) (h : R (.returned (.tuple #[.agg cs.toArray, y])) w) : bodyPost P fn R .ret a w :=
  bodyPost_ret (results_own_tmp hres F hv hy hu hdd (by rw [Nat.eq_of_beq_eq_true hn]; exact info_size hz) (H.blk i hi)) F.nod h
/-- Rows that lie at a place, cell by cell. -/
theorem RowsAt.flat {w : World} {A : Addr} {sz : Nat} {rows : List (List Value)} (h : RowsAt w (some A) sz rows) (hl : ∀ r ∈ rows, r.length = sz) : ∀ j u, rows.flatten[j]? = some u → w.cell? (A.add j) = some u := by
  have key : ∀ (rows : List (List Value)) (o : Nat), (∀ r ∈ rows, r.length = sz) → (∀ (j : Nat) (cs : List Value), rows[j]? = some cs → ∃ b off, A = ⟨b, off, none⟩ ∧ w.rangeAt b (off + (o + j) * sz) cs) → ∀ j u, rows.flatten[j]? = some u → w.cell? (A.add (o * sz + j)) = some u := by
    intro rows
    induction rows with
    | nil => intro o _ _ j u hu; simp at hu
    | cons r rest ih =>
      intro o hl h j u hu
      have hr : r.length = sz := hl r (by simp)
      rw [List.flatten_cons] at hu
      rcases Nat.lt_or_ge j r.length with hj | hj
      · rw [List.getElem?_append_left hj] at hu
        obtain ⟨b, off, rfl, h2⟩ := h 0 r rfl
        have := h2 j u hu
        rw [Addr.add_mid, ← Nat.add_assoc]
        simpa using this
      · rw [List.getElem?_append_right hj] at hu
        have := ih (o + 1) (fun r hm => hl r (by simp [hm])) (fun k cs hk => by
          obtain ⟨b, off, h1, h2⟩ := h (k + 1) cs hk
          exact ⟨b, off, h1, by rw [show o + 1 + k = o + (k + 1) by omega]; exact h2⟩) (j - r.length) u hu
        rw [Nat.add_mul, Nat.one_mul, ← hr, Nat.add_assoc, show r.length + (j - r.length) = j by omega] at this
        rw [← hr]
        exact this
  intro j u hu
  have := key rows 0 hl (fun k cs hk => by
    obtain ⟨b, off, h1, h2⟩ := h k cs hk
    exact ⟨b, off, Option.some.inj h1, by rw [Nat.zero_add]; exact h2⟩) j u hu
  simpa using this
end
end Go.Proofs.YtmfdpnjgljlkbaaDoor
