/-
  WALK2. make([]T, 0, n); append of a slice of the caller's that may be nil. Conditions: sizes.
-/
import Derived.Test.YtmfdpnjgljlkbaaDoorVcZ
set_option linter.unusedSimpArgs false
set_option linter.unusedVariables false
namespace Go.Proofs.YtmfdpnjgljlkbaaDoor
open Go.RowKit
variable {P : Program} {l : List Oper} {Q : Exit → Act → World → Prop} {N : Nat} {a : Act} {env : List (Nat × Value)} {rest : List Oper} {d : Tmp} {ty : TypeId} {pos : String} {af : Array Edge} {g : Option (Nat × Bool)}
  {w0 w : World} {row : Option Nat} {rs : List Res} {Kt : Act → World → Prop}
theorem sMkC {t e : TypeId} {x y : Operand} {ti : TypeInfo} {z : Value} {sz bytes c : Nat} {k k' : IntKind} (H : Own w0 row w rs) (ht : P.underlying t = some (.slice e)) (hi : ∀ w, (typeInfo e).run P w = .ok ti w) (hz : ti.zero = some z) (hsize : ti.size = sz) (hby : ti.bytes = bytes)
    (F : Has N a env) (hg : wants l env g = true) (hN : Nat.blt d N = true) (hx : ev env x = some (.int k 0)) (hy : ev env y = some (.int k' (c : Int))) (hb : bytes * c ≤ 281474976710656) (h63 : c ≤ maxLen)
    (K : ∀ b a w, Has N a ((d, .slice (some ⟨b, 0, none⟩) 0 c) :: env) → Own w0 row w (.rws e sz (.slice (some ⟨b, 0, none⟩) 0 c) [] :: rs) → wpList P l.toArray Q rest a w) : wpList P l.toArray Q (⟨some d, .makeSlice t x y, ty, pos, af, g⟩ :: rest) a w := by
  have h63' : (c : Int) ≤ 9223372036854775807 := by
    have h := h63
    simp [maxLen] at h
    omega
  have hb' : (ti.bytes : Int) * (c : Int) ≤ 281474976710656 := by
    have h : ((ti.bytes * c : Nat) : Int) ≤ 281474976710656 := by rw [hby]; omega
    rwa [Int.natCast_mul] at h
  have h2 := run_make (P := P) w t e ti z ht (info_of hi) hz k k' 0 c (Int.le_refl _) (by omega) hb' h63'
  simp only [Int.toNat_zero, Int.toNat_natCast] at h2
  have h3 : (execOp a.eval ⟨some d, .makeSlice t x y, ty, pos, af, g⟩).run P w = .ok (.value (.slice (some ⟨w.heap.size, 0, none⟩) 0 c)) (w.alloc (.cells (madeCells z.cells (c * ti.size)) e)) := by
    simp only [execOp, F.eval hx, F.eval hy, Sem.run_bind, h2]
    rfl
  subst hsize
  exact stepV F hg rfl hN h3 (fun _ F' => K _ _ _ F' ((H.alloc (madeCells z.cells (c * ti.size)) e).seen _ (World.ownsRow_made w _ c (Nat.zero_le _) h63 (size_madeCells _ _)) (fun b hb => by
    have : w.heap.size = b := by simpa [Res.rws, Res.arr, Value.ownBlock] using hb
    exact this.symm)))
/-- Nothing appended to a slice of the function's own. -/
theorem app_none {t e ty : TypeId} {i : TypeInfo} {size n c : Nat} {v : Value} {xs : List Value} (ht : P.underlying t = some (.slice e)) (hi : P.info? e = some i) (ho : w.ownsRow 0 e size v n xs) :
    (Builtin.append_ #[t, t] ty #[v, .slice none 0 c]).run P w = .ok v w := by
  rcases ho.2 with ⟨h1, h2⟩ | ⟨g, cap, cur, h1, _, _, hnc, _⟩
  · subst h1
    simp [Builtin.append_, run_underlying ht, sizeOf, typeInfo, hi, Builtin.lenOf, Builtin.firstCells]
  · subst h1
    simp [Builtin.append_, run_underlying ht, sizeOf, typeInfo, hi, Builtin.lenOf, Builtin.firstCells, hnc, storeCells]
/-- append(own, theirs...): theirs may be nil. -/
theorem appO_run {t e : TypeId} {v : Value} {rows news : List (List Value)} {A0 : Option Addr} {m c : Nat} {ti : TypeInfo} {z : Value} {sz bytes : Nat} (H : Own w0 row w rs) (i : Nat) (ht : P.underlying t = some (.slice e))
    (hi : ∀ w, (typeInfo e).run P w = .ok ti w) (hz : ti.zero = some z) (hsize : ti.size = sz) (hby : ti.bytes = bytes) (hzs : z.cells.size = sz) (hsz : Nat.blt 0 sz = true) (hb1 : Nat.blt 0 bytes = true)
    (hr : rs[i]? = some (.rws e sz v rows)) (hm : news.length = m) (hnews : RowsAt w A0 sz news) (hl : ∀ r ∈ news, r.length = sz) (h1 : ∀ r ∈ news, r.all (·.oneCell') = true) (hb : (rows.length + m) * bytes ≤ 140737488355328) (ty : TypeId) :
    ∃ A c' w', (Builtin.append_ #[t, t] ty #[v, .slice A0 m c]).run P w = .ok (.slice A (rows ++ news).length c') w' ∧ Own w0 row w' (rs.set i (.rws e sz (.slice A (rows ++ news).length c') (rows ++ news))) := by
  cases A0 with
  | some ad => exact appM_run H i ht hi hz hsize hby hzs hsz hb1 hr hm (hnews.flat hl) hl h1 hb ty
  | none =>
    obtain rfl : news = [] := by
      cases news with
      | nil => rfl
      | cons r rs =>
        obtain ⟨b, o, he, _⟩ := hnews 0 r rfl
        cases he
    obtain rfl : 0 = m := hm
    have ho := H.arr i hr
    have h2 := app_none (ty := ty) (c := c) ht (info_of hi) ho
    obtain ⟨A, c', rfl⟩ : ∃ A c', v = .slice A rows.length c' := by
      rcases ho.2 with ⟨h2, h3⟩ | ⟨g, cap, cur, h2, _⟩
      · exact ⟨none, 0, by rw [h3]; exact h2⟩
      · exact ⟨_, cap, h2⟩
    have e2 : rs.set i (.rws e sz (.slice A rows.length c') rows) = rs := by
      obtain ⟨hi2, he⟩ := List.getElem?_eq_some_iff.1 hr
      rw [← he]
      exact List.set_getElem_self hi2
    refine ⟨A, c', w, ?_, ?_⟩
    · rw [List.append_nil]; exact h2
    · rw [List.append_nil, e2]; exact H
theorem sAppO {t e : TypeId} {s x : Operand} {v : Value} {rows news : List (List Value)} {A0 : Option Addr} {m c : Nat} {ti : TypeInfo} {z : Value} {sz bytes : Nat} (H : Own w0 row w rs) (i : Nat) (ht : P.underlying t = some (.slice e))
    (hi : ∀ w, (typeInfo e).run P w = .ok ti w) (hz : ti.zero = some z) (hsize : ti.size = sz) (hby : ti.bytes = bytes) (hzs : z.cells.size = sz) (hsz : Nat.blt 0 sz = true) (hb1 : Nat.blt 0 bytes = true)
    (F : Has N a env) (hg : wants l env g = true) (hN : Nat.blt d N = true) (hs : ev env s = some v) (hx : ev env x = some (.slice A0 m c))
    (hr : rs[i]? = some (.rws e sz v rows)) (hm : news.length = m) (hnews : RowsAt w A0 sz news) (hl : ∀ r ∈ news, r.length = sz) (h1 : ∀ r ∈ news, r.all (·.oneCell') = true) (hb : (rows.length + m) * bytes ≤ 140737488355328)
    (K : ∀ A c a w, Has N a ((d, .slice A (rows ++ news).length c) :: env) → Own w0 row w (rs.set i (.rws e sz (.slice A (rows ++ news).length c) (rows ++ news))) → wpList P l.toArray Q rest a w) :
    wpList P l.toArray Q (⟨some d, .call ⟨.builtin .append, #[s, x], #[t, t]⟩, ty, pos, af, g⟩ :: rest) a w := by
  obtain ⟨A, c', w', h2, h3⟩ := appO_run (P := P) (c := c) H i ht hi hz hsize hby hzs hsz hb1 hr hm hnews hl h1 hb ty
  exact stepV F hg rfl hN (app_exec (ty' := ty) F hs hx h2) (fun a F' => K A c' a w' F' h3)
theorem oAppO {t e : TypeId} {s x : Operand} {v : Value} {rows news : List (List Value)} {A0 : Option Addr} {m c : Nat} {ti : TypeInfo} {z : Value} {sz bytes : Nat} (H : Own w0 row w rs) (i : Nat) (ht : P.underlying t = some (.slice e))
    (hi : ∀ w, (typeInfo e).run P w = .ok ti w) (hz : ti.zero = some z) (hsize : ti.size = sz) (hby : ti.bytes = bytes) (hzs : z.cells.size = sz) (hsz : Nat.blt 0 sz = true) (hb1 : Nat.blt 0 bytes = true)
    (F : Has N a env) (hN : Nat.blt d N = true) (hs : ev env s = some v) (hx : ev env x = some (.slice A0 m c))
    (hr : rs[i]? = some (.rws e sz v rows)) (hm : news.length = m) (hnews : RowsAt w A0 sz news) (hl : ∀ r ∈ news, r.length = sz) (h1 : ∀ r ∈ news, r.all (·.oneCell') = true) (hb : (rows.length + m) * bytes ≤ 140737488355328)
    (K : ∀ A c a w, Has N a ((d, .slice A (rows ++ news).length c) :: env) → Own w0 row w (rs.set i (.rws e sz (.slice A (rows ++ news).length c) (rows ++ news))) → Kt a w) :
    (Oper.mk (some d) (.call ⟨.builtin .append, #[s, x], #[t, t]⟩) ty pos af g).wp P a w Kt Q := by
  obtain ⟨A, c', w', h2, h3⟩ := appO_run (P := P) (c := c) H i ht hi hz hsize hby hzs hsz hb1 hr hm hnews hl h1 hb ty
  exact oV F rfl hN (app_exec (ty' := ty) F hs hx h2) (fun a F' => K A c' a w' F' h3)
end Go.Proofs.YtmfdpnjgljlkbaaDoor
