/-
  WALK2. A row of slices of bytes, each on a block of its own. Conditions: none.
-/
import Derived.Test.YtbdjlmdejlklkaaVcN
set_option linter.unusedSimpArgs false
set_option linter.unusedVariables false
namespace Go.Proofs.Ytbdjlmdejlklkaa
open Go.RowKit
def byR (l : List UInt8) : List (List Value) := l.map fun x => [b8 x]
theorem byR_len (l : List UInt8) : (byR l).length = l.length := by simp [byR]
def setF {α : Type} (f : Nat → α) (t : Nat) (v : α) : Nat → α := fun i => if i = t then v else f i
theorem setF_at {α : Type} (f : Nat → α) (t : Nat) (v : α) : setF f t v t = v := if_pos rfl
theorem setF_ne {α : Type} (f : Nat → α) {t u : Nat} (v : α) (h : u ≠ t) : setF f t v u = f u := if_neg h
/-- The headers of n slices. -/
def hdL (n : Nat) (hd : Nat → Value) : List Value := (List.range n).map hd
theorem hdL_at {n t : Nat} {hd : Nat → Value} (h : t < n) : (hdL n hd)[t]? = some (hd t) := by simp [hdL, h]
theorem hdL_len (n : Nat) (hd : Nat → Value) : (hdL n hd).length = n := by simp [hdL]
theorem hdL_rep (n : Nat) (v : Value) : List.replicate n v = hdL n (fun _ => v) := by
  apply List.ext_getElem?
  intro i
  rcases Nat.lt_or_ge i n with h | h
  · rw [hdL_at h]; simp [h]
  · rw [List.getElem?_eq_none (by simpa using h), List.getElem?_eq_none (by rw [hdL_len]; exact h)]
theorem hdL_set {n t : Nat} {hd : Nat → Value} (v : Value) (h : t < n) : (hdL n hd).set t v = hdL n (setF hd t v) := by
  apply List.ext_getElem?
  intro i
  rw [List.getElem?_set]
  rcases Nat.lt_or_ge i n with hi | hi
  · rw [hdL_at hi, hdL_at hi]
    by_cases e : t = i
    · subst e
      rw [if_pos rfl, if_pos (by rw [hdL_len]; exact h), setF_at]
    · rw [if_neg e, setF_ne _ _ (fun h => e h.symm)]
  · have e : t ≠ i := by omega
    rw [if_neg e, List.getElem?_eq_none (by rw [hdL_len]; exact hi), List.getElem?_eq_none (by rw [hdL_len]; exact hi)]
section
variable {P : Program} {l : List Oper} {Q : Exit → Act → World → Prop} {N : Nat} {a : Act} {env : List (Nat × Value)} {rest : List Oper} {d : Tmp} {ty : TypeId} {pos : String} {af : Array Edge} {g : Option (Nat × Bool)}
  {w0 w : World} {row : Option Nat} {rs : List Res} {Kt : Act → World → Prop}
/-- n slices of bytes, apart. -/
def gridP (e : TypeId) (n : Nat) (hd : Nat → Value) (ls : Nat → List UInt8) (w : World) : Prop :=
  (∀ t, t < n → winP e 1 (hd t) (byR (ls t)) w) ∧ (∀ t u, t < n → u < n → t ≠ u → ∀ b, (hd t).ownBlock = some b → (hd u).ownBlock ≠ some b)
def Res.grid (e : TypeId) (n : Nat) (hd : Nat → Value) (ls : Nat → List UInt8) : Res where
  foot := fun b => ∃ t, t < n ∧ (hd t).ownBlock = some b
  pred := gridP e n hd ls
  loc := fun w w' h hp => ⟨fun t ht => (Res.win e 1 (hd t) (byR (ls t))).loc w w' (fun b hb => h b ⟨t, ht, hb⟩) (hp.1 t ht), hp.2⟩
theorem Own.nilGrid (H : Own w0 row w rs) (e : TypeId) (n : Nat) : Own w0 row w (.grid e n (fun _ => .slice Option.none 0 0) (fun _ => []) :: rs) :=
  H.void _ ⟨fun t _ => winP.nil e 1 w, fun t u _ _ _ b hb => by simp [Value.ownBlock] at hb⟩ (fun b ⟨t, _, hb⟩ => by simp [Value.ownBlock] at hb)
theorem Own.gridAt (H : Own w0 row w rs) (i : Nat) {e : TypeId} {n : Nat} {hd : Nat → Value} {ls : Nat → List UInt8} (hi : rs[i]? = some (.grid e n hd ls)) : gridP e n hd ls w := H.pred i _ hi
/-- A lane's header. -/
theorem Own.lane (H : Own w0 row w rs) (i : Nat) {e : TypeId} {n t : Nat} {hd : Nat → Value} {ls : Nat → List UInt8} (hi : rs[i]? = some (.grid e n hd ls)) (ht : t < n) : ∃ A c, hd t = .slice A (ls t).length c ∧ (ls t).length ≤ c ∧ c ≤ maxLen := by
  have h := (H.gridAt i hi).1 t ht
  rcases h.2 with ⟨h1, h2⟩ | ⟨g, off, cap, cur, h1, _, h3, h4, _⟩
  · have : ls t = [] := by simpa [byR] using h2
    exact ⟨Option.none, 0, by rw [h1, this]; rfl, by rw [this]; exact Nat.le_refl _, Nat.zero_le _⟩
  · rw [byR_len] at h1 h3
    exact ⟨_, cap, h1, h3, h4⟩
theorem Own.laneAt (H : Own w0 row w rs) (i : Nat) {e : TypeId} {n t c m : Nat} {A : Option Addr} {hd : Nat → Value} {ls : Nat → List UInt8} (hi : rs[i]? = some (.grid e n hd ls)) (ht : t < n) (he : hd t = .slice A m c) : RowsAt w A 1 (byR (ls t)) := by
  have h := (H.gridAt i hi).1 t ht
  rw [he] at h
  exact h.at
theorem grid_turn {e : TypeId} {n t : Nat} {hd : Nat → Value} {ls : Nat → List UInt8} {v : Value} {q : List UInt8} {w w' : World} (hG : gridP e n hd ls w) (ht : t < n) (hw : winP e 1 v (byR q) w') (hb : ∀ b, b < w.heap.size → (hd t).ownBlock ≠ some b → w'.heap[b]? = w.heap[b]?)
    (hlt : ∀ u b, u < n → (hd u).ownBlock = some b → b < w.heap.size) (hv : ∀ b, v.ownBlock = some b → (hd t).ownBlock = some b ∨ w.heap.size ≤ b) : gridP e n (setF hd t v) (setF ls t q) w' := by
  refine ⟨fun u hu => ?_, fun u u' hu hu' hne b h1 h2 => ?_⟩
  · by_cases e1 : u = t
    · subst e1; rw [setF_at, setF_at]; exact hw
    · rw [setF_ne _ _ e1, setF_ne _ _ e1]
      exact (Res.win e 1 (hd u) (byR (ls u))).loc w w' (fun b hb' => hb b (hlt u b hu hb') (fun h => hG.2 u t hu ht e1 b hb' h)) (hG.1 u hu)
  · by_cases e1 : u = t
    · subst e1
      rw [setF_at] at h1
      rw [setF_ne _ _ (fun e => hne e.symm)] at h2
      rcases hv b h1 with h | h
      · exact hG.2 u u' hu hu' hne b h h2
      · have := hlt u' b hu' h2; omega
    · rw [setF_ne _ _ e1] at h1
      by_cases e2 : u' = t
      · subst e2
        rw [setF_at] at h2
        rcases hv b h2 with h | h
        · exact hG.2 u u' hu hu' hne b h1 h
        · have := hlt u b hu h1; omega
      · rw [setF_ne _ _ e2] at h2
        exact hG.2 u u' hu hu' hne b h1 h2
/-- rows[t][1:] -/
theorem Own.laneFrom (H : Own w0 row w rs) (i : Nat) {e : TypeId} {n t c m k : Nat} {A : Option Addr} {hd : Nat → Value} {ls : Nat → List UInt8} (hi : rs[i]? = some (.grid e n hd ls)) (ht : t < n) (he : hd t = .slice A m c) (hk : k ≤ m) :
    Own w0 row w (rs.set i (.grid e n (setF hd t (.slice (if c = k then A else A.map (·.add (k * 1))) (m - k) (c - k))) (setF ls t ((ls t).drop k)))) := by
  have hG := H.gridAt i hi
  have h := hG.1 t ht
  rw [he] at h
  have h2 := h.from hk
  rw [show (byR (ls t)).drop k = byR ((ls t).drop k) from (List.map_drop ..).symm] at h2
  have hv : ∀ b, (Value.slice (if c = k then A else A.map (·.add (k * 1))) (m - k) (c - k)).ownBlock = some b → (hd t).ownBlock = some b := fun b hb => by
    rw [he]
    cases A with
    | none => simp [Value.ownBlock] at hb
    | some p =>
      have hp : (p.add k).block = p.block := by unfold Addr.add; split <;> rfl
      split at hb
      · exact hb
      · simpa [Value.ownBlock, hp] using hb
  have hlt : ∀ u b, u < n → (hd u).ownBlock = some b → b < w.heap.size := fun u b hu hb => (H.foot i _ hi b ⟨u, hu, hb⟩).2
  refine H.reseen i hi _ (grid_turn hG ht h2 (fun _ _ _ => rfl) hlt (fun b hb => .inl (hv b hb))) ?_
  rintro b ⟨u, hu, hb⟩
  by_cases e1 : u = t
  · subst e1; rw [setF_at] at hb; exact ⟨u, hu, hv b hb⟩
  · rw [setF_ne _ _ e1] at hb; exact ⟨u, hu, hb⟩
theorem lane_run {tt e : TypeId} {v : Value} {x : UInt8} {ad : Addr} {c : Nat} {ti : TypeInfo} {z : Value} {n t : Nat} {hd : Nat → Value} {ls : Nat → List UInt8} (H : Own w0 row w rs) (i : Nat) (hu : P.underlying tt = some (.slice e))
    (hi : ∀ w, (typeInfo e).run P w = .ok ti w) (hz : ti.zero = some z) (hsize : ti.size = 1) (hby : ti.bytes = 1) (hzs : z.cells.size = 1)
    (hr : rs[i]? = some (.grid e n hd ls)) (ht : t < n) (he : hd t = v) (hnews : w.cell? ad = some (b8 x)) (hb : (ls t).length + 1 ≤ 140737488355328) (ty : TypeId) :
    ∃ A c' w', (Builtin.append_ #[tt, tt] ty #[v, .slice (some ad) 1 c]).run P w = .ok (.slice A ((ls t).length + 1) c') w' ∧ Own w0 row w' (rs.set i (.grid e n (setF hd t (.slice A ((ls t).length + 1) c')) (setF ls t (ls t ++ [x])))) := by
  have hG := H.gridAt i hr
  have hw := hG.1 t ht
  rw [he] at hw
  have hlt : ∀ u b, u < n → (hd u).ownBlock = some b → b < w.heap.size := fun u b hu hb => (H.foot i _ hr b ⟨u, hu, hb⟩).2
  obtain ⟨A, c', w', h2, h3, hgr, hat⟩ := run_append_win (P := P) (w := w) (c := c) (news := [[b8 x]]) (m := 1) hu (info_of hi) hz hsize hby hzs (by decide) (by decide) hw rfl
    (fun j u hj => by
      cases j with
      | zero => simp at hj; subst hj; simpa [Addr.add] using hnews
      | succ j => simp at hj) (by simp) (by simp [b8, Value.oneCell']) (by rw [byR_len]; omega) ty
  have e1 : (byR (ls t) ++ [[b8 x]]).length = (ls t).length + 1 := by simp [byR]
  have e2 : byR (ls t) ++ [[b8 x]] = byR (ls t ++ [x]) := by simp [byR]
  rw [e1] at h2 h3 hat
  rw [e2] at h3
  have hv : ∀ b, (Value.slice A ((ls t).length + 1) c').ownBlock = some b → ((hd t).ownBlock = some b ∨ w.heap.size ≤ b) ∧ b < w'.heap.size := fun b hb => by
    rcases hat with h | ⟨h, hlt2⟩
    · rw [h] at hb
      exact ⟨.inl (by rw [he]; exact hb), Nat.lt_of_lt_of_le (hlt t b ht (by rw [he]; exact hb)) hgr.size⟩
    · rw [hb] at h
      cases h
      exact ⟨.inr (Nat.le_refl _), hlt2⟩
  refine ⟨A, c', w', h2, H.turn i hr _ ?_ hgr.size (fun b hb hnb => hgr.block b hb (fun e => hnb ⟨t, ht, by rw [he]; exact e.symm⟩)) (grid_turn hG ht h3 (fun b hb hne => hgr.block b hb (fun e => hne (by rw [he]; exact e.symm))) hlt (fun b hb => (hv b hb).1)) ?_⟩
  · refine ⟨hgr.os.trans H.grown.os, hgr.tape.trans H.grown.tape, hgr.output.trans H.grown.output, Nat.le_trans H.grown.size hgr.size, fun k hk hne => ?_⟩
    refine (hgr.block k (Nat.lt_of_lt_of_le hk H.grown.size) (fun e => ?_)).trans (H.grown.block k hk hne)
    rcases (H.foot i _ hr k ⟨t, ht, by rw [he]; exact e.symm⟩).1 with h | h
    · exact absurd hk (by omega)
    · exact hne h
  · rintro b ⟨u, hu, hb⟩
    by_cases e3 : u = t
    · subst e3
      rw [setF_at] at hb
      obtain ⟨h5 | h5, h6⟩ := hv b hb
      · exact ⟨.inl ⟨u, hu, h5⟩, h6⟩
      · exact ⟨.inr h5, h6⟩
    · rw [setF_ne _ _ e3] at hb
      exact ⟨.inl ⟨u, hu, hb⟩, Nat.lt_of_lt_of_le (hlt u b hu hb) hgr.size⟩
theorem sLane {tt e : TypeId} {s y : Operand} {v : Value} {x : UInt8} {ad : Addr} {c : Nat} {ti : TypeInfo} {z : Value} {n t : Nat} {hd : Nat → Value} {ls : Nat → List UInt8} (H : Own w0 row w rs) (i : Nat) (hu : P.underlying tt = some (.slice e))
    (hi : ∀ w, (typeInfo e).run P w = .ok ti w) (hz : ti.zero = some z) (hsize : ti.size = 1) (hby : ti.bytes = 1) (hzs : z.cells.size = 1)
    (F : Has N a env) (hg : wants l env g = true) (hN : Nat.blt d N = true) (hs : ev env s = some v) (hx : ev env y = some (.slice (some ad) 1 c))
    (hr : rs[i]? = some (.grid e n hd ls)) (ht : t < n) (he : hd t = v) (hnews : w.cell? ad = some (b8 x)) (hb : (ls t).length + 1 ≤ 140737488355328)
    (K : ∀ A c a w, Has N a ((d, .slice A ((ls t).length + 1) c) :: env) → Own w0 row w (rs.set i (.grid e n (setF hd t (.slice A ((ls t).length + 1) c)) (setF ls t (ls t ++ [x])))) → wpList P l.toArray Q rest a w) :
    wpList P l.toArray Q (⟨some d, .call ⟨.builtin .append, #[s, y], #[tt, tt]⟩, ty, pos, af, g⟩ :: rest) a w := by
  obtain ⟨A, c', w', h2, h3⟩ := lane_run (P := P) (c := c) H i hu hi hz hsize hby hzs hr ht he hnews hb ty
  exact stepV F hg rfl hN (app_exec (ty' := ty) F hs hx h2) (fun a F' => K A c' a w' F' h3)
theorem oLane {tt e : TypeId} {s y : Operand} {v : Value} {x : UInt8} {ad : Addr} {c : Nat} {ti : TypeInfo} {z : Value} {n t : Nat} {hd : Nat → Value} {ls : Nat → List UInt8} (H : Own w0 row w rs) (i : Nat) (hu : P.underlying tt = some (.slice e))
    (hi : ∀ w, (typeInfo e).run P w = .ok ti w) (hz : ti.zero = some z) (hsize : ti.size = 1) (hby : ti.bytes = 1) (hzs : z.cells.size = 1)
    (F : Has N a env) (hN : Nat.blt d N = true) (hs : ev env s = some v) (hx : ev env y = some (.slice (some ad) 1 c))
    (hr : rs[i]? = some (.grid e n hd ls)) (ht : t < n) (he : hd t = v) (hnews : w.cell? ad = some (b8 x)) (hb : (ls t).length + 1 ≤ 140737488355328)
    (K : ∀ A c a w, Has N a ((d, .slice A ((ls t).length + 1) c) :: env) → Own w0 row w (rs.set i (.grid e n (setF hd t (.slice A ((ls t).length + 1) c)) (setF ls t (ls t ++ [x])))) → Kt a w) :
    (Oper.mk (some d) (.call ⟨.builtin .append, #[s, y], #[tt, tt]⟩) ty pos af g).wp P a w Kt Q := by
  obtain ⟨A, c', w', h2, h3⟩ := lane_run (P := P) (c := c) H i hu hi hz hsize hby hzs hr ht he hnews hb ty
  exact oV F rfl hN (app_exec (ty' := ty) F hs hx h2) (fun a F' => K A c' a w' F' h3)
/-- A store into a slice of the function's own. -/
theorem Own.setRws (H : Own w0 row w rs) (i : Nat) {e : TypeId} {sz n c g k : Nat} {rows : List (List Value)} {r : List Value} {j : Nat} {u : Value} (hi : rs[i]? = some (.rws e sz (.slice (some ⟨g, 0, .none⟩) n c) rows)) (hl : ∀ r ∈ rows, r.length = sz) (hj : rows[j]? = some r) (hk : k < sz) :
    w.there g (j * sz + k) 1 ∧ Own w0 row (w.setCell ⟨g, j * sz + k, .none⟩ u) (rs.set i (.rws e sz (.slice (some ⟨g, 0, .none⟩) n c) (rows.set j (r.set k u)))) := by
  have h := H.arr i hi
  have hjl := (List.getElem?_eq_some_iff.1 hj).1
  have hflat := flat_len rows hl
  have hrl := hl r (List.mem_of_getElem? hj)
  have hjk : j * sz + k < rows.length * sz := by
    have := Nat.mul_le_mul_right sz (show j + 1 ≤ rows.length from hjl)
    rw [Nat.add_mul] at this
    omega
  have hset : ∀ (rows : List (List Value)) (j : Nat), (∀ r ∈ rows, r.length = sz) → rows[j]? = some r → (rows.set j (r.set k u)).flatten = rows.flatten.set (j * sz + k) u := by
    intro rows
    induction rows with
    | nil => intro j _ h; simp at h
    | cons r0 rest ih =>
      intro j hl h
      have h0 : r0.length = sz := hl r0 (by simp)
      cases j with
      | zero =>
        simp at h; subst h
        simp only [List.set_cons_zero, List.flatten_cons, Nat.zero_mul, Nat.zero_add]
        rw [List.set_append_left _ _ (by omega)]
      | succ j =>
        simp only [List.set_cons_succ, List.flatten_cons]
        rw [ih j (fun r hm => hl r (by simp [hm])) (by simpa using h), List.set_append_right _ _ (by rw [h0, Nat.add_mul]; omega), h0]
        congr 2
        rw [Nat.add_mul]; omega
  rcases h.2 with ⟨h1, _⟩ | ⟨g', cap, cur, h1, _, h2, h3, h4, h5, h6⟩
  · cases h1
  · have hg : g' = g := by cases h1; rfl
    subst hg
    obtain ⟨rfl, rfl⟩ : n = rows.length ∧ c = cap := by cases h1; exact ⟨rfl, rfl⟩
    have hcs : rows.length * sz ≤ cur.size := by rw [h5]; exact Nat.mul_le_mul_right _ h3
    have hB : Blk w g' cur.toList e := by unfold Blk; simpa using h2
    refine ⟨fun q hq => ?_, H.turn i hi _ (grown_setCell H.grown (H.foot i _ hi g' rfl).1 _ _) (by simp [World.setCell]) (fun b _ hb => Below.heap_setCell w _ u b (fun e => hb (by rw [e]; rfl))) ?_ (fun b hb => ⟨.inl hb, by
      have : g' = b := by simpa [Res.rws, Res.arr, Value.ownBlock] using hb
      subst this
      simpa [World.setCell] using (H.foot i _ hi g' rfl).2⟩)⟩
    · obtain rfl : q = 0 := by omega
      have hc := hB.cell (j * sz + k) (v := cur.toList[j * sz + k]'(by simpa using (by omega : j * sz + k < cur.size))) (List.getElem?_eq_getElem _)
      exact ⟨by rw [Nat.add_zero, hc]; rfl, by rw [Nat.add_zero]; exact hB.frozen _⟩
    · have h7 := hB.set (j * sz + k) u
      show World.ownsRow _ 0 e sz _ (rows.set j (r.set k u)).length (rows.set j (r.set k u)).flatten
      rw [hset rows j hl hj, List.length_set]
      refine ⟨by rw [List.length_set, hflat], .inr ⟨g', c, (cur.toList.set (j * sz + k) u).toArray, rfl, Nat.zero_le _, h7, h3, h4, by simpa using h5, ?_⟩⟩
      simp only
      rw [List.take_set, h6]
theorem store_there {t : TypeId} {x y : Operand} {b o : Nat} {v : Value} (hz : ∀ w, (sizeOf t).run P w = .ok 1 w) (F : Has N a env)
    (hx : ev env x = some (.pointer (some ⟨b, o, none⟩))) (hy : ev env y = some v) (h1 : v.oneCell' = true) (ht : w.there b o 1) : (execOp a.eval ⟨none, .store t x y, ty, pos, af, g⟩).run P w = .ok .skip (w.setCell ⟨b, o, none⟩ v) := by
  simp only [execOp, F.eval hx, F.eval hy]
  obtain ⟨hc, hf⟩ := ht 0 (by omega)
  rw [Nat.add_zero] at hc hf
  have h2 : v.cells = #[v] := by cases v <;> simp_all [Value.oneCell', Value.cells]
  have h3 := run_storeCells_cells (P := P) b o [v] 0 w (fun q hq => by simp at hq; subst hq; simpa using hc) (fun q hq => by simp at hq; subst hq; simpa using hf) (fun q hq => by simp at hq; subst hq; exact h1)
  simp only [Nat.add_zero] at h3
  have h4 : (storeCells ⟨b, o, none⟩ [v]).run P w = .ok () (w.setCell ⟨b, o, none⟩ v) := h3
  simp only [Instr.storeAt, Instr.sureAddr, storeVar, h2, Sem.run_bind, Sem.run_pure, Result.andThen_ok, hz, List.size_toArray, List.length_cons, List.length_nil, ne_eq, not_true_eq_false, ↓reduceIte, Nat.zero_add, h4]
theorem sStW {t : TypeId} {x y : Operand} {e : TypeId} {sz n c gb k o : Nat} {rows : List (List Value)} {r : List Value} {j : Nat} {v : Value} (H : Own w0 row w rs) (i : Nat) (hz : ∀ w, (sizeOf t).run P w = .ok 1 w) (F : Has N a env) (hg : wants l env g = true)
    (hx : ev env x = some (.pointer (some ⟨gb, o, none⟩))) (hy : ev env y = some v) (h1 : v.oneCell' = true) (hi : rs[i]? = some (.rws e sz (.slice (some ⟨gb, 0, none⟩) n c) rows)) (hl : ∀ r ∈ rows, r.length = sz) (hj : rows[j]? = some r) (hk : k < sz) (ho : o = j * sz + k)
    (K : ∀ w, Own w0 row w (rs.set i (.rws e sz (.slice (some ⟨gb, 0, none⟩) n c) (rows.set j (r.set k v)))) → wpList P l.toArray Q rest a w) : wpList P l.toArray Q (⟨none, .store t x y, ty, pos, af, g⟩ :: rest) a w := by
  subst ho
  obtain ⟨h2, h3⟩ := H.setRws i (u := v) hi hl hj hk
  exact stepU F hg rfl (w' := w.setCell ⟨gb, j * sz + k, none⟩ v) (store_there hz F hx hy h1 h2) (K _ h3)
theorem oStW {t : TypeId} {x y : Operand} {e : TypeId} {sz n c gb k o : Nat} {rows : List (List Value)} {r : List Value} {j : Nat} {v : Value} (H : Own w0 row w rs) (i : Nat) (hz : ∀ w, (sizeOf t).run P w = .ok 1 w) (F : Has N a env)
    (hx : ev env x = some (.pointer (some ⟨gb, o, none⟩))) (hy : ev env y = some v) (h1 : v.oneCell' = true) (hi : rs[i]? = some (.rws e sz (.slice (some ⟨gb, 0, none⟩) n c) rows)) (hl : ∀ r ∈ rows, r.length = sz) (hj : rows[j]? = some r) (hk : k < sz) (ho : o = j * sz + k)
    (K : ∀ w, Own w0 row w (rs.set i (.rws e sz (.slice (some ⟨gb, 0, none⟩) n c) (rows.set j (r.set k v)))) → Kt a w) : (Oper.mk none (.store t x y) ty pos af g).wp P a w Kt Q := by
  subst ho
  obtain ⟨h2, h3⟩ := H.setRws i (u := v) hi hl hj hk
  exact oU rfl (w' := w.setCell ⟨gb, j * sz + k, none⟩ v) (store_there hz F hx hy h1 h2) (K _ h3)
end
end Go.Proofs.Ytbdjlmdejlklkaa
