/-
  WALK2. Maps whose keys are structs of bytes. Conditions: none.
-/
import Derived.Test.YtbgnapmaimkpkaaGreatDoorVcL
set_option linter.unusedSimpArgs false
set_option linter.unusedVariables false
namespace Go.Proofs.YtbgnapmaimkpkaaGreatDoor
open Go.RowKit
section
variable {P : Program} {l : List Oper} {Q : Exit → Act → World → Prop} {N : Nat} {a : Act} {env : List (Nat × Value)} {rest : List Oper} {d : Tmp} {ty : TypeId} {pos : String} {af : Array Edge} {g : Option (Nat × Bool)}
  {w0 w : World} {row : Option Nat} {rs : List Res} {Kt : Act → World → Prop}
/-- A value of type t, of n cells, may be a key. -/
def CkT (P : Program) (D : Nat) (t : TypeId) (n : Nat) (ag : Bool) : Prop := ∀ (em : Bool) (d : Nat) (w : World) (vs : List Value), vs.length = n → (Instr.checkKey em (d + D) t (pk ag vs)).run P w = .ok () w
theorem CkT.up {D n : Nat} {t : TypeId} {ag : Bool} (h : CkT P D t n ag) (m : Nat) : CkT P (D + m) t n ag := fun em d w vs hl => by
  have := h em (d + m) w vs hl
  rwa [show d + (D + m) = d + m + D by omega]
theorem ckInt {t : TypeId} {k : IntKind} (hu : P.underlying t = some (.int k)) : CkT P 1 t 1 false := fun em d w vs _ => by
  unfold Instr.checkKey
  simp [run_underlying hu]
theorem ckArr {D n m : Nat} {t e : TypeId} {ag : Bool} (hu : P.underlying t = some (.array m e)) (hs : ∀ w, (sizeOf e).run P w = .ok n w) (ha : ∀ w, (isAgg e).run P w = .ok ag w) (h1 : ag = false → n = 1) (h : CkT P D e n ag) : CkT P (D + 1) t (m * n) true := fun em d w vs hl => by
  show (Instr.checkKey em (d + D + 1) t (.agg vs.toArray)).run P w = _
  rw [Instr.checkKey]
  simp only [Sem.run_bind, run_underlying hu, Result.andThen_ok]
  simp only [Std.Legacy.Range.forIn_eq_forIn_range', Std.Legacy.Range.size, Nat.sub_zero, Nat.add_one_sub_one, Nat.div_one]
  have each : ∀ j ∈ List.range' 0 m, j < m := fun j hj => by simpa using hj
  generalize List.range' 0 m = is at each
  induction is with
  | nil => simp
  | cons j is ih =>
    have hj := each j (by simp)
    have hle : j * n + n ≤ vs.length := by
      have := Nat.mul_le_mul_right n (show j + 1 ≤ m from hj)
      rw [Nat.add_mul] at this
      omega
    have p1 := part_pk (P := P) (vs := vs) (off := j * n) w hs ha h1 hle
    have p2 := h em d w ((vs.drop (j * n)).take n) (by rw [List.length_take, List.length_drop]; omega)
    simp only [List.forIn_cons, Sem.run_bind, hs, Result.andThen_ok, p1, p2, Sem.run_pure]
    exact ih (fun y hy => each y (by simp [hy]))
/-- The fields of such a struct. -/
def CkF (P : Program) (D n : Nat) : List Field → Prop
  | [] => True
  | f :: r => (f.name != "_") = true ∧ (∃ m ag, (∀ w, (sizeOf f.type).run P w = .ok m w) ∧ (∀ w, (isAgg f.type).run P w = .ok ag w) ∧ (ag = false → m = 1) ∧ f.offset + m ≤ n ∧ CkT P D f.type m ag) ∧ CkF P D n r
theorem ckStruct {D n : Nat} {t : TypeId} {fs : Array Field} (hu : P.underlying t = some (.struct fs)) (h : CkF P D n fs.toList) : CkT P (D + 1) t n true := fun em d w vs hl => by
  show (Instr.checkKey em (d + D + 1) t (.agg vs.toArray)).run P w = _
  rw [Instr.checkKey]
  simp only [Sem.run_bind, run_underlying hu, Result.andThen_ok]
  rw [← Array.forIn_toList]
  generalize fs.toList = L at h
  induction L with
  | nil => simp
  | cons f L ih =>
    obtain ⟨hn, ⟨m, ag, hs, ha, h1, hle, hc⟩, hr⟩ := h
    have hn : f.name ≠ "_" := by simpa using hn
    have p1 := part_pk (P := P) (vs := vs) (off := f.offset) w hs ha h1 (by omega)
    have p2 := hc em d w ((vs.drop f.offset).take m) (by rw [List.length_take, List.length_drop]; omega)
    simp only [List.forIn_cons, Sem.run_bind, hn, ne_eq, not_false_eq_true, if_true, Result.andThen_ok, p1, p2, Sem.run_pure]
    exact ih hr
/-- A map from such structs to true: its keys, in the order in which they came. -/
def Res.mpS (b n : Nat) (ks : List By) : Res where
  foot := (· = b)
  pred := fun w => ∃ es clock, w.heap[b]? = some (.map es clock) ∧ es.toList.map (fun e => (e.key, e.val)) = ks.map fun s => (.agg (bs n s).toArray, .bool true)
  loc := fun _ _ h hp => by
    obtain ⟨es, c, h1, h2⟩ := hp
    exact ⟨es, c, (h b rfl).trans h1, h2⟩
/-- What can be said of a type of keys. -/
structure KeyS (P : Program) (t : TypeId) (n : Nat) : Prop where
  wide : ∃ fs, P.underlying t = some (.struct fs)
  eq : ∀ (w : World) (u v : By), (Op.equal t (.agg (bs n u).toArray) (.agg (bs n v).toArray)).run P w = .ok (same n u v) w
  ck : ∀ (em : Bool) (w : World) (u : By), (Instr.checkKey em 10000 t (.agg (bs n u).toArray)).run P w = .ok () w
theorem keyS {D D2 n : Nat} {t : TypeId} {fs : Array Field} (hu : P.underlying t = some (.struct fs)) (h : EqT P D t (List.replicate n .u8) true) (hD : Nat.ble D 10000 = true) (hc : CkT P D2 t n true) (hD2 : Nat.ble D2 10000 = true) : KeyS P t n where
  wide := ⟨fs, hu⟩
  eq := fun w u v => by
    have hD := Nat.le_of_ble_eq_true hD
    have := h (10000 - D) w (bs n u) (bs n v) (by rw [bs_map]; have := fits_bytes ((List.range n).map u); simpa using this) (by rw [bs_map]; have := fits_bytes ((List.range n).map v); simpa using this)
    rw [show 10000 - D + D = 10000 by omega, bs_map, bs_map, ceq_bytes] at this
    rw [bs_map, bs_map]
    exact this
  ck := fun em w u => by
    have hD := Nat.le_of_ble_eq_true hD2
    have := hc em (10000 - D2) w (bs n u) (bs_length _ _)
    rwa [show 10000 - D2 + D2 = 10000 by omega] at this
theorem findAsk_S {t : TypeId} {n : Nat} (hk : KeyS P t n) (u : By) : ∀ (es : List MapEntry) (ks : List By) (i : Nat), es.map (fun e => (e.key, e.val)) = ks.map (fun s => (.agg (bs n s).toArray, .bool true)) →
    ∃ r, (Instr.findAsking t (.agg (bs n u).toArray) es i).run P w = .ok r w ∧ (ks.any (fun y => same n u y) = true → ∃ j, r = some (j, .bool true)) ∧ (ks.any (fun y => same n u y) = false → r = none)
  | [], [], i, _ => ⟨none, by simp [Instr.findAsking], fun h => by simp at h, fun _ => rfl⟩
  | e :: es, y :: ks, i, h => by
    simp only [List.map_cons, List.cons.injEq, Prod.mk.injEq] at h
    obtain ⟨⟨h1, h2⟩, h3⟩ := h
    have he := hk.eq w u y
    rw [← h1] at he
    cases hs : same n u y with
    | true =>
      rw [hs] at he
      refine ⟨some (i, .bool true), by simp [Instr.findAsking, he, h2], fun _ => ⟨i, rfl⟩, fun hh => by simp [hs] at hh⟩
    | false =>
      rw [hs] at he
      obtain ⟨r, hr, hr1, hr2⟩ := findAsk_S hk u es ks (i + 1) h3
      refine ⟨r, by simp [Instr.findAsking, he, hr], fun hh => hr1 (by simpa [hs] using hh), fun hh => hr2 (by simpa [hs] using hh)⟩
  | [], _ :: _, _, h => by simp at h
  | _ :: _, [], _, h => by simp at h
theorem findKey_S {t : TypeId} {n : Nat} (hk : KeyS P t n) (u : By) {es : List MapEntry} {ks : List By} (h : es.map (fun e => (e.key, e.val)) = ks.map (fun s => (.agg (bs n s).toArray, .bool true))) (w : World) :
    ∃ r, (Instr.findKey t (.agg (bs n u).toArray) es).run P w = .ok r w ∧ (ks.any (fun y => same n u y) = true → ∃ j, r = some (j, .bool true)) ∧ (ks.any (fun y => same n u y) = false → r = none) := by
  obtain ⟨fs, hu⟩ := hk.wide
  obtain ⟨r, hr, hr1, hr2⟩ := findAsk_S (w := w) hk u es ks 0 h
  cases es with
  | nil =>
    refine ⟨none, by simp [Instr.findKey, run_underlying hu, Instr.findNow], fun hh => ?_, fun _ => rfl⟩
    cases ks with
    | nil => simp at hh
    | cons _ _ => simp at h
  | cons e es =>
    refine ⟨r, ?_, hr1, hr2⟩
    unfold Instr.findKey
    simp only [Sem.run_bind, run_underlying hu, Result.andThen_ok, Instr.findNow, Instr.sameNow]
    exact hr
theorem sMkS {t : TypeId} (n : Nat) (H : Own w0 row w rs) (F : Has N a env) (hg : wants l env g = true) (hN : Nat.blt d N = true)
    (K : ∀ b a w, Has N a ((d, .map (some b)) :: env) → Own w0 row w (.mpS b n [] :: rs) → wpList P l.toArray Q rest a w) : wpList P l.toArray Q (⟨some d, .makeMap t none, ty, pos, af, g⟩ :: rest) a w :=
  stepV F hg rfl hN (v := .map (some w.heap.size)) (w' := w.alloc (.map #[] 0)) (by simp [execOp, run_makeMap]) (fun a' F' => K _ _ _ F' (H.add (.mpS w.heap.size n []) ((Below.refl _ _).alloc (Nat.le_refl _) _)
    ⟨#[], 0, heap_alloc_new w _, rfl⟩ (fun b hb => by cases hb; exact ⟨Nat.le_refl _, by simp⟩)))
theorem ins_run {t kt et : TypeId} {n b : Nat} {u : By} {ks : List By} (H : Own w0 row w rs) (i : Nat) (ht : P.underlying t = some (.map kt et)) (hk : KeyS P kt n) (hi : rs[i]? = some (.mpS b n ks)) (hn : ks.any (fun y => same n u y) = false) :
    ∃ w', (Instr.mapUpdate t (.map (some b)) (.agg (bs n u).toArray) (.bool true)).run P w = .ok () w' ∧ Own w0 row w' (rs.set i (.mpS b n (ks ++ [u]))) := by
  obtain ⟨es, clock, h1, h2⟩ := H.pred i _ hi
  obtain ⟨r, hr, _, hr2⟩ := findKey_S (P := P) hk u h2 w
  have hr2 := hr2 hn
  subst hr2
  have hbs : b < w.heap.size := by
    rcases Nat.lt_or_ge b w.heap.size with h | h
    · exact h
    · rw [Array.getElem?_eq_none h] at h1; cases h1
  refine ⟨{ w with heap := w.heap.setIfInBounds b (.map (es.push { key := .agg (bs n u).toArray, val := .bool true, born := clock }) (clock + 1)) }, ?_, ?_⟩
  · simp only [Instr.mapUpdate, Sem.run_bind, run_underlying ht, Result.andThen_ok]
    have hgo : (getObj b).run P w = .ok (.map es clock) w := MapKept.run_getObj_map h1
    simp only [hgo, Result.andThen_ok, Sem.run_bind, hk.ck, hr]
    simp only [MapKept.run_setObj_map _ h1]
  · refine H.turn i hi _ ?_ (by simp) (fun c hc hne => by simp [Ne.symm hne]) ⟨es.push { key := .agg (bs n u).toArray, val := .bool true, born := clock }, clock + 1, by simp [hbs], by simp [h2]⟩ (fun c hc => ⟨.inl hc, by cases hc; simpa using hbs⟩)
    refine ⟨H.grown.os, H.grown.tape, H.grown.output, by simpa using H.grown.size, fun c hc hne => ?_⟩
    have hcb : c ≠ b := by
      rintro rfl
      rcases (H.foot i _ hi c rfl).1 with h | h
      · omega
      · exact hne h
    have := H.grown.block c hc hne
    simpa [Array.getElem?_setIfInBounds, Ne.symm hcb] using this
theorem sInsS {t kt et : TypeId} {m x y : Operand} {n b : Nat} {u : By} {ks : List By} (H : Own w0 row w rs) (i : Nat) (ht : P.underlying t = some (.map kt et)) (hk : KeyS P kt n) (F : Has N a env) (hg : wants l env g = true)
    (hm : ev env m = some (.map (some b))) (hx : ev env x = some (.agg (bs n u).toArray)) (hy : ev env y = some (.bool true)) (hi : rs[i]? = some (.mpS b n ks)) (hn : ks.any (fun y => same n u y) = false)
    (K : ∀ w, Own w0 row w (rs.set i (.mpS b n (ks ++ [u]))) → wpList P l.toArray Q rest a w) : wpList P l.toArray Q (⟨none, .insert t m x y, ty, pos, af, g⟩ :: rest) a w := by
  obtain ⟨w', h1, h2⟩ := ins_run (P := P) H i ht hk hi hn
  exact stepU F hg rfl (w' := w') (by simp only [execOp, F.eval hm, F.eval hx, F.eval hy, Sem.run_bind, h1, Result.andThen_ok, Sem.run_pure]) (K _ h2)
theorem sUpdS {t kt et : TypeId} {m x y : Operand} {n b : Nat} {u : By} {ks : List By} (H : Own w0 row w rs) (i : Nat) (ht : P.underlying t = some (.map kt et)) (hk : KeyS P kt n) (F : Has N a env) (hg : wants l env g = true)
    (hm : ev env m = some (.map (some b))) (hx : ev env x = some (.agg (bs n u).toArray)) (hy : ev env y = some (.bool true)) (hi : rs[i]? = some (.mpS b n ks)) (hn : ks.any (fun y => same n u y) = false)
    (K : ∀ w, Own w0 row w (rs.set i (.mpS b n (ks ++ [u]))) → wpList P l.toArray Q rest a w) : wpList P l.toArray Q (⟨none, .mapUpdate t m x y, ty, pos, af, g⟩ :: rest) a w := by
  obtain ⟨w', h1, h2⟩ := ins_run (P := P) H i ht hk hi hn
  exact stepU F hg rfl (w' := w') (by simp only [execOp, F.eval hm, F.eval hx, F.eval hy, Sem.run_bind, h1, Result.andThen_ok, Sem.run_pure]) (K _ h2)
/-- m[x] -/
theorem sLkS {t kt et : TypeId} {m x : Operand} {n b : Nat} {u : By} {ks : List By} (H : Own w0 row w rs) (i : Nat) (ht : P.underlying t = some (.map kt et)) (hk : KeyS P kt n) (hz : ∀ w, (zeroValue et).run P w = .ok (.bool false) w) (F : Has N a env) (hg : wants l env g = true) (hN : Nat.blt d N = true)
    (hm : ev env m = some (.map (some b))) (hx : ev env x = some (.agg (bs n u).toArray)) (hi : rs[i]? = some (.mpS b n ks))
    (K : ∀ a, Has N a ((d, .bool (ks.any fun y => same n u y)) :: env) → wpList P l.toArray Q rest a w) : wpList P l.toArray Q (⟨some d, .lookup t m x false, ty, pos, af, g⟩ :: rest) a w :=
  stepV F hg rfl hN (by
    obtain ⟨es, clock, h1, h2⟩ := H.pred i _ hi
    obtain ⟨r, hr, hr1, hr2⟩ := findKey_S (P := P) hk u h2 w
    have hgo : (getObj b).run P w = .ok (.map es clock) w := MapKept.run_getObj_map h1
    cases hs : ks.any (fun y => same n u y) with
    | true =>
      obtain ⟨j, rfl⟩ := hr1 hs
      simp only [execOp, F.eval hm, F.eval hx, Instr.lookup, Sem.run_bind, run_underlying ht, Result.andThen_ok, hgo, Sem.run_pure, hk.ck, hr]
      rfl
    | false =>
      have := hr2 hs
      subst this
      simp only [execOp, F.eval hm, F.eval hx, Instr.lookup, Sem.run_bind, run_underlying ht, Result.andThen_ok, hgo, Sem.run_pure, hk.ck, hr, hz]
      rfl) K
/-- A struct and a plain value as the results. -/
theorem bRetD1 {fn : Func} {R : Ending → World → Prop} {t u : Tmp} {st : TypeId} {b n : Nat} {cs : List Value} {bt : TypeId} {dd : TypeDesc} {y : Value} (hres : fn.results = #[.cell t st, .tmp u]) (F : Has N a env) (hv : lk env t = some (.pointer (some ⟨b, 0, .none⟩))) (hy : lk env u = some y)
    (hu : P.underlying st = some dd) (hdd : dd.isRow = true) (H : Own w0 row w rs) (i : Nat) (hi : rs[i]? = some (.blk b cs bt)) (hz : ∀ w, (sizeOf st).run P w = .ok n w) (hn : Nat.beq cs.length n = true) (h : R (.returned (.tuple #[.agg cs.toArray, y])) w) : bodyPost P fn R .ret a w :=
  bodyPost_ret (results_own_tmp hres F hv hy hu hdd (by rw [Nat.eq_of_beq_eq_true hn]; exact info_size hz) (H.blk i hi)) F.nod h
end
end Go.Proofs.YtbgnapmaimkpkaaGreatDoor
