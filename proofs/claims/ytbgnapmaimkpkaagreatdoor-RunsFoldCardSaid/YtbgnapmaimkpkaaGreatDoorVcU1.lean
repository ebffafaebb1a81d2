/-
  Arrays that are written out. Conditions: none.
-/
import Derived.Test.YtbgnapmaimkpkaaGreatDoorVcL
import Derived.Laws.IdiomCopy
import Derived.Deep.OwnRows
import Derived.Laws.OwnMore
import Derived.Lib.BufferMore
set_option linter.unusedSimpArgs false
set_option linter.unusedVariables false
namespace Go.Proofs.YtbgnapmaimkpkaaGreatDoor
-- VcX
open Go.RowKit
section
variable {P : Program} {l : List Oper} {Q : Exit → Act → World → Prop} {N : Nat} {a : Act} {env : List (Nat × Value)} {rest : List Oper} {d : Tmp} {ty : TypeId} {pos : String} {af : Array Edge} {g : Option (Nat × Bool)} {w : World}
theorem rBa {t e : TypeId} {n size : Nat} {parts : List (Nat × Operand)} {ps : List (Nat × Value)} {zs : Array Value} {cs : List Value} (hz : ∀ w, (zeroValue t).run P w = .ok (.agg zs) w) (hu : P.underlying t = some (.array n e)) (hs : ∀ w, (sizeOf e).run P w = .ok size w)
    (F : Has N a env) (he : evP env parts = some ps) (hf : fillL (fun i => some (i * size, size)) zs.toList ps = some cs) :
    (execOp a.eval ⟨some d, .build t parts.toArray, ty, pos, af, g⟩).run P w = .ok (.value (.agg cs.toArray)) w := by
  have h1 := fill_of_fillL _ _ _ _ hf
  have h2 : (Instr.build t (parts.toArray.map fun (i, x) => (i, a.eval x))).run P w = .ok (.agg cs.toArray) w := by
    rw [List.map_toArray, F.parts he]
    have h1' : Instr.fill (fun i => some (i * size, size)) zs ps = some cs.toArray := by simpa using h1
    simp [Instr.build, run_underlying hu, hz, hs, h1', Value.cells, go_sem]
  simp only [execOp, Sem.run_bind, h2]
  rfl
theorem rBaB {t e : TypeId} {n m size : Nat} {parts : List (Nat × Operand)} {ps : List (Nat × Value)} {s : By} (hz : ∀ w, (zeroValue t).run P w = .ok (.agg (bs n zb).toArray) w) (hu : P.underlying t = some (.array m e)) (hs : ∀ w, (sizeOf e).run P w = .ok size w)
    (F : Has N a env) (he : evP env parts = some ps) (hf : FillB (fun i => some (i * size, size)) n zb ps s) :
    (execOp a.eval ⟨some d, .build t parts.toArray, ty, pos, af, g⟩).run P w = .ok (.value (.agg (bs n s).toArray)) w :=
  rBa hz hu hs F he hf.to
theorem sBaB {t e : TypeId} {n m size : Nat} {parts : List (Nat × Operand)} {ps : List (Nat × Value)} {s : By} (hz : ∀ w, (zeroValue t).run P w = .ok (.agg (bs n zb).toArray) w) (hu : P.underlying t = some (.array m e)) (hs : ∀ w, (sizeOf e).run P w = .ok size w)
    (F : Has N a env) (hg : wants l env g = true) (hN : Nat.blt d N = true) (he : evP env parts = some ps) (hf : FillB (fun i => some (i * size, size)) n zb ps s)
    (K : ∀ a, Has N a ((d, .agg (bs n s).toArray) :: env) → wpList P l.toArray Q rest a w) : wpList P l.toArray Q (⟨some d, .build t parts.toArray, ty, pos, af, g⟩ :: rest) a w :=
  stepV F hg rfl hN (rBaB hz hu hs F he hf) K
theorem qBaB {t e : TypeId} {n m size : Nat} {parts : List (Nat × Operand)} {ps : List (Nat × Value)} {s : By} (hz : ∀ w, (zeroValue t).run P w = .ok (.agg (bs n zb).toArray) w) (hu : P.underlying t = some (.array m e)) (hs : ∀ w, (sizeOf e).run P w = .ok size w) (hg : wants l env g = true) (hN : Nat.blt d N = true) (he : evP env parts = some ps) (hf : FillB (fun i => some (i * size, size)) n zb ps s) (K : ∀ a, Has N a ((d, .agg (bs n s).toArray) :: env) → wpList P l.toArray Q rest a w) : ∀ a, Has N a env → wpList P l.toArray Q (⟨some d, .build t parts.toArray, ty, pos, af, g⟩ :: rest) a w := fun a F => sBaB hz hu hs F hg hN he hf K
end
theorem splice_mid (s : List Value) : ∀ (r z p : List Value), z.length = r.length → splice (p ++ (z ++ s)) p.length r = p ++ (r ++ s)
  | [], [], p, _ => by simp [splice]
  | v :: r, y :: z, p, h => by
    have e1 : (p ++ (y :: z ++ s)).set p.length v = (p ++ [v]) ++ (z ++ s) := by simp
    have e2 : p.length + 1 = (p ++ [v]).length := by simp
    rw [splice, e1, e2, splice_mid s r z (p ++ [v]) (by simpa using h)]
    simp
section
variable {P : Program} {l : List Oper} {Q : Exit → Act → World → Prop} {N : Nat} {a : Act} {env : List (Nat × Value)} {rest : List Oper} {d : Tmp} {ty : TypeId} {pos : String} {af : Array Edge} {g : Option (Nat × Bool)} {w0 w : World} {row : Option Nat} {rs : List Res}
end
-- VcM
open Go.RowKit
section
variable {P : Program} {l : List Oper} {Q : Exit → Act → World → Prop} {N : Nat} {a : Act} {env : List (Nat × Value)} {rest : List Oper} {d : Tmp} {ty : TypeId} {pos : String} {af : Array Edge} {g : Option (Nat × Bool)}
  {w0 w : World} {row : Option Nat} {rs : List Res} {Kt : Act → World → Prop}
def offA (i n sz : Nat) : Nat := if n = i then 0 else i * sz
theorem rSlALH {t e : TypeId} {x lo hi : Operand} {b o n i j sz : Nat} {k k' : IntKind} (ht : P.underlying t = some (.array n e)) (hz : ∀ w, (sizeOf e).run P w = .ok sz w) (F : Has N a env) (hx : ev env x = some (.pointer (some ⟨b, o, none⟩))) (hl : ev env lo = some (.int k' (i : Int))) (hh : ev env hi = some (.int k (j : Int))) (hij : i ≤ j) (hj : j ≤ n) :
    (execOp a.eval ⟨some d, .slice t x (some lo) (some hi) none, ty, pos, af, g⟩).run P w = .ok (.value (.slice (some ⟨b, o + offA i n sz, none⟩) (j - i) (n - i))) w := by
  have he : P.elem t = e := by simp [Program.elem, ht]
  have hn : P.arrayLen t = n := by simp [Program.arrayLen, ht]
  have h1 := run_sliceAt_array_lh (P := P) w t ⟨b, o, none⟩ (by rw [he, hn]; exact ht) k' k (i : Int) (j : Int) (by omega) (by omega) (by rw [hn]; omega)
  rw [he, hz, hn] at h1
  simp only [execOp, Option.map_none, Option.map_some, F.eval hx, F.eval hl, F.eval hh, Sem.run_bind, h1, Result.andThen_ok, slicedAt, Int.toNat_natCast, Sem.run_pure, offA]
  split <;> simp [Addr.add]
theorem copy_run {dT ty elem : TypeId} {b o dLen dCap sLen sCap sz : Nat} {A : Addr} {cs : List Value} (hu : P.underlying dT = some (.slice elem)) (hs : (P.info? elem).map (·.size) = some sz) (hn : cs.length = Nat.min sLen dLen * sz)
    (hsrc : ∀ j v, cs[j]? = some v → w.cell? (A.add j) = some v) (hc : ∀ j, j < cs.length → (w.cell? ⟨b, o + j, none⟩).isSome = true) (hf : ∀ j, j < cs.length → w.frozen? ⟨b, o + j, none⟩ = false) (h1 : ∀ v ∈ cs, v.oneCell' = true) :
    (Builtin.copy_ #[dT, dT] ty #[.slice (some ⟨b, o, none⟩) dLen dCap, .slice (some A) sLen sCap]).run P w = .ok (goInt (Nat.min sLen dLen : Nat)) (w.setCells b o cs) := by
  have hl := run_loadCells_list (P := P) w A cs hsrc
  have hst := run_storeCells_cells (P := P) b o cs 0 w (by simpa using hc) (by simpa using hf) h1
  cases hq : P.info? elem with
  | none => simp [hq] at hs
  | some i =>
    have hi : i.size = sz := by simpa [hq] using hs
    rw [hn] at hl
    simp [Builtin.copy_, run_underlying hu, Builtin.lenOf, Builtin.firstCells, sizeOf, typeInfo, hq, hi, hl, hst]
theorem cpBB_run {t e : TypeId} {b od os n m dCap sCap i sz : Nat} {s : By} {bt : TypeId} (H : Own w0 row w rs) (ht : P.underlying t = some (.slice e)) (hz : ∀ w, (sizeOf e).run P w = .ok sz w)
    (hr : rs[i]? = some (.blk b (bs n s) bt)) (hd : m = 0 ∨ od + m * sz ≤ n) (hs : m = 0 ∨ os + m * sz ≤ n) (ty : TypeId) :
    ∃ w', (Builtin.copy_ #[t, t] ty #[.slice (some ⟨b, od, none⟩) m dCap, .slice (some ⟨b, os, none⟩) m sCap]).run P w = .ok (goInt ((m : Nat) : Int)) w' ∧ Own w0 row w' (rs.set i (.blk b (bs n (lay s od (m * sz) (cut s os))) bt)) := by
  have hq := info_size (P := P) hz
  have hd' : od + m * sz ≤ n ∨ m = 0 := hd.symm
  have key : ∀ j v, (bs (m * sz) (cut s os))[j]? = some v → j < m * sz ∧ v = b8 (s (os + j)) := fun j v hv => by
    rcases Nat.lt_or_ge j (m * sz) with hj | hj
    · rw [bs_get hj] at hv
      exact ⟨hj, (Option.some.inj hv).symm⟩
    · rw [bs_none hj] at hv; cases hv
  have hpos : ∀ j, j < m * sz → m ≠ 0 := fun j hj h0 => by rw [h0, Nat.zero_mul] at hj; omega
  have hrun := copy_run (P := P) (w := w) (ty := ty) (dCap := dCap) (sCap := sCap) (b := b) (o := od) (dLen := m) (sLen := m) (A := ⟨b, os, none⟩) (cs := bs (m * sz) (cut s os)) ht hq (by rw [bs_length]; simp [Nat.min_def])
    (fun j v hv => by
      obtain ⟨hj, rfl⟩ := key j v hv
      have := hpos j hj
      rw [Addr.add_mid]
      exact H.cell i hr (bs_get (by rcases hs with h | h <;> omega)))
    (fun j hj => by
      rw [bs_length] at hj
      have := hpos j hj
      rw [H.cell i hr (bs_get (by rcases hd with h | h <;> omega))]
      exact Option.isSome_some)
    (fun j hj => (H.blk i hr).frozen _)
    (fun v hv => by
      obtain ⟨j, hj⟩ := List.mem_iff_getElem?.1 hv
      obtain ⟨_, rfl⟩ := key j v hj
      rfl)
  have hmin : Nat.min m m = m := by simp [Nat.min_def]
  rw [hmin] at hrun
  refine ⟨_, hrun, ?_⟩
  have h3 := H.setCells i (bs (m * sz) (cut s os)) od w rs _ hr
  rcases hd with h | h
  · subst h
    have e : lay s od (0 * sz) (cut s os) = s := funext fun k => by unfold lay; rw [if_neg (by omega)]
    rw [e]
    have e2 : splice (bs n s) od (bs (0 * sz) (cut s os)) = bs n s := by rw [Nat.zero_mul]; rfl
    rw [e2] at h3
    exact h3
  · rw [bs_splice h] at h3
    exact h3
theorem cp_exec' {t ty' : TypeId} {s x : Operand} {v u v' : Value} {w' : World} (F : Has N a env) (hs : ev env s = some v) (hx : ev env x = some u) (hr : (Builtin.copy_ #[t, t] ty #[v, u]).run P w = .ok v' w') :
    (execOp a.eval ⟨some d, .call ⟨.builtin .copy, #[s, x], #[t, t]⟩, ty, pos, af, g⟩).run P w = .ok (.value v') w' := by
  simp only [execOp, resolve, invoke, builtin, Sem.run_bind, Sem.run_pure, Result.andThen_ok, List.map_toArray, List.map_cons, List.map_nil, F.eval hs, F.eval hx, hr]
theorem oCpBB {t e : TypeId} {x y : Operand} {b od os n m m' dCap sCap sz : Nat} {s : By} {bt : TypeId} (H : Own w0 row w rs) (i : Nat) (ht : P.underlying t = some (.slice e)) (hz : ∀ w, (sizeOf e).run P w = .ok sz w)
    (F : Has N a env) (hN : Nat.blt d N = true) (hx : ev env x = some (.slice (some ⟨b, od, none⟩) m dCap)) (hy : ev env y = some (.slice (some ⟨b, os, none⟩) m' sCap))
    (hr : rs[i]? = some (.blk b (bs n s) bt)) (hm : m' = m) (hd : m = 0 ∨ od + m * sz ≤ n) (hs : m = 0 ∨ os + m * sz ≤ n)
    (K : ∀ a w, Has N a ((d, goInt ((m : Nat) : Int)) :: env) → Own w0 row w (rs.set i (.blk b (bs n (lay s od (m * sz) (cut s os))) bt)) → Kt a w) :
    (Oper.mk (some d) (.call ⟨.builtin .copy, #[x, y], #[t, t]⟩) ty pos af g).wp P a w Kt Q := by
  subst hm
  obtain ⟨w', h2, h3⟩ := cpBB_run (P := P) (dCap := dCap) (sCap := sCap) H ht hz hr hd hs ty
  exact oV F rfl hN (cp_exec' (ty' := ty) F hx hy h2) (fun a F' => K a w' F' h3)
end
-- VcI
open Go.RowKit
section
variable {P : Program} {l : List Oper} {Q : Exit → Act → World → Prop} {N : Nat} {a : Act} {env : List (Nat × Value)} {rest : List Oper} {d : Tmp} {ty : TypeId} {pos : String} {af : Array Edge} {g : Option (Nat × Bool)}
  {w0 w : World} {row : Option Nat} {rs : List Res} {Kt : Act → World → Prop}
def CkT (P : Program) (D : Nat) (t : TypeId) (n : Nat) (ag : Bool) : Prop := ∀ (em : Bool) (d : Nat) (w : World) (vs : List Value), vs.length = n → (Instr.checkKey em (d + D) t (pk ag vs)).run P w = .ok () w
theorem CkT.up {D n : Nat} {t : TypeId} {ag : Bool} (h : CkT P D t n ag) (m : Nat) : CkT P (D + m) t n ag := fun em d w vs hl => by
  have := h em (d + m) w vs hl
  rwa [show d + (D + m) = d + m + D by omega]
theorem ckInt {t : TypeId} {k : IntKind} (hu : P.underlying t = some (.int k)) : CkT P 1 t 1 false := fun em d w vs _ => by
  unfold Instr.checkKey
  simp [run_underlying hu]
theorem ckArr {D n m : Nat} {t e : TypeId} {ag : Bool} (hu : P.underlying t = some (.array m e)) (hs : ∀ w, (sizeOf e).run P w = .ok n w) (ha : ∀ w, (isAgg e).run P w = .ok ag w) (h1 : ag = false → n = 1) (h : CkT P D e n ag) : CkT P (D + 1) t (m * n) true := fun em d w vs hl => by
  show (Instr.checkKey em (d + D + 1) t (.agg vs.toArray)).run P w = _
  rw [Instr.checkKey]
  simp only [Sem.run_bind, run_underlying hu, Result.andThen_ok]
  simp only [Std.Legacy.Range.forIn_eq_forIn_range', Std.Legacy.Range.size, Nat.sub_zero, Nat.add_one_sub_one, Nat.div_one]
  have each : ∀ j ∈ List.range' 0 m, j < m := fun j hj => by simpa using hj
  generalize List.range' 0 m = is at each
  induction is with
  | nil => simp
  | cons j is ih =>
    have hj := each j (by simp)
    have hle : j * n + n ≤ vs.length := by
      have := Nat.mul_le_mul_right n (show j + 1 ≤ m from hj)
      rw [Nat.add_mul] at this
      omega
    have p1 := part_pk (P := P) (vs := vs) (off := j * n) w hs ha h1 hle
    have p2 := h em d w ((vs.drop (j * n)).take n) (by rw [List.length_take, List.length_drop]; omega)
    simp only [List.forIn_cons, Sem.run_bind, hs, Result.andThen_ok, p1, p2, Sem.run_pure]
    exact ih (fun y hy => each y (by simp [hy]))
def CkF (P : Program) (D n : Nat) : List Field → Prop
  | [] => True
  | f :: r => (f.name != "_") = true ∧ (∃ m ag, (∀ w, (sizeOf f.type).run P w = .ok m w) ∧ (∀ w, (isAgg f.type).run P w = .ok ag w) ∧ (ag = false → m = 1) ∧ f.offset + m ≤ n ∧ CkT P D f.type m ag) ∧ CkF P D n r
theorem ckStruct {D n : Nat} {t : TypeId} {fs : Array Field} (hu : P.underlying t = some (.struct fs)) (h : CkF P D n fs.toList) : CkT P (D + 1) t n true := fun em d w vs hl => by
  show (Instr.checkKey em (d + D + 1) t (.agg vs.toArray)).run P w = _
  rw [Instr.checkKey]
  simp only [Sem.run_bind, run_underlying hu, Result.andThen_ok]
  rw [← Array.forIn_toList]
  generalize fs.toList = L at h
  induction L with
  | nil => simp
  | cons f L ih =>
    obtain ⟨hn, ⟨m, ag, hs, ha, h1, hle, hc⟩, hr⟩ := h
    have hn : f.name ≠ "_" := by simpa using hn
    have p1 := part_pk (P := P) (vs := vs) (off := f.offset) w hs ha h1 (by omega)
    have p2 := hc em d w ((vs.drop f.offset).take m) (by rw [List.length_take, List.length_drop]; omega)
    simp only [List.forIn_cons, Sem.run_bind, hn, ne_eq, not_false_eq_true, if_true, Result.andThen_ok, p1, p2, Sem.run_pure]
    exact ih hr
def Res.mpS (b n : Nat) (ks : List By) : Res where
  foot := (· = b)
  pred := fun w => ∃ es clock, w.heap[b]? = some (.map es clock) ∧ es.toList.map (fun e => (e.key, e.val)) = ks.map fun s => (.agg (bs n s).toArray, .bool true)
  loc := fun _ _ h hp => by
    obtain ⟨es, c, h1, h2⟩ := hp
    exact ⟨es, c, (h b rfl).trans h1, h2⟩
structure KeyS (P : Program) (t : TypeId) (n : Nat) : Prop where
  wide : ∃ fs, P.underlying t = some (.struct fs)
  eq : ∀ (w : World) (u v : By), (Op.equal t (.agg (bs n u).toArray) (.agg (bs n v).toArray)).run P w = .ok (same n u v) w
  ck : ∀ (em : Bool) (w : World) (u : By), (Instr.checkKey em 10000 t (.agg (bs n u).toArray)).run P w = .ok () w
theorem keyS {D D2 n : Nat} {t : TypeId} {fs : Array Field} (hu : P.underlying t = some (.struct fs)) (h : EqT P D t (List.replicate n .u8) true) (hD : Nat.ble D 10000 = true) (hc : CkT P D2 t n true) (hD2 : Nat.ble D2 10000 = true) : KeyS P t n where
  wide := ⟨fs, hu⟩
  eq := fun w u v => by
    have hD := Nat.le_of_ble_eq_true hD
    have := h (10000 - D) w (bs n u) (bs n v) (by rw [bs_map]; have := fits_bytes ((List.range n).map u); simpa using this) (by rw [bs_map]; have := fits_bytes ((List.range n).map v); simpa using this)
    rw [show 10000 - D + D = 10000 by omega, bs_map, bs_map, ceq_bytes] at this;rw [bs_map, bs_map]
    exact this
  ck := fun em w u => by
    have hD := Nat.le_of_ble_eq_true hD2
    have := hc em (10000 - D2) w (bs n u) (bs_length _ _)
    rwa [show 10000 - D2 + D2 = 10000 by omega] at this
theorem findAsk_S {t : TypeId} {n : Nat} (hk : KeyS P t n) (u : By) : ∀ (es : List MapEntry) (ks : List By) (i : Nat), es.map (fun e => (e.key, e.val)) = ks.map (fun s => (.agg (bs n s).toArray, .bool true)) →
    ∃ r, (Instr.findAsking t (.agg (bs n u).toArray) es i).run P w = .ok r w ∧ (ks.any (fun y => same n u y) = true → ∃ j, r = some (j, .bool true)) ∧ (ks.any (fun y => same n u y) = false → r = none)
  | [], [], i, _ => ⟨none, by simp [Instr.findAsking], fun h => by simp at h, fun _ => rfl⟩
  | e :: es, y :: ks, i, h => by
    simp only [List.map_cons, List.cons.injEq, Prod.mk.injEq] at h
    obtain ⟨⟨h1, h2⟩, h3⟩ := h
    have he := hk.eq w u y
    rw [← h1] at he
    cases hs : same n u y with
    | true =>
      rw [hs] at he
      refine ⟨some (i, .bool true), by simp [Instr.findAsking, he, h2], fun _ => ⟨i, rfl⟩, fun hh => by simp [hs] at hh⟩
    | false =>
      rw [hs] at he
      obtain ⟨r, hr, hr1, hr2⟩ := findAsk_S hk u es ks (i + 1) h3
      refine ⟨r, by simp [Instr.findAsking, he, hr], fun hh => hr1 (by simpa [hs] using hh), fun hh => hr2 (by simpa [hs] using hh)⟩
  | [], _ :: _, _, h => by simp at h
  | _ :: _, [], _, h => by simp at h
theorem findKey_S {t : TypeId} {n : Nat} (hk : KeyS P t n) (u : By) {es : List MapEntry} {ks : List By} (h : es.map (fun e => (e.key, e.val)) = ks.map (fun s => (.agg (bs n s).toArray, .bool true))) (w : World) :
    ∃ r, (Instr.findKey t (.agg (bs n u).toArray) es).run P w = .ok r w ∧ (ks.any (fun y => same n u y) = true → ∃ j, r = some (j, .bool true)) ∧ (ks.any (fun y => same n u y) = false → r = none) := by
  obtain ⟨fs, hu⟩ := hk.wide
  obtain ⟨r, hr, hr1, hr2⟩ := findAsk_S (w := w) hk u es ks 0 h
  cases es with
  | nil =>
    refine ⟨none, by simp [Instr.findKey, run_underlying hu, Instr.findNow], fun hh => ?_, fun _ => rfl⟩
    cases ks with
    | nil => simp at hh
    | cons _ _ => simp at h
  | cons e es =>
    refine ⟨r, ?_, hr1, hr2⟩
    unfold Instr.findKey
    simp only [Sem.run_bind, run_underlying hu, Result.andThen_ok, Instr.findNow, Instr.sameNow]
    exact hr
theorem sMkS {t : TypeId} (n : Nat) (H : Own w0 row w rs) (F : Has N a env) (hg : wants l env g = true) (hN : Nat.blt d N = true)
    (K : ∀ b a w, Has N a ((d, .map (some b)) :: env) → Own w0 row w (.mpS b n [] :: rs) → wpList P l.toArray Q rest a w) : wpList P l.toArray Q (⟨some d, .makeMap t none, ty, pos, af, g⟩ :: rest) a w :=
  stepV F hg rfl hN (v := .map (some w.heap.size)) (w' := w.alloc (.map #[] 0)) (by simp [execOp, run_makeMap]) (fun a' F' => K _ _ _ F' (H.add (.mpS w.heap.size n []) ((Below.refl _ _).alloc (Nat.le_refl _) _)
    ⟨#[], 0, heap_alloc_new w _, rfl⟩ (fun b hb => by cases hb; exact ⟨Nat.le_refl _, by simp⟩)))
theorem ins_run {t kt et : TypeId} {n b : Nat} {u : By} {ks : List By} (H : Own w0 row w rs) (i : Nat) (ht : P.underlying t = some (.map kt et)) (hk : KeyS P kt n) (hi : rs[i]? = some (.mpS b n ks)) (hn : ks.any (fun y => same n u y) = false) :
    ∃ w', (Instr.mapUpdate t (.map (some b)) (.agg (bs n u).toArray) (.bool true)).run P w = .ok () w' ∧ Own w0 row w' (rs.set i (.mpS b n (ks ++ [u]))) := by
  obtain ⟨es, clock, h1, h2⟩ := H.pred i _ hi
  obtain ⟨r, hr, _, hr2⟩ := findKey_S (P := P) hk u h2 w
  have hr2 := hr2 hn
  subst hr2
  have hbs : b < w.heap.size := by
    rcases Nat.lt_or_ge b w.heap.size with h | h
    · exact h
    · rw [Array.getElem?_eq_none h] at h1; cases h1
  refine ⟨{ w with heap := w.heap.setIfInBounds b (.map (es.push { key := .agg (bs n u).toArray, val := .bool true, born := clock }) (clock + 1)) }, ?_, ?_⟩
  · simp only [Instr.mapUpdate, Sem.run_bind, run_underlying ht, Result.andThen_ok]
    have hgo : (getObj b).run P w = .ok (.map es clock) w := MapKept.run_getObj_map h1
    simp only [hgo, Result.andThen_ok, Sem.run_bind, hk.ck, hr]
    simp only [MapKept.run_setObj_map _ h1]
  · refine H.turn i hi _ ?_ (by simp) (fun c hc hne => by simp [Ne.symm hne]) ⟨es.push { key := .agg (bs n u).toArray, val := .bool true, born := clock }, clock + 1, by simp [hbs], by simp [h2]⟩ (fun c hc => ⟨.inl hc, by cases hc; simpa using hbs⟩)
    refine ⟨H.grown.os, H.grown.tape, H.grown.output, by simpa using H.grown.size, fun c hc hne => ?_⟩
    have hcb : c ≠ b := by
      rintro rfl
      rcases (H.foot i _ hi c rfl).1 with h | h
      · omega
      · exact hne h
    have := H.grown.block c hc hne
    simpa [Array.getElem?_setIfInBounds, Ne.symm hcb] using this
theorem sInsS {t kt et : TypeId} {m x y : Operand} {n b : Nat} {u : By} {ks : List By} (H : Own w0 row w rs) (i : Nat) (ht : P.underlying t = some (.map kt et)) (hk : KeyS P kt n) (F : Has N a env) (hg : wants l env g = true)
    (hm : ev env m = some (.map (some b))) (hx : ev env x = some (.agg (bs n u).toArray)) (hy : ev env y = some (.bool true)) (hi : rs[i]? = some (.mpS b n ks)) (hn : ks.any (fun y => same n u y) = false)
    (K : ∀ w, Own w0 row w (rs.set i (.mpS b n (ks ++ [u]))) → wpList P l.toArray Q rest a w) : wpList P l.toArray Q (⟨none, .insert t m x y, ty, pos, af, g⟩ :: rest) a w := by
  obtain ⟨w', h1, h2⟩ := ins_run (P := P) H i ht hk hi hn
  exact stepU F hg rfl (w' := w') (by simp only [execOp, F.eval hm, F.eval hx, F.eval hy, Sem.run_bind, h1, Result.andThen_ok, Sem.run_pure]) (K _ h2)
theorem sUpdS {t kt et : TypeId} {m x y : Operand} {n b : Nat} {u : By} {ks : List By} (H : Own w0 row w rs) (i : Nat) (ht : P.underlying t = some (.map kt et)) (hk : KeyS P kt n) (F : Has N a env) (hg : wants l env g = true)
    (hm : ev env m = some (.map (some b))) (hx : ev env x = some (.agg (bs n u).toArray)) (hy : ev env y = some (.bool true)) (hi : rs[i]? = some (.mpS b n ks)) (hn : ks.any (fun y => same n u y) = false)
    (K : ∀ w, Own w0 row w (rs.set i (.mpS b n (ks ++ [u]))) → wpList P l.toArray Q rest a w) : wpList P l.toArray Q (⟨none, .mapUpdate t m x y, ty, pos, af, g⟩ :: rest) a w := by
  obtain ⟨w', h1, h2⟩ := ins_run (P := P) H i ht hk hi hn
  exact stepU F hg rfl (w' := w') (by simp only [execOp, F.eval hm, F.eval hx, F.eval hy, Sem.run_bind, h1, Result.andThen_ok, Sem.run_pure]) (K _ h2)
theorem sLkS {t kt et : TypeId} {m x : Operand} {n b : Nat} {u : By} {ks : List By} (H : Own w0 row w rs) (i : Nat) (ht : P.underlying t = some (.map kt et)) (hk : KeyS P kt n) (hz : ∀ w, (zeroValue et).run P w = .ok (.bool false) w) (F : Has N a env) (hg : wants l env g = true) (hN : Nat.blt d N = true)
    (hm : ev env m = some (.map (some b))) (hx : ev env x = some (.agg (bs n u).toArray)) (hi : rs[i]? = some (.mpS b n ks))
    (K : ∀ a, Has N a ((d, .bool (ks.any fun y => same n u y)) :: env) → wpList P l.toArray Q rest a w) : wpList P l.toArray Q (⟨some d, .lookup t m x false, ty, pos, af, g⟩ :: rest) a w :=
  stepV F hg rfl hN (by
    obtain ⟨es, clock, h1, h2⟩ := H.pred i _ hi
    obtain ⟨r, hr, hr1, hr2⟩ := findKey_S (P := P) hk u h2 w
    have hgo : (getObj b).run P w = .ok (.map es clock) w := MapKept.run_getObj_map h1
    cases hs : ks.any (fun y => same n u y) with
    | true =>
      obtain ⟨j, rfl⟩ := hr1 hs
      simp only [execOp, F.eval hm, F.eval hx, Instr.lookup, Sem.run_bind, run_underlying ht, Result.andThen_ok, hgo, Sem.run_pure, hk.ck, hr]
      rfl
    | false =>
      have := hr2 hs
      subst this
      simp only [execOp, F.eval hm, F.eval hx, Instr.lookup, Sem.run_bind, run_underlying ht, Result.andThen_ok, hgo, Sem.run_pure, hk.ck, hr, hz]
      rfl) K
theorem qLkS {t kt et : TypeId} {m x : Operand} {n b : Nat} {u : By} {ks : List By} (H : Own w0 row w rs) (i : Nat) (ht : P.underlying t = some (.map kt et)) (hk : KeyS P kt n) (hz : ∀ w, (zeroValue et).run P w = .ok (.bool false) w) (hg : wants l env g = true) (hN : Nat.blt d N = true) (hm : ev env m = some (.map (some b))) (hx : ev env x = some (.agg (bs n u).toArray)) (hi : rs[i]? = some (.mpS b n ks)) (K : ∀ a, Has N a ((d, .bool (ks.any fun y => same n u y)) :: env) → wpList P l.toArray Q rest a w) : ∀ a, Has N a env → wpList P l.toArray Q (⟨some d, .lookup t m x false, ty, pos, af, g⟩ :: rest) a w := fun a F => sLkS H i ht hk hz F hg hN hm hx hi K
theorem bRetD1 {fn : Func} {R : Ending → World → Prop} {t u : Tmp} {st : TypeId} {b n : Nat} {cs : List Value} {bt : TypeId} {dd : TypeDesc} {y : Value} (hres : fn.results = #[.cell t st, .tmp u]) (F : Has N a env) (hv : lk env t = some (.pointer (some ⟨b, 0, .none⟩))) (hy : lk env u = some y)
    (hu : P.underlying st = some dd) (hdd : dd.isRow = true) (H : Own w0 row w rs) (i : Nat) (hi : rs[i]? = some (.blk b cs bt)) (hz : ∀ w, (sizeOf st).run P w = .ok n w) (hn : Nat.beq cs.length n = true) (h : R (.returned (.tuple #[.agg cs.toArray, y])) w) : bodyPost P fn R .ret a w :=
  bodyPost_ret (results_own_tmp hres F hv hy hu hdd (by rw [Nat.eq_of_beq_eq_true hn]; exact info_size hz) (H.blk i hi)) F.nod h
end
-- VcY
open Go.RowKit
section
variable {P : Program} {l : List Oper} {Q : Exit → Act → World → Prop} {N : Nat} {a : Act} {env : List (Nat × Value)} {rest : List Oper} {d : Tmp} {ty : TypeId} {pos : String} {af : Array Edge} {g : Option (Nat × Bool)}
  {w0 w : World} {row : Option Nat} {rs : List Res} {Kt : Act → World → Prop}
theorem sMk {t e : TypeId} {x y : Operand} {n bytes : Nat} {z : Value} {k k' : IntKind} (H : Own w0 row w rs) (ht : P.underlying t = some (.slice e)) (hinfo : (P.info? e).map (fun i => (i.zero, i.size, i.bytes)) = some (some z, 1, bytes)) (hz1 : z.cells = #[z])
    (F : Has N a env) (hg : wants l env g = true) (hN : Nat.blt d N = true) (hx : ev env x = some (.int k (n : Int))) (hy : ev env y = some (.int k' (n : Int))) (hb : bytes * n ≤ 281474976710656) (h63 : n ≤ 9223372036854775807)
    (K : ∀ b a w, Has N a ((d, .slice (some ⟨b, 0, none⟩) n n) :: env) → Own w0 row w (.blk b (List.replicate n z) e :: rs) → wpList P l.toArray Q rest a w) : wpList P l.toArray Q (⟨some d, .makeSlice t x y, ty, pos, af, g⟩ :: rest) a w := by
  have h2 := run_make_row' (P := P) t e z bytes ht hinfo hz1 k k' n hb h63 w
  have h3 : (execOp a.eval ⟨some d, .makeSlice t x y, ty, pos, af, g⟩).run P w = .ok (.value (.slice (some ⟨w.heap.size, 0, none⟩) n n)) (w.alloc (.cells (madeCells #[z] n) e)) := by
    simp only [execOp, F.eval hx, F.eval hy, Sem.run_bind, h2]
    rfl
  refine stepV F hg rfl hN h3 (fun _ F' => K _ _ _ F' ?_)
  have := H.alloc (madeCells #[z] n) e
  rw [toList_madeCells_one] at this
  exact this
theorem cpL_run {t e : TypeId} {b o b2 o2 dLen dCap sLen sCap : Nat} {cs news : List Value} {bt : TypeId} (H : Own w0 row w rs) (i : Nat) (ht : P.underlying t = some (.slice e)) (hz : ∀ w, (sizeOf e).run P w = .ok 1 w)
    (hr : rs[i]? = some (.blk b cs bt)) (hnews : w.rangeAt b2 o2 news) (hl : news.length = min sLen dLen) (h1 : news.all (·.oneCell') = true) (hfit : o + news.length ≤ cs.length) (ty : TypeId) :
    ∃ w', (Builtin.copy_ #[t, t] ty #[.slice (some ⟨b, o, none⟩) dLen dCap, .slice (some ⟨b2, o2, none⟩) sLen sCap]).run P w = .ok (goInt ((min sLen dLen : Nat) : Int)) w' ∧ Own w0 row w' (rs.set i (.blk b (splice cs o news) bt)) := by
  have hs : (P.info? e).map (·.size) = some 1 := info_size hz
  have hrun := run_copy_cells (P := P) w t t ty e b o dLen dCap ⟨b2, o2, none⟩ sLen sCap news ht hs (hl.trans rfl)
    (fun j v hv => by rw [Addr.add_mid]; exact hnews j v hv)
    (fun j hj => by rw [H.cell i hr (List.getElem?_eq_getElem (by omega))]; exact Option.isSome_some) (fun j hj => (H.blk i hr).frozen _) (fun v hv => List.all_eq_true.1 h1 v hv)
  rw [hl] at hrun
  exact ⟨_, hrun, H.setCells i news o w rs cs hr⟩
theorem sCpL {t e : TypeId} {x y : Operand} {b o b2 o2 dLen dCap sLen sCap : Nat} {cs news : List Value} {bt : TypeId} (H : Own w0 row w rs) (i : Nat) (ht : P.underlying t = some (.slice e)) (hz : ∀ w, (sizeOf e).run P w = .ok 1 w)
    (F : Has N a env) (hg : wants l env g = true) (hN : Nat.blt d N = true) (hx : ev env x = some (.slice (some ⟨b, o, none⟩) dLen dCap)) (hy : ev env y = some (.slice (some ⟨b2, o2, none⟩) sLen sCap))
    (hr : rs[i]? = some (.blk b cs bt)) (hnews : w.rangeAt b2 o2 news) (hl : news.length = min sLen dLen) (h1 : news.all (·.oneCell') = true) (hfit : o + news.length ≤ cs.length)
    (K : ∀ a w, Has N a ((d, goInt ((min sLen dLen : Nat) : Int)) :: env) → Own w0 row w (rs.set i (.blk b (splice cs o news) bt)) → wpList P l.toArray Q rest a w) :
    wpList P l.toArray Q (⟨some d, .call ⟨.builtin .copy, #[x, y], #[t, t]⟩, ty, pos, af, g⟩ :: rest) a w := by
  obtain ⟨w', h2, h3⟩ := cpL_run (P := P) (dCap := dCap) (sCap := sCap) H i ht hz hr hnews hl h1 hfit ty
  exact stepV F hg rfl hN (cp_exec F hx hy h2) (fun a F' => K a w' F' h3)
theorem oCpL {t e : TypeId} {x y : Operand} {b o b2 o2 dLen dCap sLen sCap : Nat} {cs news : List Value} {bt : TypeId} (H : Own w0 row w rs) (i : Nat) (ht : P.underlying t = some (.slice e)) (hz : ∀ w, (sizeOf e).run P w = .ok 1 w)
    (F : Has N a env) (hN : Nat.blt d N = true) (hx : ev env x = some (.slice (some ⟨b, o, none⟩) dLen dCap)) (hy : ev env y = some (.slice (some ⟨b2, o2, none⟩) sLen sCap))
    (hr : rs[i]? = some (.blk b cs bt)) (hnews : w.rangeAt b2 o2 news) (hl : news.length = min sLen dLen) (h1 : news.all (·.oneCell') = true) (hfit : o + news.length ≤ cs.length)
    (K : ∀ a w, Has N a ((d, goInt ((min sLen dLen : Nat) : Int)) :: env) → Own w0 row w (rs.set i (.blk b (splice cs o news) bt)) → Kt a w) :
    (Oper.mk (some d) (.call ⟨.builtin .copy, #[x, y], #[t, t]⟩) ty pos af g).wp P a w (fun a w => Kt a w) Q := by
  obtain ⟨w', h2, h3⟩ := cpL_run (P := P) (dCap := dCap) (sCap := sCap) H i ht hz hr hnews hl h1 hfit ty
  exact oV F rfl hN (cp_exec F hx hy h2) (fun a F' => K a w' F' h3)
theorem rSlL {t e : TypeId} {x lo : Operand} {b o n c i sz : Nat} {k' : IntKind} (ht : P.underlying t = some (.slice e)) (hz : ∀ w, (sizeOf e).run P w = .ok sz w) (F : Has N a env) (hx : ev env x = some (.slice (some ⟨b, o, none⟩) n c)) (hl : ev env lo = some (.int k' (i : Int))) (hi : i ≤ n) (hc : i < c) :
    (execOp a.eval ⟨some d, .slice t x (some lo) none none, ty, pos, af, g⟩).run P w = .ok (.value (.slice (some ⟨b, o + i * sz, none⟩) (n - i) (c - i))) w := by
  have he : P.elem t = e := by simp [Program.elem, ht]
  have h1 := run_slice_l (P := P) w t (some ⟨b, o, none⟩) n c (elem_of ht) k' (i : Int) (by omega) (by omega)
  rw [he, hz] at h1
  have h3 : (Instr.slice t (.slice (some ⟨b, o, none⟩) n c) (some (.int k' (i : Int))) none none).run P w = .ok (.slice (some ⟨b, o + i * sz, none⟩) (n - i) (c - i)) w := by
    rw [h1]
    simp only [Result.andThen_ok, sliced, Int.toNat_natCast]
    rw [if_neg (by omega)]
    simp [Addr.add_mid]
  simp only [execOp, Option.map_some, Option.map_none, F.eval hx, F.eval hl, Sem.run_bind, run_sliceAt_slice w t _ _ _ none (elem_of ht), h3]
  rfl
theorem sSlL {t e : TypeId} {x lo : Operand} {b o n c i sz : Nat} {k' : IntKind} (ht : P.underlying t = some (.slice e)) (hz : ∀ w, (sizeOf e).run P w = .ok sz w) (F : Has N a env) (hg : wants l env g = true) (hN : Nat.blt d N = true) (hx : ev env x = some (.slice (some ⟨b, o, none⟩) n c)) (hl : ev env lo = some (.int k' (i : Int))) (hi : i ≤ n) (hc : i < c)
    (K : ∀ a, Has N a ((d, .slice (some ⟨b, o + i * sz, none⟩) (n - i) (c - i)) :: env) → wpList P l.toArray Q rest a w) : wpList P l.toArray Q (⟨some d, .slice t x (some lo) none none, ty, pos, af, g⟩ :: rest) a w :=
  stepV F hg rfl hN (rSlL ht hz F hx hl hi hc) K
end
section
variable {P : Program} {t : TypeId} {x y : Operand} {n m : Nat}
theorem u64wrap (n : Int) : IntKind.u64.wrap n = n % 18446744073709551616 := by simp [IntKind.wrap, IntKind.signed, IntKind.bits]
theorem wrapU (h : n < 18446744073709551616) : IntKind.u64.wrap (n : Int) = (n : Int) := by rw [u64wrap]; omega
theorem bMulU (h : n * m < 18446744073709551616) : BinR P .mul t x y (.int .u64 (n : Int)) (.int .u64 (m : Int)) (.int .u64 ((n * m : Nat) : Int)) := fun w => by
  have : (do eqGuard .mul t x y (.int .u64 (n : Int)) (.int .u64 (m : Int)); binOp .mul t (.int .u64 (n : Int)) (.int .u64 (m : Int)) : Sem Value).run P w = .ok (.int .u64 (IntKind.u64.wrap ((n : Int) * (m : Int)))) w := by simp [eqGuard, binOp, Op.intArith, go_sem]
  rw [this, ← Int.natCast_mul, wrapU h]
theorem bAddU (h : n + m < 18446744073709551616) : BinR P .add t x y (.int .u64 (n : Int)) (.int .u64 (m : Int)) (.int .u64 ((n + m : Nat) : Int)) := fun w => by
  rw [bAdd w, ← Int.natCast_add, wrapU h]
theorem bShrU (h : n < 4294967296) : BinR P .shr t x y (.int .u64 (n : Int)) (.int .u64 32) (.int .u64 ((0 : Nat) : Int)) := fun w => by
  have h2 : Op.shift .shr .u64 (n : Int) .u64 32 = pure (.int .u64 ((n : Int) / 2 ^ (32 : Int).toNat)) := shift_shr .u64 .u64 (n : Int) 32 (by omega) (by decide)
  simp only [eqGuard_shr, binOp_shr, h2]
  show Result.ok (Value.int .u64 ((n : Int) / 2 ^ (32 : Int).toNat)) w = _
  have e : (n : Int) / 2 ^ (32 : Int).toNat = ((0 : Nat) : Int) := by
    show (n : Int) / 4294967296 = ((0 : Nat) : Int)
    omega
  rw [e]
theorem bAndU (h : n < 4294967296) : BinR P .and t x y (.int .u64 (n : Int)) (.int .u64 4294967295) (.int .u64 (n : Int)) := fun w => by
  simp only [eqGuard, binOp, Op.intBits, go_sem]
  show Result.ok (Value.int .u64 (IntKind.u64.wrap ((BitVec.ofInt 64 (n : Int) &&& BitVec.ofInt 64 4294967295).toNat : Int))) w = _
  have e1 : (BitVec.ofInt 64 (n : Int) &&& BitVec.ofInt 64 4294967295).toNat = n := by
    rw [BitVec.toNat_and, BitVec.ofInt_natCast, BitVec.toNat_ofNat]
    have : (BitVec.ofInt 64 4294967295).toNat = 2 ^ 32 - 1 := by decide
    rw [this, Nat.and_two_pow_sub_one_eq_mod]
    omega
  rw [e1, wrapU (by omega)]
end
theorem Own.turned {w0 w w' : World} {row : Option Nat} {rs : List Res} {b : Nat} {cs cs' : List Value} {t : TypeId} (H : Own w0 row w rs) (i : Nat) (hi : rs[i]? = some (.blk b cs t)) (H2 : Own w (some b) w' [.blk b cs' t]) : Own w0 row w' (rs.set i (.blk b cs' t)) where
  grown := by
    have hb := H.foot i _ hi b rfl
    refine ⟨?_, ?_, ?_, Nat.le_trans H.grown.size H2.grown.size, fun j hj hne => ?_⟩
    · rw [H2.grown.os, H.grown.os]
    · rw [H2.grown.tape, H.grown.tape]
    · rw [H2.grown.output, H.grown.output]
    · rw [H2.grown.block j (Nat.lt_of_lt_of_le hj H.grown.size) (fun e => by
        cases e
        rcases hb.1 with h | h
        · omega
        · exact hne h), H.grown.block j hj hne]
  pred := fun j r hj => by
    rw [List.getElem?_set] at hj
    split at hj
    · split at hj
      · cases hj; exact H2.pred 0 _ rfl
      · cases hj
    · rename_i hne
      refine r.loc w w' (fun c hc => ?_) (H.pred j r hj)
      have hcb := H.foot j r hj c hc
      refine H2.grown.block c hcb.2 (fun e => ?_)
      have e : c = b := Option.some.inj e
      exact H.apart j i r _ hj hi (fun e => hne e.symm) c hc e
  foot := fun j r hj c hc => by
    rw [List.getElem?_set] at hj
    split at hj
    · split at hj
      · cases hj
        exact ⟨(H.foot i _ hi c hc).1, Nat.lt_of_lt_of_le (H.foot i _ hi c hc).2 H2.grown.size⟩
      · cases hj
    · exact ⟨(H.foot j r hj c hc).1, Nat.lt_of_lt_of_le (H.foot j r hj c hc).2 H2.grown.size⟩
  apart := fun j k r s hj hk hjk c hc hs => by
    have key : ∀ (j : Nat) (r : Res), (rs.set i (.blk b cs' t))[j]? = some r → ∃ r', rs[j]? = some r' ∧ ∀ c, r.foot c ↔ r'.foot c := fun j r hj => by
      rw [List.getElem?_set] at hj
      split at hj
      · rename_i e
        split at hj
        · cases hj; subst e; exact ⟨_, hi, fun c => Iff.rfl⟩
        · cases hj
      · exact ⟨r, hj, fun c => Iff.rfl⟩
    obtain ⟨r', h1, h2⟩ := key j r hj
    obtain ⟨s', h3, h4⟩ := key k s hk
    exact H.apart j k r' s' h1 h3 hjk c ((h2 c).1 hc) ((h4 c).1 hs)
-- VcZ
open Go.RowKit
section
variable {P : Program} {l : List Oper} {Q : Exit → Act → World → Prop} {N : Nat} {a : Act} {env : List (Nat × Value)} {rest : List Oper} {d : Tmp} {ty : TypeId} {pos : String} {af : Array Edge} {g : Option (Nat × Bool)}
  {w0 w : World} {row : Option Nat} {rs : List Res} {Kt : Act → World → Prop}
theorem Own.fuse {r s : Res} (H : Own w0 row w (r :: s :: rs)) (r' : Res) (hp : r'.pred w) (hf : ∀ b, r'.foot b → r.foot b ∨ s.foot b) : Own w0 row w (r' :: rs) where
  grown := H.grown
  pred := fun i q hi => by
    cases i with
    | zero => cases hi; exact hp
    | succ i => exact H.pred (i + 2) q hi
  foot := fun i q hi b hb => by
    cases i with
    | zero =>
      cases hi
      rcases hf b hb with h | h
      · exact H.foot 0 r rfl b h
      · exact H.foot 1 s rfl b h
    | succ i => exact H.foot (i + 2) q hi b hb
  apart := fun i j q u hi hj hij b h1 h2 => by
    cases i with
    | zero =>
      cases hi
      cases j with
      | zero => exact hij rfl
      | succ j =>
        rcases hf b h1 with h | h
        · exact H.apart 0 (j + 2) r u rfl hj (by omega) b h h2
        · exact H.apart 1 (j + 2) s u rfl hj (by omega) b h h2
    | succ i =>
      cases j with
      | zero =>
        cases hj
        rcases hf b h2 with h | h
        · exact H.apart 0 (i + 2) r q rfl hi (by omega) b h h1
        · exact H.apart 1 (i + 2) s q rfl hi (by omega) b h h1
      | succ j => exact H.apart (i + 2) (j + 2) q u hi hj (by omega) b h1 h2
theorem Own.void (H : Own w0 row w rs) (r : Res) (hp : r.pred w) (hf : ∀ b, ¬ r.foot b) : Own w0 row w (r :: rs) :=
  H.add r (Below.refl _ _) hp (fun b hb => absurd hb (hf b))
theorem Own.seen {r : Res} (H : Own w0 row w (r :: rs)) (r' : Res) (hp : r'.pred w) (hf : ∀ b, r'.foot b → r.foot b) : Own w0 row w (r' :: rs) :=
  (H.void ⟨fun _ => False, fun _ => True, fun _ _ _ _ => trivial⟩ trivial (fun _ h => h)).fuse r' hp (fun b hb => .inr (hf b hb))
theorem Own.emptyRws {b : Nat} {e : TypeId} (H : Own w0 row w (.blk b [] e :: rs)) (sz : Nat) : Own w0 row w (.rws e sz (.slice (some ⟨b, 0, .none⟩) 0 0) [] :: rs) :=
  H.seen _ (show w.ownsRow 0 e sz (.slice (some ⟨b, 0, .none⟩) 0 0) 0 [] from ⟨by simp, .inr ⟨b, 0, #[], rfl, Nat.zero_le _, H.blk 0 rfl, Nat.le_refl _, Nat.zero_le _, by simp, by simp⟩⟩)
    (fun c hc => by
      have : b = c := by simpa [Res.rws, Res.arr, Value.ownBlock] using hc
      exact this.symm)
theorem appM_run {t e : TypeId} {v : Value} {rows news : List (List Value)} {ad : Addr} {m c : Nat} {ti : TypeInfo} {z : Value} {sz bytes : Nat} (H : Own w0 row w rs) (i : Nat) (ht : P.underlying t = some (.slice e))
    (hi : ∀ w, (typeInfo e).run P w = .ok ti w) (hz : ti.zero = some z) (hsize : ti.size = sz) (hby : ti.bytes = bytes) (hzs : z.cells.size = sz) (hsz : Nat.blt 0 sz = true) (hb1 : Nat.blt 0 bytes = true)
    (hr : rs[i]? = some (.rws e sz v rows)) (hm : news.length = m) (hnews : ∀ j u, news.flatten[j]? = some u → w.cell? (ad.add j) = some u) (hl : ∀ r ∈ news, r.length = sz) (h1 : ∀ r ∈ news, r.all (·.oneCell') = true) (hb : (rows.length + m) * bytes ≤ 140737488355328) (ty : TypeId) :
    ∃ A c' w', (Builtin.append_ #[t, t] ty #[v, .slice (some ad) m c]).run P w = .ok (.slice A (rows ++ news).length c') w' ∧ Own w0 row w' (rs.set i (.rws e sz (.slice A (rows ++ news).length c') (rows ++ news))) := by
  have hsz' := Nat.blt_eq.mp hsz
  have hb1' := Nat.blt_eq.mp hb1
  have hfl : ∀ (q : List (List Value)), (∀ r ∈ q, r.length = sz) → q.flatten.length = q.length * sz := by
    intro q hq
    induction q with
    | nil => simp
    | cons r0 rest ih => rw [List.flatten_cons, List.length_append, ih (fun r hm => hq r (by simp [hm])), hq r0 (by simp), List.length_cons, Nat.add_mul]; omega
  have hlen : rows.length + m ≤ 140737488355328 := Nat.le_trans (Nat.le_mul_of_pos_right _ hb1') hb
  obtain ⟨v', w', hrun, hown, hgr, _, hat⟩ := run_append_own_at (P := P) w 0 t ty e ti z sz bytes ht (info_of hi) hz hsize hby hzs hsz' v rows.length rows.flatten (H.arr i hr) ad m c news.flatten (by rw [hfl news hl, hm])
    hnews (fun u hu => by
      obtain ⟨r, hr1, hr2⟩ := List.mem_flatten.1 hu
      exact (List.all_eq_true.1 (h1 r hr1)) u hr2) (by simp only [maxLen]; omega) hb (Nat.zero_le _)
  have e1 : (rows ++ news).length = rows.length + m := by rw [List.length_append, hm]
  obtain ⟨A, c', rfl⟩ : ∃ A c', v' = .slice A (rows ++ news).length c' := by
    rcases hown.2 with ⟨h2, h3⟩ | ⟨g, cap, cur, h2, _⟩
    · exact ⟨none, 0, by rw [e1, h3]; exact h2⟩
    · exact ⟨_, cap, by rw [e1]; exact h2⟩
  refine ⟨A, c', w', hrun, ?_⟩
  have hlt : ∀ k, (Value.slice A (rows ++ news).length c').ownBlock = some k → k < w'.heap.size := fun k hk => (hown.lt k hk).2
  refine H.turn i hr _ ?_ hgr.size (fun b hb hnb => hgr.block b hb (fun e => hnb (show v.ownBlock = some b from e.symm))) ?_ ?_
  · refine ⟨hgr.os.trans H.grown.os, hgr.tape.trans H.grown.tape, hgr.output.trans H.grown.output, Nat.le_trans H.grown.size hgr.size, fun k hk hne => ?_⟩
    refine (hgr.block k (Nat.lt_of_lt_of_le hk H.grown.size) (fun e => ?_)).trans (H.grown.block k hk hne)
    rcases (H.foot i _ hr k (show v.ownBlock = some k from e.symm)).1 with h | h
    · exact absurd hk (by omega)
    · exact hne h
  · show w'.ownsRow 0 e sz _ (rows ++ news).length (rows ++ news).flatten
    rw [List.flatten_append];rw [e1] at hown ⊢
    exact hown
  · intro b hb
    have hb : (Value.slice A (rows ++ news).length c').ownBlock = some b := hb
    refine ⟨?_, hlt b hb⟩
    rcases hat with h | h
    · exact .inl (show v.ownBlock = some b from h ▸ hb)
    · rw [hb] at h
      cases h
      exact .inr (Nat.le_refl _)
theorem sAppM {t e : TypeId} {s x : Operand} {v : Value} {rows news : List (List Value)} {ad : Addr} {m c : Nat} {ti : TypeInfo} {z : Value} {sz bytes : Nat} (H : Own w0 row w rs) (i : Nat) (ht : P.underlying t = some (.slice e))
    (hi : ∀ w, (typeInfo e).run P w = .ok ti w) (hz : ti.zero = some z) (hsize : ti.size = sz) (hby : ti.bytes = bytes) (hzs : z.cells.size = sz) (hsz : Nat.blt 0 sz = true) (hb1 : Nat.blt 0 bytes = true)
    (F : Has N a env) (hg : wants l env g = true) (hN : Nat.blt d N = true) (hs : ev env s = some v) (hx : ev env x = some (.slice (some ad) m c))
    (hr : rs[i]? = some (.rws e sz v rows)) (hm : news.length = m) (hnews : ∀ j u, news.flatten[j]? = some u → w.cell? (ad.add j) = some u) (hl : ∀ r ∈ news, r.length = sz) (h1 : ∀ r ∈ news, r.all (·.oneCell') = true) (hb : (rows.length + m) * bytes ≤ 140737488355328)
    (K : ∀ A c a w, Has N a ((d, .slice A (rows ++ news).length c) :: env) → Own w0 row w (rs.set i (.rws e sz (.slice A (rows ++ news).length c) (rows ++ news))) → wpList P l.toArray Q rest a w) :
    wpList P l.toArray Q (⟨some d, .call ⟨.builtin .append, #[s, x], #[t, t]⟩, ty, pos, af, g⟩ :: rest) a w := by
  obtain ⟨A, c', w', h2, h3⟩ := appM_run (P := P) (c := c) H i ht hi hz hsize hby hzs hsz hb1 hr hm hnews hl h1 hb ty
  exact stepV F hg rfl hN (app_exec (ty' := ty) F hs hx h2) (fun a F' => K A c' a w' F' h3)
theorem bNil {t e : TypeId} {x y : Operand} {A : Option Addr} {n c : Nat} (ht : P.underlying t = some (.slice e)) : BinR P .eql t x y (.slice A n c) (.slice none 0 0) (.bool A.isNone) := fun w => by
  have h0 : (eqGuard .eql t x y (.slice A n c) (.slice none 0 0)).run P w = .ok () w := by
    simp [eqGuard, run_underlying ht, go_sem]
  cases A with
  | none => simp only [Sem.run_bind, h0, Result.andThen_ok]; exact Lib.run_eql_slice_nil_nil w _ _ ht
  | some a => simp only [Sem.run_bind, h0, Result.andThen_ok]; exact Lib.run_eql_slice_some_nil w a _ _ ht
theorem bRetC1 {fn : Func} {R : Ending → World → Prop} {t u : Tmp} {st : TypeId} {b n : Nat} {cs : List Value} {bt : TypeId} {dd : TypeDesc} {y : Value} (hres : fn.results = #[.cell t st, .tmp u]) (F : Has N a env) (hv : lk env t = some (.pointer (some ⟨b, 0, .none⟩))) (hy : lk env u = some y)
    (hu : P.underlying st = some dd) (hdd : dd.isRow = true) (H : Own w0 row w rs) (i : Nat) (hi : rs[i]? = some (.blk b cs bt)) (hz : ∀ w, (sizeOf st).run P w = .ok n w) (hn : Nat.beq cs.length n = true) (h : R (.returned (.tuple #[.agg cs.toArray, y])) w) : bodyPost P fn R .ret a w :=
  bodyPost_ret (results_own_tmp hres F hv hy hu hdd (by rw [Nat.eq_of_beq_eq_true hn]; exact info_size hz) (H.blk i hi)) F.nod h
theorem RowsAt.flat {w : World} {A : Addr} {sz : Nat} {rows : List (List Value)} (h : RowsAt w (some A) sz rows) (hl : ∀ r ∈ rows, r.length = sz) : ∀ j u, rows.flatten[j]? = some u → w.cell? (A.add j) = some u := by
  have key : ∀ (rows : List (List Value)) (o : Nat), (∀ r ∈ rows, r.length = sz) → (∀ (j : Nat) (cs : List Value), rows[j]? = some cs → ∃ b off, A = ⟨b, off, none⟩ ∧ w.rangeAt b (off + (o + j) * sz) cs) → ∀ j u, rows.flatten[j]? = some u → w.cell? (A.add (o * sz + j)) = some u := by
    intro rows
    induction rows with
    | nil => intro o _ _ j u hu; simp at hu
    | cons r rest ih =>
      intro o hl h j u hu
      have hr : r.length = sz := hl r (by simp)
      rw [List.flatten_cons] at hu
      rcases Nat.lt_or_ge j r.length with hj | hj
      · rw [List.getElem?_append_left hj] at hu
        obtain ⟨b, off, rfl, h2⟩ := h 0 r rfl
        have := h2 j u hu
        rw [Addr.add_mid, ← Nat.add_assoc]
        simpa using this
      · rw [List.getElem?_append_right hj] at hu
        have := ih (o + 1) (fun r hm => hl r (by simp [hm])) (fun k cs hk => by
          obtain ⟨b, off, h1, h2⟩ := h (k + 1) cs hk
          exact ⟨b, off, h1, by rw [show o + 1 + k = o + (k + 1) by omega]; exact h2⟩) (j - r.length) u hu
        rw [Nat.add_mul, Nat.one_mul, ← hr, Nat.add_assoc, show r.length + (j - r.length) = j by omega] at this;rw [← hr]
        exact this
  intro j u hu
  have := key rows 0 hl (fun k cs hk => by
    obtain ⟨b, off, h1, h2⟩ := h k cs hk
    exact ⟨b, off, Option.some.inj h1, by rw [Nat.zero_add]; exact h2⟩) j u hu
  simpa using this
end
-- KtB
open Go.RowKit
variable {P : Program} {l : List Oper} {Q : Exit → Act → World → Prop} {N : Nat} {a : Act} {env : List (Nat × Value)} {rest : List Oper} {d : Tmp} {ty : TypeId} {pos : String} {af : Array Edge} {g : Option (Nat × Bool)}
  {w0 w : World} {row : Option Nat} {rs : List Res} {Kt : Act → World → Prop}
theorem app_none {t e ty : TypeId} {i : TypeInfo} {size n c : Nat} {v : Value} {xs : List Value} (ht : P.underlying t = some (.slice e)) (hi : P.info? e = some i) (ho : w.ownsRow 0 e size v n xs) :
    (Builtin.append_ #[t, t] ty #[v, .slice none 0 c]).run P w = .ok v w := by
  rcases ho.2 with ⟨h1, h2⟩ | ⟨g, cap, cur, h1, _, _, hnc, _⟩
  · subst h1
    simp [Builtin.append_, run_underlying ht, sizeOf, typeInfo, hi, Builtin.lenOf, Builtin.firstCells]
  · subst h1
    simp [Builtin.append_, run_underlying ht, sizeOf, typeInfo, hi, Builtin.lenOf, Builtin.firstCells, hnc, storeCells]
theorem appO_run {t e : TypeId} {v : Value} {rows news : List (List Value)} {A0 : Option Addr} {m c : Nat} {ti : TypeInfo} {z : Value} {sz bytes : Nat} (H : Own w0 row w rs) (i : Nat) (ht : P.underlying t = some (.slice e))
    (hi : ∀ w, (typeInfo e).run P w = .ok ti w) (hz : ti.zero = some z) (hsize : ti.size = sz) (hby : ti.bytes = bytes) (hzs : z.cells.size = sz) (hsz : Nat.blt 0 sz = true) (hb1 : Nat.blt 0 bytes = true)
    (hr : rs[i]? = some (.rws e sz v rows)) (hm : news.length = m) (hnews : RowsAt w A0 sz news) (hl : ∀ r ∈ news, r.length = sz) (h1 : ∀ r ∈ news, r.all (·.oneCell') = true) (hb : (rows.length + m) * bytes ≤ 140737488355328) (ty : TypeId) :
    ∃ A c' w', (Builtin.append_ #[t, t] ty #[v, .slice A0 m c]).run P w = .ok (.slice A (rows ++ news).length c') w' ∧ Own w0 row w' (rs.set i (.rws e sz (.slice A (rows ++ news).length c') (rows ++ news))) := by
  cases A0 with
  | some ad => exact appM_run H i ht hi hz hsize hby hzs hsz hb1 hr hm (hnews.flat hl) hl h1 hb ty
  | none =>
    obtain rfl : news = [] := by
      cases news with
      | nil => rfl
      | cons r rs =>
        obtain ⟨b, o, he, _⟩ := hnews 0 r rfl
        cases he
    obtain rfl : 0 = m := hm
    have ho := H.arr i hr
    have h2 := app_none (ty := ty) (c := c) ht (info_of hi) ho
    obtain ⟨A, c', rfl⟩ : ∃ A c', v = .slice A rows.length c' := by
      rcases ho.2 with ⟨h2, h3⟩ | ⟨g, cap, cur, h2, _⟩
      · exact ⟨none, 0, by rw [h3]; exact h2⟩
      · exact ⟨_, cap, h2⟩
    have e2 : rs.set i (.rws e sz (.slice A rows.length c') rows) = rs := by
      obtain ⟨hi2, he⟩ := List.getElem?_eq_some_iff.1 hr
      rw [← he]
      exact List.set_getElem_self hi2
    refine ⟨A, c', w, ?_, ?_⟩
    · rw [List.append_nil]; exact h2
    · rw [List.append_nil, e2]; exact H
theorem sAppO {t e : TypeId} {s x : Operand} {v : Value} {rows news : List (List Value)} {A0 : Option Addr} {m c : Nat} {ti : TypeInfo} {z : Value} {sz bytes : Nat} (H : Own w0 row w rs) (i : Nat) (ht : P.underlying t = some (.slice e))
    (hi : ∀ w, (typeInfo e).run P w = .ok ti w) (hz : ti.zero = some z) (hsize : ti.size = sz) (hby : ti.bytes = bytes) (hzs : z.cells.size = sz) (hsz : Nat.blt 0 sz = true) (hb1 : Nat.blt 0 bytes = true)
    (F : Has N a env) (hg : wants l env g = true) (hN : Nat.blt d N = true) (hs : ev env s = some v) (hx : ev env x = some (.slice A0 m c))
    (hr : rs[i]? = some (.rws e sz v rows)) (hm : news.length = m) (hnews : RowsAt w A0 sz news) (hl : ∀ r ∈ news, r.length = sz) (h1 : ∀ r ∈ news, r.all (·.oneCell') = true) (hb : (rows.length + m) * bytes ≤ 140737488355328)
    (K : ∀ A c a w, Has N a ((d, .slice A (rows ++ news).length c) :: env) → Own w0 row w (rs.set i (.rws e sz (.slice A (rows ++ news).length c) (rows ++ news))) → wpList P l.toArray Q rest a w) :
    wpList P l.toArray Q (⟨some d, .call ⟨.builtin .append, #[s, x], #[t, t]⟩, ty, pos, af, g⟩ :: rest) a w := by
  obtain ⟨A, c', w', h2, h3⟩ := appO_run (P := P) (c := c) H i ht hi hz hsize hby hzs hsz hb1 hr hm hnews hl h1 hb ty
  exact stepV F hg rfl hN (app_exec (ty' := ty) F hs hx h2) (fun a F' => K A c' a w' F' h3)
end Go.Proofs.YtbgnapmaimkpkaaGreatDoor
