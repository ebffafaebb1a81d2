/-
  WALK2. Maps from structs of bytes to plain values. Conditions: none.
-/
import Derived.Test.YtbgnapmaimkpkaaGreatDoorVcU1
set_option linter.unusedSimpArgs false
set_option linter.unusedVariables false
namespace Go.Proofs.YtbgnapmaimkpkaaGreatDoor
open Go.RowKit
section
variable {P : Program} {l : List Oper} {Q : Exit → Act → World → Prop} {N : Nat} {a : Act} {env : List (Nat × Value)} {rest : List Oper} {d : Tmp} {ty : TypeId} {pos : String} {af : Array Edge} {g : Option (Nat × Bool)}
  {w0 w : World} {row : Option Nat} {rs : List Res}
def entV (n : Nat) (ks : List (By × Value)) : List (Value × Value) := ks.map fun s => (.agg (bs n s.1).toArray, s.2)
def Res.mpV (b n : Nat) (ks : List (By × Value)) : Res where
  foot := (· = b)
  pred := fun w => ∃ es clock, w.heap[b]? = some (.map es clock) ∧ es.toList.map (fun e => (e.key, e.val)) = entV n ks
  loc := fun _ _ h hp => by
    obtain ⟨es, c, h1, h2⟩ := hp
    exact ⟨es, c, (h b rfl).trans h1, h2⟩
def lkV (n : Nat) (u : By) : List (By × Value) → Option Value
  | [] => none
  | y :: r => if same n u y.1 = true then some y.2 else lkV n u r
theorem findAsk_V {t : TypeId} {n : Nat} (hk : KeyS P t n) (u : By) : ∀ (es : List MapEntry) (ks : List (By × Value)) (i : Nat), es.map (fun e => (e.key, e.val)) = entV n ks →
    ∃ r, (Instr.findAsking t (.agg (bs n u).toArray) es i).run P w = .ok r w ∧ r.map (·.2) = lkV n u ks
  | [], [], i, _ => ⟨none, by simp [Instr.findAsking], rfl⟩
  | e :: es, y :: ks, i, h => by
    simp only [entV, List.map_cons, List.cons.injEq, Prod.mk.injEq] at h
    obtain ⟨⟨h1, h2⟩, h3⟩ := h
    have he := hk.eq w u y.1
    rw [← h1] at he
    cases hs : same n u y.1 with
    | true =>
      rw [hs] at he
      exact ⟨some (i, y.2), by simp [Instr.findAsking, he, h2], by simp [lkV, hs]⟩
    | false =>
      rw [hs] at he
      obtain ⟨r, hr, hr1⟩ := findAsk_V hk u es ks (i + 1) h3
      exact ⟨r, by simp [Instr.findAsking, he, hr], by simp [lkV, hs, hr1]⟩
  | [], _ :: _, _, h => by simp [entV] at h
  | _ :: _, [], _, h => by simp [entV] at h
theorem findKey_V {t : TypeId} {n : Nat} (hk : KeyS P t n) (u : By) {es : List MapEntry} {ks : List (By × Value)} (h : es.map (fun e => (e.key, e.val)) = entV n ks) (w : World) :
    ∃ r, (Instr.findKey t (.agg (bs n u).toArray) es).run P w = .ok r w ∧ r.map (·.2) = lkV n u ks := by
  obtain ⟨fs, hu⟩ := hk.wide
  obtain ⟨r, hr, hr1⟩ := findAsk_V (w := w) hk u es ks 0 h
  cases es with
  | nil =>
    refine ⟨none, by simp [Instr.findKey, run_underlying hu, Instr.findNow], ?_⟩
    cases ks with
    | nil => rfl
    | cons _ _ => simp [entV] at h
  | cons e es =>
    refine ⟨r, ?_, hr1⟩
    unfold Instr.findKey
    simp only [Sem.run_bind, run_underlying hu, Result.andThen_ok, Instr.findNow, Instr.sameNow]
    exact hr
theorem sMkV {t : TypeId} (n : Nat) (H : Own w0 row w rs) (F : Has N a env) (hg : wants l env g = true) (hN : Nat.blt d N = true)
    (K : ∀ b a w, Has N a ((d, .map (some b)) :: env) → Own w0 row w (.mpV b n [] :: rs) → wpList P l.toArray Q rest a w) : wpList P l.toArray Q (⟨some d, .makeMap t none, ty, pos, af, g⟩ :: rest) a w :=
  stepV F hg rfl hN (v := .map (some w.heap.size)) (w' := w.alloc (.map #[] 0)) (by simp [execOp, run_makeMap]) (fun a' F' => K _ _ _ F' (H.add (.mpV w.heap.size n []) ((Below.refl _ _).alloc (Nat.le_refl _) _)
    ⟨#[], 0, heap_alloc_new w _, rfl⟩ (fun b hb => by cases hb; exact ⟨Nat.le_refl _, by simp⟩)))
theorem insV_run {t kt et : TypeId} {n b : Nat} {u : By} {v : Value} {ks : List (By × Value)} (H : Own w0 row w rs) (i : Nat) (ht : P.underlying t = some (.map kt et)) (hk : KeyS P kt n) (hi : rs[i]? = some (.mpV b n ks)) (hn : lkV n u ks = none) :
    ∃ w', (Instr.mapUpdate t (.map (some b)) (.agg (bs n u).toArray) v).run P w = .ok () w' ∧ Own w0 row w' (rs.set i (.mpV b n (ks ++ [(u, v)]))) := by
  obtain ⟨es, clock, h1, h2⟩ := H.pred i _ hi
  obtain ⟨r, hr, hr2⟩ := findKey_V (P := P) hk u h2 w
  rw [hn] at hr2
  obtain rfl : r = none := Option.map_eq_none_iff.1 hr2
  have hbs : b < w.heap.size := by
    rcases Nat.lt_or_ge b w.heap.size with h | h
    · exact h
    · rw [Array.getElem?_eq_none h] at h1; cases h1
  refine ⟨{ w with heap := w.heap.setIfInBounds b (.map (es.push { key := .agg (bs n u).toArray, val := v, born := clock }) (clock + 1)) }, ?_, ?_⟩
  · simp only [Instr.mapUpdate, Sem.run_bind, run_underlying ht, Result.andThen_ok]
    have hgo : (getObj b).run P w = .ok (.map es clock) w := MapKept.run_getObj_map h1
    simp only [hgo, Result.andThen_ok, Sem.run_bind, hk.ck, hr]
    simp only [MapKept.run_setObj_map _ h1]
  · refine H.turn i hi _ ?_ (by simp) (fun c hc hne => by simp [Ne.symm hne]) ⟨es.push { key := .agg (bs n u).toArray, val := v, born := clock }, clock + 1, by simp [hbs], by simp [h2, entV]⟩ (fun c hc => ⟨.inl hc, by cases hc; simpa using hbs⟩)
    refine ⟨H.grown.os, H.grown.tape, H.grown.output, by simpa using H.grown.size, fun c hc hne => ?_⟩
    have hcb : c ≠ b := by
      rintro rfl
      rcases (H.foot i _ hi c rfl).1 with h | h
      · omega
      · exact hne h
    have := H.grown.block c hc hne
    simpa [Array.getElem?_setIfInBounds, Ne.symm hcb] using this
theorem sUpdV {t kt et : TypeId} {m x y : Operand} {n b : Nat} {u : By} {v : Value} {ks : List (By × Value)} (H : Own w0 row w rs) (i : Nat) (ht : P.underlying t = some (.map kt et)) (hk : KeyS P kt n) (F : Has N a env) (hg : wants l env g = true)
    (hm : ev env m = some (.map (some b))) (hx : ev env x = some (.agg (bs n u).toArray)) (hy : ev env y = some v) (hi : rs[i]? = some (.mpV b n ks)) (hn : lkV n u ks = none)
    (K : ∀ w, Own w0 row w (rs.set i (.mpV b n (ks ++ [(u, v)]))) → wpList P l.toArray Q rest a w) : wpList P l.toArray Q (⟨none, .mapUpdate t m x y, ty, pos, af, g⟩ :: rest) a w := by
  obtain ⟨w', h1, h2⟩ := insV_run (P := P) H i ht hk hi hn
  exact stepU F hg rfl (w' := w') (by simp only [execOp, F.eval hm, F.eval hx, F.eval hy, Sem.run_bind, h1, Result.andThen_ok, Sem.run_pure]) (K _ h2)
theorem sLkV {t kt et : TypeId} {m x : Operand} {n b : Nat} {u : By} {z : Value} {ks : List (By × Value)} (H : Own w0 row w rs) (i : Nat) (ht : P.underlying t = some (.map kt et)) (hk : KeyS P kt n) (hz : ∀ w, (zeroValue et).run P w = .ok z w) (F : Has N a env) (hg : wants l env g = true) (hN : Nat.blt d N = true)
    (hm : ev env m = some (.map (some b))) (hx : ev env x = some (.agg (bs n u).toArray)) (hi : rs[i]? = some (.mpV b n ks))
    (K : ∀ a, Has N a ((d, .tuple #[(lkV n u ks).getD z, .bool (lkV n u ks).isSome]) :: env) → wpList P l.toArray Q rest a w) : wpList P l.toArray Q (⟨some d, .lookup t m x true, ty, pos, af, g⟩ :: rest) a w :=
  stepV F hg rfl hN (by
    obtain ⟨es, clock, h1, h2⟩ := H.pred i _ hi
    obtain ⟨r, hr, hr1⟩ := findKey_V (P := P) hk u h2 w
    have hgo : (getObj b).run P w = .ok (.map es clock) w := MapKept.run_getObj_map h1
    rw [← hr1]
    cases r with
    | some j =>
      simp only [execOp, F.eval hm, F.eval hx, Instr.lookup, Sem.run_bind, run_underlying ht, Result.andThen_ok, hgo, Sem.run_pure, hk.ck, hr]
      rfl
    | none =>
      simp only [execOp, F.eval hm, F.eval hx, Instr.lookup, Sem.run_bind, run_underlying ht, Result.andThen_ok, hgo, Sem.run_pure, hk.ck, hr, hz]
      rfl) K
theorem sLkVs {t kt et : TypeId} {m x : Operand} {n b : Nat} {u : By} {v : Value} {ks : List (By × Value)} (H : Own w0 row w rs) (i : Nat) (ht : P.underlying t = some (.map kt et)) (hk : KeyS P kt n) {z : Value} (hz : ∀ w, (zeroValue et).run P w = .ok z w) (hv : lkV n u ks = some v) (F : Has N a env) (hg : wants l env g = true) (hN : Nat.blt d N = true)
    (hm : ev env m = some (.map (some b))) (hx : ev env x = some (.agg (bs n u).toArray)) (hi : rs[i]? = some (.mpV b n ks))
    (K : ∀ a, Has N a ((d, .tuple #[v, .bool true]) :: env) → wpList P l.toArray Q rest a w) : wpList P l.toArray Q (⟨some d, .lookup t m x true, ty, pos, af, g⟩ :: rest) a w :=
  sLkV H i ht hk hz F hg hN hm hx hi (fun a F => K a (by rw [hv] at F; exact F))
theorem qLkVs {t kt et : TypeId} {m x : Operand} {n b : Nat} {u : By} {v : Value} {ks : List (By × Value)} (H : Own w0 row w rs) (i : Nat) (ht : P.underlying t = some (.map kt et)) (hk : KeyS P kt n) {z : Value} (hz : ∀ w, (zeroValue et).run P w = .ok z w) (hv : lkV n u ks = some v) (hg : wants l env g = true) (hN : Nat.blt d N = true) (hm : ev env m = some (.map (some b))) (hx : ev env x = some (.agg (bs n u).toArray)) (hi : rs[i]? = some (.mpV b n ks)) (K : ∀ a, Has N a ((d, .tuple #[v, .bool true]) :: env) → wpList P l.toArray Q rest a w) : ∀ a, Has N a env → wpList P l.toArray Q (⟨some d, .lookup t m x true, ty, pos, af, g⟩ :: rest) a w := fun a F => sLkVs H i ht hk hz hv F hg hN hm hx hi K
theorem sLkVn {t kt et : TypeId} {m x : Operand} {n b : Nat} {u : By} {ks : List (By × Value)} (H : Own w0 row w rs) (i : Nat) (ht : P.underlying t = some (.map kt et)) (hk : KeyS P kt n) {z : Value} (hz : ∀ w, (zeroValue et).run P w = .ok z w) (hv : lkV n u ks = none) (F : Has N a env) (hg : wants l env g = true) (hN : Nat.blt d N = true)
    (hm : ev env m = some (.map (some b))) (hx : ev env x = some (.agg (bs n u).toArray)) (hi : rs[i]? = some (.mpV b n ks))
    (K : ∀ a, Has N a ((d, .tuple #[z, .bool false]) :: env) → wpList P l.toArray Q rest a w) : wpList P l.toArray Q (⟨some d, .lookup t m x true, ty, pos, af, g⟩ :: rest) a w :=
  sLkV H i ht hk hz F hg hN hm hx hi (fun a F => K a (by rw [hv] at F; exact F))
theorem qLkVn {t kt et : TypeId} {m x : Operand} {n b : Nat} {u : By} {ks : List (By × Value)} (H : Own w0 row w rs) (i : Nat) (ht : P.underlying t = some (.map kt et)) (hk : KeyS P kt n) {z : Value} (hz : ∀ w, (zeroValue et).run P w = .ok z w) (hv : lkV n u ks = none) (hg : wants l env g = true) (hN : Nat.blt d N = true) (hm : ev env m = some (.map (some b))) (hx : ev env x = some (.agg (bs n u).toArray)) (hi : rs[i]? = some (.mpV b n ks)) (K : ∀ a, Has N a ((d, .tuple #[z, .bool false]) :: env) → wpList P l.toArray Q rest a w) : ∀ a, Has N a env → wpList P l.toArray Q (⟨some d, .lookup t m x true, ty, pos, af, g⟩ :: rest) a w := fun a F => sLkVn H i ht hk hz hv F hg hN hm hx hi K
def idxV (l : List By) : List (By × Value) := l.zipIdx.map fun x => (x.1, .int .i64 (x.2 : Int))
theorem idxV_succ (l : List By) (s : By) : idxV (l ++ [s]) = idxV l ++ [(s, .int .i64 (l.length : Int))] := by
  unfold idxV
  rw [List.zipIdx_append]
  simp
theorem lkV_none {n : Nat} {u : By} : ∀ {ks : List (By × Value)}, (∀ y ∈ ks, same n u y.1 = false) → lkV n u ks = none
  | [], _ => rfl
  | y :: r, h => by
    rw [lkV, h y (by simp)]
    exact lkV_none (fun z hz => h z (by simp [hz]))
theorem lkV_some {n : Nat} {u : By} {v : Value} : ∀ {ks : List (By × Value)} {j : Nat}, (∀ (i : Nat) (y : By × Value), ks[i]? = some y → (same n u y.1 = true ↔ i = j)) → (ks[j]?).map (·.2) = some v → lkV n u ks = some v
  | [], j, _, h => by simp at h
  | y :: r, j, h, hv => by
    have h0 := h 0 y rfl
    rw [lkV]
    cases j with
    | zero =>
      rw [if_pos (h0.2 rfl)]
      simpa using hv
    | succ j =>
      rw [if_neg (fun e => absurd (h0.1 e) (by omega))]
      refine lkV_some (j := j) (fun i z hz => ?_) (by simpa using hv)
      have := h (i + 1) z (by simpa using hz)
      rw [this]; omega
theorem idxV_get {l : List By} {i : Nat} {y : By × Value} (h : (idxV l)[i]? = some y) : l[i]? = some y.1 ∧ y.2 = .int .i64 (i : Int) := by
  unfold idxV at h
  rw [List.getElem?_map] at h
  obtain ⟨x, hx, rfl⟩ := Option.map_eq_some_iff.1 h
  rw [List.getElem?_zipIdx] at hx
  obtain ⟨z, hz, rfl⟩ := Option.map_eq_some_iff.1 hx
  exact ⟨hz, by simp⟩
theorem idxV_at {l : List By} {i : Nat} {s : By} (h : l[i]? = some s) : (idxV l)[i]? = some (s, .int .i64 (i : Int)) := by
  unfold idxV
  rw [List.getElem?_map, List.getElem?_zipIdx, h]
  simp
end
end Go.Proofs.YtbgnapmaimkpkaaGreatDoor
