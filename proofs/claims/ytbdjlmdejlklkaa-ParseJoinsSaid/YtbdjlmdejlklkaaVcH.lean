/-
  WALK2. Calls that may end by a panic; a panic; an interface's value. Conditions: none.
-/
import Derived.Test.YtbdjlmdejlklkaaVcL
set_option linter.unusedSimpArgs false
set_option linter.unusedVariables false
namespace Go.Proofs.Ytbdjlmdejlklkaa
open Go.RowKit

variable {P : Program} {l : List Oper} {Q : Exit → Act → World → Prop} {N : Nat} {a : Act} {env : List (Nat × Value)} {rest : List Oper} {d : Tmp} {ty : TypeId} {pos : String} {af : Array Edge} {g : Option (Nat × Bool)}
  {w0 w : World} {row : Option Nat} {rs : List Res} {Kt : Act → World → Prop}

theorem sCallP {f : FuncId} {xs : List Operand} {ts : Array TypeId} {vs : List Value} {R : Ending → World → Prop} (hcall : ∀ (args : Array Value) (w : World), (callFunc f args).run P w = .ok (.enter f args) w)
    (F : Has N a env) (hg : wants l env g = true) (hN : Nat.blt d N = true) (hv : evL env xs = some vs) (hc : Calls P f vs.toArray w R)
    (K : ∀ e w, R e w → (∃ ch, e = .panicked ch ∧ Q (.panic ch) a w) ∨ ∃ v, e = .returned v ∧ ∀ a, Has N a ((d, v) :: env) → wpList P l.toArray Q rest a w) : wpList P l.toArray Q (⟨some d, .call ⟨.value (.func f), xs.toArray, ts⟩, ty, pos, af, g⟩ :: rest) a w := by
  unfold wpList
  rw [if_pos (wanted_of (o := ⟨some d, .call ⟨.value (.func f), xs.toArray, ts⟩, ty, pos, af, g⟩) F hg)]
  refine .inl ?_
  unfold Oper.wp
  have hr : (execOp a.eval ⟨some d, .call ⟨.value (.func f), xs.toArray, ts⟩, ty, pos, af, g⟩).run P w = .ok (.enter f vs.toArray) w := by
    simp only [execOp, resolve, List.map_toArray, F.evals hv, Act.eval]
    simp [Deferred.ofValue, invoke, hcall, go_sem]
  rw [hr, Oper.upon_enter]
  refine hc.mono fun e w' he => ?_
  rcases K e w' he with ⟨ch, rfl, hk⟩ | ⟨v, rfl, hk⟩
  · exact hk
  · exact hk _ (F.put hN)
theorem sCallFP {x : Operand} {f : FuncId} {xs : List Operand} {ts : Array TypeId} {vs : List Value} {fi ca : List Value} {R : Ending → World → Prop} (F : Has N a env) (hg : wants l env g = true) (hN : Nat.blt d N = true)
    (hx : ev env x = some (.func (.func f) fi.toArray ca.toArray)) (hcall : ∀ (args : Array Value) (w : World), (callFunc f args).run P w = .ok (.enter f args) w)
    (hv : evL env xs = some vs) (hc : Calls P f (fi ++ vs ++ ca).toArray w R)
    (K : ∀ e w, R e w → (∃ ch, e = .panicked ch ∧ Q (.panic ch) a w) ∨ ∃ v, e = .returned v ∧ ∀ a, Has N a ((d, v) :: env) → wpList P l.toArray Q rest a w) : wpList P l.toArray Q (⟨some d, .call ⟨.value x, xs.toArray, ts⟩, ty, pos, af, g⟩ :: rest) a w := by
  unfold wpList
  rw [if_pos (wanted_of (o := ⟨some d, .call ⟨.value x, xs.toArray, ts⟩, ty, pos, af, g⟩) F hg)]
  refine .inl ?_
  unfold Oper.wp
  have hr : (execOp a.eval ⟨some d, .call ⟨.value x, xs.toArray, ts⟩, ty, pos, af, g⟩).run P w = .ok (.enter f (fi ++ vs ++ ca).toArray) w := by
    simp only [execOp, resolve, List.map_toArray, F.evals hv, F.eval hx]
    simp [Deferred.ofValue, invoke, hcall, go_sem]
  rw [hr, Oper.upon_enter]
  refine hc.mono fun e w' he => ?_
  rcases K e w' he with ⟨ch, rfl, hk⟩ | ⟨v, rfl, hk⟩
  · exact hk
  · exact hk _ (F.put hN)
theorem sCallVP {x : Operand} {xs : List Operand} {ts : Array TypeId} {vs : List Value} {v : Value} {R : Ending → World → Prop} (F : Has N a env) (hg : wants l env g = true) (hN : Nat.blt d N = true)
    (hx : ev env x = some v) (hv : evL env xs = some vs) (hc : CallsF P v vs w R)
    (K : ∀ e w, R e w → (∃ ch, e = .panicked ch ∧ Q (.panic ch) a w) ∨ ∃ v, e = .returned v ∧ ∀ a, Has N a ((d, v) :: env) → wpList P l.toArray Q rest a w) : wpList P l.toArray Q (⟨some d, .call ⟨.value x, xs.toArray, ts⟩, ty, pos, af, g⟩ :: rest) a w := by
  obtain ⟨f, fi, ca, rfl, h1, h2⟩ := hc
  exact sCallFP F hg hN hx h1 hv h2 K
theorem oCallP {f : FuncId} {xs : List Operand} {ts : Array TypeId} {vs : List Value} {R : Ending → World → Prop} (hcall : ∀ (args : Array Value) (w : World), (callFunc f args).run P w = .ok (.enter f args) w)
    (F : Has N a env) (hN : Nat.blt d N = true) (hv : evL env xs = some vs) (hc : Calls P f vs.toArray w R)
    (K : ∀ e w, R e w → (∃ ch, e = .panicked ch ∧ Q (.panic ch) a w) ∨ ∃ v, e = .returned v ∧ ∀ a, Has N a ((d, v) :: env) → Kt a w) : (Oper.mk (some d) (.call ⟨.value (.func f), xs.toArray, ts⟩) ty pos af g).wp P a w Kt Q := by
  unfold Oper.wp
  have hr : (execOp a.eval ⟨some d, .call ⟨.value (.func f), xs.toArray, ts⟩, ty, pos, af, g⟩).run P w = .ok (.enter f vs.toArray) w := by
    simp only [execOp, resolve, List.map_toArray, F.evals hv, Act.eval]
    simp [Deferred.ofValue, invoke, hcall, go_sem]
  rw [hr, Oper.upon_enter]
  refine hc.mono fun e w' he => ?_
  rcases K e w' he with ⟨ch, rfl, hk⟩ | ⟨v, rfl, hk⟩
  · exact hk
  · exact hk _ (F.put hN)
theorem oCallVP {x : Operand} {xs : List Operand} {ts : Array TypeId} {vs : List Value} {v : Value} {R : Ending → World → Prop} (F : Has N a env) (hN : Nat.blt d N = true)
    (hx : ev env x = some v) (hv : evL env xs = some vs) (hc : CallsF P v vs w R)
    (K : ∀ e w, R e w → (∃ ch, e = .panicked ch ∧ Q (.panic ch) a w) ∨ ∃ v, e = .returned v ∧ ∀ a, Has N a ((d, v) :: env) → Kt a w) : (Oper.mk (some d) (.call ⟨.value x, xs.toArray, ts⟩) ty pos af g).wp P a w Kt Q := by
  obtain ⟨f, fi, ca, rfl, hcall, hc⟩ := hc
  unfold Oper.wp
  have hr : (execOp a.eval ⟨some d, .call ⟨.value x, xs.toArray, ts⟩, ty, pos, af, g⟩).run P w = .ok (.enter f (fi ++ vs ++ ca).toArray) w := by
    simp only [execOp, resolve, List.map_toArray, F.evals hv, F.eval hx]
    simp [Deferred.ofValue, invoke, hcall, go_sem]
  rw [hr, Oper.upon_enter]
  refine hc.mono fun e w' he => ?_
  rcases K e w' he with ⟨ch, rfl, hk⟩ | ⟨v, rfl, hk⟩
  · exact hk
  · exact hk _ (F.put hN)
/-- A function's way out by a panic. -/
theorem bPan {fn : Func} {R : Ending → World → Prop} {ch : List PanicEntry} (F : Has N a env) (h : R (.panicked ch) w) : bodyPost P fn R (.panic ch) a w := ⟨F.nod, h⟩
/-- A panic with a value. -/
theorem sPanic {x : Operand} {t : TypeId} {v : Value} (F : Has N a env) (hg : wants l env g = true) (hx : ev env x = some (.iface t v)) (K : Q (.panic [{ v := .iface t v, recovered := false }]) a w) : wpList P l.toArray Q (⟨none, .panic x, ty, pos, af, g⟩ :: rest) a w := by
  unfold wpList
  rw [if_pos (wanted_of (o := ⟨none, .panic x, ty, pos, af, g⟩) F hg)]
  refine .inl ?_
  unfold Oper.wp
  have hr : (execOp a.eval ⟨none, .panic x, ty, pos, af, g⟩).run P w = .halt (.panic (.iface t v)) w := by
    simp only [execOp, F.eval hx]
    simp [Instr.panic, goPanic, go_sem]
  rw [hr, Oper.upon_panic]
  exact K
/-! ### Maps from strings, by their entries -/
def Res.mpT (b : Nat) (kv : List (ByteArray × Value)) : Res where
  foot := (· = b)
  pred := fun w => ∃ es clock, w.heap[b]? = some (.map es clock) ∧ es.toList.map (fun e => (e.key, e.val)) = kv.map fun p => (.string p.1, p.2)
  loc := fun _ _ h hp => by
    obtain ⟨es, c, h1, h2⟩ := hp
    exact ⟨es, c, (h b rfl).trans h1, h2⟩
def findT (k : ByteArray) (kv : List (ByteArray × Value)) : Option (ByteArray × Value) := kv.find? fun p => k == p.1
theorem findNow_T (k : ByteArray) : ∀ (es : List MapEntry) (kv : List (ByteArray × Value)) (i : Nat), es.map (fun e => (e.key, e.val)) = kv.map (fun p => (.string p.1, p.2)) →
    ∃ j, Instr.findNow .string (.string k) es i = some ((findT k kv).map fun p => (j, p.2))
  | [], [], i, _ => ⟨0, rfl⟩
  | e :: es, p :: kv, i, h => by
    simp only [List.map_cons, List.cons.injEq, Prod.mk.injEq] at h
    obtain ⟨⟨h1, h2⟩, h3⟩ := h
    unfold Instr.findNow
    have hs : Instr.sameNow .string (.string k) e.key = some (k == p.1) := by rw [h1]; rfl
    rw [hs]
    cases hk : k == p.1 with
    | true => exact ⟨i, by simp [findT, hk, h2]⟩
    | false =>
      obtain ⟨j, hj⟩ := findNow_T k es kv (i + 1) h3
      refine ⟨j, ?_⟩
      simp only [findT, List.find?_cons, hk]
      exact hj
  | [], _ :: _, _, h => by simp at h
  | _ :: _, [], _, h => by simp at h
theorem checkKey_T {t : TypeId} (ht : P.underlying t = some .string) (e : Bool) (n : Nat) (v : Value) (w : World) : (Instr.checkKey e (n + 1) t v).run P w = .ok () w := by
  unfold Instr.checkKey
  simp [run_underlying ht]
theorem findKey_T {t : TypeId} (ht : P.underlying t = some .string) {k : ByteArray} {es : List MapEntry} {kv : List (ByteArray × Value)} (h : es.map (fun e => (e.key, e.val)) = kv.map (fun p => (.string p.1, p.2))) (w : World) :
    ∃ j, (Instr.findKey t (.string k) es).run P w = .ok ((findT k kv).map fun p => (j, p.2)) w := by
  obtain ⟨j, hj⟩ := findNow_T k es kv 0 h
  exact ⟨j, by unfold Instr.findKey; simp [run_underlying ht, hj]⟩
theorem sMkT {t : TypeId} (H : Own w0 row w rs) (F : Has N a env) (hg : wants l env g = true) (hN : Nat.blt d N = true)
    (K : ∀ b a w, Has N a ((d, .map (some b)) :: env) → Own w0 row w (.mpT b [] :: rs) → wpList P l.toArray Q rest a w) : wpList P l.toArray Q (⟨some d, .makeMap t none, ty, pos, af, g⟩ :: rest) a w :=
  stepV F hg rfl hN (v := .map (some w.heap.size)) (w' := w.alloc (.map #[] 0)) (by simp [execOp, run_makeMap]) (fun a' F' => K _ _ _ F' (H.add (.mpT w.heap.size []) ((Below.refl _ _).alloc (Nat.le_refl _) _)
    ⟨#[], 0, heap_alloc_new w _, rfl⟩ (fun b hb => by cases hb; exact ⟨Nat.le_refl _, by simp⟩)))
theorem sInsT {t kt et : TypeId} {m x y : Operand} {b : Nat} {k : ByteArray} {v : Value} {kv : List (ByteArray × Value)} (H : Own w0 row w rs) (i : Nat) (ht : P.underlying t = some (.map kt et)) (hk : P.underlying kt = some .string) (F : Has N a env) (hg : wants l env g = true)
    (hm : ev env m = some (.map (some b))) (hx : ev env x = some (.string k)) (hy : ev env y = some v) (hi : rs[i]? = some (.mpT b kv)) (hn : (findT k kv).isNone = true)
    (K : ∀ w, Own w0 row w (rs.set i (.mpT b (kv ++ [(k, v)]))) → wpList P l.toArray Q rest a w) : wpList P l.toArray Q (⟨none, .insert t m x y, ty, pos, af, g⟩ :: rest) a w := by
  obtain ⟨es, clock, h1, h2⟩ := H.pred i _ hi
  obtain ⟨j, hj⟩ := findKey_T (P := P) hk (k := k) h2 w
  rw [Option.isNone_iff_eq_none.1 hn] at hj
  have hbs : b < w.heap.size := by
    rcases Nat.lt_or_ge b w.heap.size with h | h
    · exact h
    · rw [Array.getElem?_eq_none h] at h1; cases h1
  refine stepU F hg rfl (w' := { w with heap := w.heap.setIfInBounds b (.map (es.push { key := .string k, val := v, born := clock }) (clock + 1)) }) ?_ (K _ ?_)
  · simp only [execOp, F.eval hm, F.eval hx, F.eval hy, Instr.mapUpdate, Sem.run_bind, run_underlying ht, Result.andThen_ok]
    have hgo : (getObj b).run P w = .ok (.map es clock) w := MapKept.run_getObj_map h1
    simp only [hgo, Result.andThen_ok, Sem.run_bind, checkKey_T hk, hj, Option.map_none]
    simp only [MapKept.run_setObj_map _ h1, Result.andThen_ok, Sem.run_pure]
  · refine H.turn i hi _ ?_ (by simp) (fun c hc hne => by simp [Ne.symm hne]) ⟨es.push { key := .string k, val := v, born := clock }, clock + 1, by simp [hbs], by simp [h2]⟩ (fun c hc => ⟨.inl hc, by cases hc; simpa using hbs⟩)
    refine ⟨H.grown.os, H.grown.tape, H.grown.output, by simpa using H.grown.size, fun c hc hne => ?_⟩
    have hcb : c ≠ b := by
      rintro rfl
      rcases (H.foot i _ hi c rfl).1 with h | h
      · omega
      · exact hne h
    rw [← H.grown.block c hc hne]
    simp [Ne.symm hcb]
/-- v, ok := m[x] -/
theorem rLkT {t kt et : TypeId} {m x : Operand} {b : Nat} {k : ByteArray} {z : Value} {kv : List (ByteArray × Value)} (H : Own w0 row w rs) (i : Nat) (ht : P.underlying t = some (.map kt et)) (hk : P.underlying kt = some .string) (hz : ∀ w, (zeroValue et).run P w = .ok z w) (F : Has N a env)
    (hm : ev env m = some (.map (some b))) (hx : ev env x = some (.string k)) (hi : rs[i]? = some (.mpT b kv)) :
    (execOp a.eval ⟨some d, .lookup t m x true, ty, pos, af, g⟩).run P w = .ok (.value (.tuple #[((findT k kv).map (·.2)).getD z, .bool (findT k kv).isSome])) w := by
  obtain ⟨es, clock, h1, h2⟩ := H.pred i _ hi
  obtain ⟨j, hj⟩ := findKey_T (P := P) hk (k := k) h2 w
  have hgo : (getObj b).run P w = .ok (.map es clock) w := MapKept.run_getObj_map h1
  cases hf : findT k kv with
  | some p =>
    rw [hf] at hj
    simp only [execOp, F.eval hm, F.eval hx, Instr.lookup, Sem.run_bind, run_underlying ht, Result.andThen_ok, hgo, Sem.run_pure, checkKey_T hk, hj, Option.map_some, if_true]
    rfl
  | none =>
    rw [hf] at hj
    simp only [execOp, F.eval hm, F.eval hx, Instr.lookup, Sem.run_bind, run_underlying ht, Result.andThen_ok, hgo, Sem.run_pure, checkKey_T hk, hj, Option.map_none, hz, if_true]
    rfl
end Go.Proofs.Ytbdjlmdejlklkaa
