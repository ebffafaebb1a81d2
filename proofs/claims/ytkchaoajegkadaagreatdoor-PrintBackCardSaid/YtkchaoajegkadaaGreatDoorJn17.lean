/-
  WALK2. Functions that defer a call: what is known of their frames; a deferred function that recovers. Conditions: none.
-/
import Derived.Test.YtkchaoajegkadaaGreatDoorJn1
import Derived.Test.YtkchaoajegkadaaGreatDoorJn15
import Derived.Defers
import Derived.Recover
import Derived.Test.YtkchaoajegkadaaGreatDoorJn16
import Derived.Test.YtkchaoajegkadaaGreatDoorLexK
set_option linter.unusedSimpArgs false
set_option linter.unusedVariables false
namespace Go.Proofs.YtkchaoajegkadaaGreatDoor
-- VdA
open Go.RowKit

variable {P : Program} {l : List Oper} {Q : Exit → Act → World → Prop} {N : Nat} {a : Act} {env : List (Nat × Value)} {rest : List Oper} {d : Tmp} {ty : TypeId} {pos : String} {af : Array Edge} {g : Option (Nat × Bool)}
  {w0 w : World} {row : Option Nat} {rs : List Res} {ds : List Deferred}
structure HasD (N : Nat) (a : Act) (ds : List Deferred) (env : List (Nat × Value)) : Prop where
  size : a.tmps.size = N
  dfr : a.defers = ds
  get : ∀ k v, lk env k = some v → a.tmps.getD k undef = v
theorem HasD.off (F : HasD N a ds env) : Has N { a with defers := [] } env := ⟨F.size, rfl, F.get⟩
theorem HasD.put (F : HasD N a ds env) {d : Nat} {v : Value} (hd : Nat.blt d N = true) : HasD N (a.put (some d) v) ds ((d, v) :: env) :=
  ⟨(F.off.put (v := v) hd).size, F.dfr, (F.off.put (v := v) hd).get⟩
theorem dStepV {o : Oper} {v : Value} {w' : World} (F : HasD N a ds env) (hg : wants l env o.guard = true) (hd : o.dst = some d) (hN : Nat.blt d N = true)
    (hr : (execOp ({ a with defers := [] } : Act).eval o).run P w = .ok (.value v) w') (K : ∀ a', HasD N a' ds ((d, v) :: env) → wpList P l.toArray Q rest a' w') : wpList P l.toArray Q (o :: rest) a w := by
  unfold wpList
  rw [if_pos (wanted_of (a := { a with defers := [] }) F.off hg)]
  refine .inl ?_
  unfold Oper.wp
  have hr : (execOp a.eval o).run P w = .ok (.value v) w' := hr
  rw [hr, Oper.upon_value, hd]
  exact K _ (F.put hN)
theorem dStepU {o : Oper} {w' : World} (F : HasD N a ds env) (hg : wants l env o.guard = true) (hd : o.dst = none)
    (hr : (execOp ({ a with defers := [] } : Act).eval o).run P w = .ok .skip w') (K : wpList P l.toArray Q rest a w') : wpList P l.toArray Q (o :: rest) a w := by
  unfold wpList
  rw [if_pos (wanted_of (a := { a with defers := [] }) F.off hg)]
  refine .inl ?_
  unfold Oper.wp
  have hr : (execOp a.eval o).run P w = .ok .skip w' := hr
  rw [hr, Oper.upon_skip, hd]
  exact K
theorem sDef {x : Operand} {fv : Fn} {fi ca : Array Value} (F : Has N a env) (hg : wants l env g = true) (hx : ev env x = some (.func fv fi ca))
    (K : ∀ a, HasD N a [{ target := .fn fv ca, args := fi }] env → wpList P l.toArray Q rest a w) : wpList P l.toArray Q (⟨none, .defer ⟨.value x, #[], #[]⟩, ty, pos, af, g⟩ :: rest) a w := by
  unfold wpList
  rw [if_pos (wanted_of (o := ⟨none, .defer ⟨.value x, #[], #[]⟩, ty, pos, af, g⟩) F hg)]
  refine .inl ?_
  unfold Oper.wp
  have hr : (execOp a.eval ⟨none, .defer ⟨.value x, #[], #[]⟩, ty, pos, af, g⟩).run P w = .ok (.defer { target := .fn fv ca, args := fi }) w := by
    simp only [execOp, resolve, F.eval hx]
    simp [Deferred.ofValue, go_sem]
  rw [hr, Oper.upon_defer]
  exact K _ ⟨F.size, by show _ :: a.defers = _; rw [F.nod], F.get⟩
theorem dMv {x : Operand} {v : Value} (F : HasD N a ds env) (hg : wants l env g = true) (hN : Nat.blt d N = true) (hx : ev env x = some v)
    (K : ∀ a, HasD N a ds ((d, v) :: env) → wpList P l.toArray Q rest a w) : wpList P l.toArray Q (⟨some d, .move x, ty, pos, af, g⟩ :: rest) a w :=
  dStepV F hg rfl hN (rMv F.off hx) K
theorem dCallVP {x : Operand} {xs : List Operand} {ts : Array TypeId} {vs : List Value} {v : Value} {R : Ending → World → Prop} (F : HasD N a ds env) (hg : wants l env g = true) (hN : Nat.blt d N = true)
    (hx : ev env x = some v) (hv : evL env xs = some vs) (hc : CallsF P v vs w R)
    (K : ∀ e w, R e w → (∃ ch, e = .panicked ch ∧ Q (.panic ch) a w) ∨ ∃ v, e = .returned v ∧ ∀ a, HasD N a ds ((d, v) :: env) → wpList P l.toArray Q rest a w) : wpList P l.toArray Q (⟨some d, .call ⟨.value x, xs.toArray, ts⟩, ty, pos, af, g⟩ :: rest) a w := by
  obtain ⟨f, fi, ca, rfl, hcall, hc⟩ := hc
  unfold wpList
  rw [if_pos (wanted_of (a := { a with defers := [] }) (o := ⟨some d, .call ⟨.value x, xs.toArray, ts⟩, ty, pos, af, g⟩) F.off hg)]
  refine .inl ?_
  unfold Oper.wp
  have hr : (execOp ({ a with defers := [] } : Act).eval ⟨some d, .call ⟨.value x, xs.toArray, ts⟩, ty, pos, af, g⟩).run P w = .ok (.enter f (fi ++ vs ++ ca).toArray) w := by
    simp only [execOp, resolve, List.map_toArray, F.off.evals hv, F.off.eval hx]
    simp [Deferred.ofValue, invoke, hcall, go_sem]
  have hr : (execOp a.eval ⟨some d, .call ⟨.value x, xs.toArray, ts⟩, ty, pos, af, g⟩).run P w = .ok (.enter f (fi ++ vs ++ ca).toArray) w := hr
  rw [hr, Oper.upon_enter]
  refine hc.mono fun e w' he => ?_
  rcases K e w' he with ⟨ch, rfl, hk⟩ | ⟨v, rfl, hk⟩
  · exact hk
  · exact hk _ (F.put hN)
theorem dSt {t : TypeId} {x y : Operand} {b j : Nat} {cs : List Value} {u v : Value} {bt : TypeId} (H : Own w0 row w rs) (i : Nat) (hz : ∀ w, (sizeOf t).run P w = .ok 1 w) (F : HasD N a ds env) (hg : wants l env g = true)
    (hx : ev env x = some (.pointer (some ⟨b, j, none⟩))) (hy : ev env y = some v) (h1 : v.oneCell' = true) (hi : rs[i]? = some (.blk b cs bt)) (hu : cs[j]? = some u)
    (K : ∀ w, Own w0 row w (rs.set i (.blk b (cs.set j v) bt)) → wpList P l.toArray Q rest a w) : wpList P l.toArray Q (⟨none, .store t x y, ty, pos, af, g⟩ :: rest) a w :=
  dStepU F hg rfl (w' := w.setCell ⟨b, j, none⟩ v) (store_there hz F.off hx hy h1 (H.there i hi j 1 (by obtain ⟨h, _⟩ := List.getElem?_eq_some_iff.1 hu; exact Nat.ble_eq_true_of_le (by omega)))) (K _ (H.set i hi j v))
theorem enterD {f : FuncId} {fn : Func} {c : Code} {args : List Value} {R : Ending → World → Prop} {N : Nat}
    (hf : P.funcs[f]? = some fn) (hb : fn.body = some c) (hn : fn.ntmps = N) (hl : Nat.ble args.length N = true)
    (h : ∀ a, Has N a (number args 0) → c.wp P (bodyPostD P fn R) a w) : Calls P f args.toArray w R := by
  subst hn
  exact calls_of_wp_defers hf hb (h _ (Has.start hl))
theorem results_two {fn : Func} {t u : Tmp} {st su : TypeId} {b c : Nat} {x y : Value} (hres : fn.results = #[.cell t st, .cell u su]) (ht : a.tmps.getD t undef = .pointer (some ⟨b, 0, none⟩)) (hu : a.tmps.getD u undef = .pointer (some ⟨c, 0, none⟩))
    (hat : ∀ w, (isAgg st).run P w = .ok false w) (hau : ∀ w, (isAgg su).run P w = .ok false w) (hb : w.cell? ⟨b, 0, none⟩ = some x) (hc : w.cell? ⟨c, 0, none⟩ = some y) : (results fn a.tmps).run P w = .ok (.tuple #[x, y]) w := by
  have h1 : (loadVar st ⟨b, 0, none⟩).run P w = .ok x w := by simp [loadVar, hat, hb, go_sem]
  have h2 : (loadVar su ⟨c, 0, none⟩).run P w = .ok y w := by simp [loadVar, hau, hc, go_sem]
  simp only [Array.getD_eq_getD_getElem?] at ht hu
  simp [results, hres, ht, hu, asAddr, h1, h2]
theorem bRetC2 {fn : Func} {R : Ending → World → Prop} {t u s : Tmp} {st : TypeId} {b n : Nat} {cs : List Value} {bt : TypeId} {dd : TypeDesc} {y z : Value} (hres : fn.results = #[.cell t st, .tmp u, .tmp s]) (F : Has N a env) (hv : lk env t = some (.pointer (some ⟨b, 0, none⟩))) (hy : lk env u = some y) (hz2 : lk env s = some z)
    (hu : P.underlying st = some dd) (hdd : dd.isRow = true) (H : Own w0 row w rs) (i : Nat) (hi : rs[i]? = some (.blk b cs bt)) (hz : ∀ w, (sizeOf st).run P w = .ok n w) (hn : Nat.beq cs.length n = true) (h : R (.returned (.tuple #[.agg cs.toArray, y, z])) w) : bodyPost P fn R .ret a w := by
  refine bodyPost_ret (v := .tuple #[.agg cs.toArray, y, z]) ?_ F.nod h
  have hb := H.blk i hi
  have hr : w.rangeAt b 0 cs := fun j v hj => by rw [Nat.zero_add]; exact hb.cell j hj
  have h1 := run_loadVar_mid (P := P) w b 0 st cs dd hr hu hdd (by rw [Nat.eq_of_beq_eq_true hn]; exact info_size hz)
  have e1 := F.get t _ hv
  have e2 := F.get u _ hy
  have e3 := F.get s _ hz2
  simp only [Array.getD_eq_getD_getElem?] at e1 e2 e3
  simp [results, hres, e1, e2, e3, asAddr, h1]
theorem callsD_rec {f : FuncId} {fn : Func} {c : Code} {id : Nat} {args : List Value} {u u' : FrameMode} {v : Value} {R : Ending → World → Prop} {N : Nat}
    (hf : P.funcs[f]? = some fn) (hb : fn.body = some (.seq (.region id #[⟨some d, .call ⟨.builtin .recover, #[], #[]⟩, ty, pos, af, none⟩] false) c)) (hn : fn.ntmps = N) (hl : Nat.ble args.length N = true) (hd : Nat.blt d N = true)
    (hu : u = .returning ∧ u' = .returning ∧ v = .nilIface ∨ u = .panicking [{ v := v, recovered := false }] ∧ u' = .panicking [{ v := v, recovered := true }])
    (h : ∀ a, Has N a ((d, v) :: number args 0) → c.wp P (bodyPost P fn R) a w) : CallsD P f args.toArray u w (fun e m w => m = u' ∧ R e w) := by
  subst hn
  refine callsD_of_wpS hf hb fun c₀ cs hm => ?_
  have F := Has.start (args := args) hl
  generalize hA : ({ tmps := args.toArray ++ Array.replicate (fn.ntmps - args.toArray.size) undef, defers := [] } : Act) = a0 at F ⊢
  apply wpS_seq
  apply wpS_region
  have hw : Region.wanted ⟨some d, .call ⟨.builtin .recover, #[], #[]⟩, ty, pos, af, none⟩ (yielded #[⟨some d, .call ⟨.builtin .recover, #[], #[]⟩, ty, pos, af, none⟩] a0.tmps) = true := rfl
  have hr : (execOp a0.eval ⟨some d, .call ⟨.builtin .recover, #[], #[]⟩, ty, pos, af, none⟩).run P w = .ok .recover w := by
    simp [execOp, resolve, invoke, builtin, go_sem]
  have h2 := h _ (F.put (v := v) hd)
  have hend : c.wpS P (bodyPostS P fn c₀ cs (fun e m w => m = u' ∧ R e w)) (a0.put (some d) v) ({ c₀ with mode := u' } :: cs) w := by
    refine wpS_of_wp (wp_mono h2 fun e a w hq => ?_)
    cases e with
    | normal => obtain ⟨h1, v, h3, h4⟩ := hq; exact ⟨h1, _, rfl, v, h3, rfl, h4⟩
    | ret => obtain ⟨h1, v, h3, h4⟩ := hq; exact ⟨h1, _, rfl, v, h3, rfl, h4⟩
    | panic ch => obtain ⟨h1, h4⟩ := hq; exact ⟨h1, _, rfl, rfl, h4⟩
    | outgrown => exact ⟨_, rfl, hq⟩
    | exit i => exact hq
    | goto i => exact hq
  rcases hu with ⟨rfl, rfl, rfl⟩ | ⟨rfl, rfl⟩
  · have hc : ({ c₀ with mode := .returning } : Frame) = c₀ := by rw [← hm]
    rw [hc] at hend
    have hrec : recoverD (c₀ :: cs) = none := by simp [recoverD, hm]
    show wpOpsS P _ _ [0] a0 _ w
    simp only [wpOpsS, List.getElem?_toArray, List.getElem?_cons_zero, hw, if_true, hr, hrec]
    exact hend
  · have hrec : recoverD (c₀ :: cs) = some (v, { c₀ with mode := .panicking [{ v := v, recovered := true }] } :: cs) := by simp [recoverD, hm]
    show wpOpsS P _ _ [0] a0 _ w
    simp only [wpOpsS, List.getElem?_toArray, List.getElem?_cons_zero, hw, if_true, hr, hrec]
    exact hend
theorem rTa {t st : TypeId} {x : Operand} {fs : Array Field} {v : Value} (hs : P.underlying t = some (.struct fs)) (F : Has N a env) (hx : ev env x = some (.iface t v)) : (execOp a.eval ⟨some d, .typeAssert x st t true, ty, pos, af, g⟩).run P w = .ok (.value (.tuple #[v, .bool true])) w := by
  simp only [execOp, F.eval hx]
  simp [Instr.typeAssert, run_underlying hs, go_sem]
theorem sTa {t st : TypeId} {x : Operand} {fs : Array Field} {v : Value} (hs : P.underlying t = some (.struct fs)) (F : Has N a env) (hg : wants l env g = true) (hN : Nat.blt d N = true) (hx : ev env x = some (.iface t v))
    (K : ∀ a, Has N a ((d, .tuple #[v, .bool true]) :: env) → wpList P l.toArray Q rest a w) : wpList P l.toArray Q (⟨some d, .typeAssert x st t true, ty, pos, af, g⟩ :: rest) a w :=
  stepV F hg rfl hN (rTa hs F hx) K
theorem bNoIf {t u : TypeId} {x y : Operand} {v : Value} (h : P.underlying t = some (.interface (P.methodsAt t))) : BinR P .eql t x y (.iface u v) .nilIface (.bool false) := fun w => by
  have h0 : (eqGuard .eql t x y (.iface u v) .nilIface).run P w = .ok () w := by simp [eqGuard, go_sem]
  simp only [Sem.run_bind, h0, Result.andThen_ok]
  exact run_eql_held_nil w t u v h
theorem bNilIf {t : TypeId} {x : Operand} {c : Value} (h : P.underlying t = some (.interface (P.methodsAt t))) : BinR P .eql t x (.const c) .nilIface .nilIface (.bool true) := fun w => by
  have h0 : (eqGuard .eql t x (.const c) .nilIface .nilIface).run P w = .ok () w := by simp [eqGuard, go_sem]
  simp only [Sem.run_bind, h0, Result.andThen_ok]
  exact run_eql_nil_nil w t h
def onlyN (K : Act → World → Prop) : Exit → Act → World → Prop
  | .normal, a, w => K a w
  | _, _, _ => False
theorem regN {c : Code} {K : Act → World → Prop} (h : c.wp P (onlyN K) a w) : c.wp P (Exit.then K Q) a w := wp_mono h fun e a w h => by
  cases e with
  | normal => exact h
  | _ => exact h.elim
theorem postD {fn : Func} {R : Ending → World → Prop} {e : Exit} (h : bodyPost P fn R e a w) : bodyPostD P fn R e a w := by
  cases e with
  | normal => obtain ⟨h1, v, h3, h4⟩ := h; show Leaves P fn a.tmps R a.defers .returning w; rw [h1]; exact ⟨v, h3, h4⟩
  | ret => obtain ⟨h1, v, h3, h4⟩ := h; show Leaves P fn a.tmps R a.defers .returning w; rw [h1]; exact ⟨v, h3, h4⟩
  | panic ch => obtain ⟨h1, h4⟩ := h; show Leaves P fn a.tmps R a.defers (.panicking ch) w; rw [h1]; exact h4
  | outgrown => exact h
  | exit i => exact h
  | goto i => exact h
-- PzB
open Go.RowKit
set_option maxRecDepth 100000
/-! ### What is lexed -/
theorem nextT_posP {s : ByteArray} : ∀ {f k o t k' o'}, nextT s f k o = (some t, k', o') → k ≤ s.size → t.pos ≤ s.size
  | 0, k, o, t, k', o', h, hk => by simp [nextT] at h
  | f + 1, k, o, t, k', o', h, hk => by
    have h2 := passTo_le s k hk
    rw [nextT] at h
    split at h
    · simp only [Prod.mk.injEq, Option.some.injEq] at h
      obtain ⟨rfl, _, _⟩ := h
      exact h2
    · split at h
      · simp only [Prod.mk.injEq, Option.some.injEq] at h
        obtain ⟨rfl, _, _⟩ := h
        exact h2
      · split at h
        · simp at h
        · exact nextT_posP h (by omega)
theorem toksF_ok {s : ByteArray} : ∀ {f k o}, k ≤ s.size → ∀ t ∈ toksF s f k o, t.text.size ≤ s.size ∧ t.pos ≤ s.size ∧ 1 ≤ t.kind ∧ t.kind ≤ 4
  | 0, k, o, _, t, h => by simp [toksF] at h
  | f + 1, k, o, hk, t, h => by
    rw [toksF] at h
    split at h
    · rename_i t' k' o' hn
      rcases List.mem_cons.1 h with rfl | h
      · obtain ⟨h1, h2⟩ := nextT_ok hn
        exact ⟨h2, nextT_posP hn hk, by omega, by omega⟩
      · exact toksF_ok (nextT_le hn hk).1 t h
    · simp at h
def pxOf (s : ByteArray) (fx : Bool) : PX := ⟨toks s, s.size, fx⟩
theorem lexBad_sizeP {s : ByteArray} (h : lexBad s = none) : s.size ≤ 16384 := by
  unfold lexBad at h
  split at h
  · cases h
  · omega
theorem px_ok {s : ByteArray} (fx : Bool) (h : lexBad s = none) : (pxOf s fx).Ok := by
  have hs := lexBad_sizeP h
  have hl := toks_len s
  refine ⟨by show (toks s).length ≤ _; omega, by show s.size ≤ _; omega, fun i t hi => ?_⟩
  obtain ⟨h1, h2, _, h4⟩ := toksF_ok (Nat.zero_le _) t (List.mem_of_getElem? hi)
  exact ⟨by omega, by omega, h4⟩
theorem px_few {s : ByteArray} (fx : Bool) (h : lexBad s = none) : (pxOf s fx).ts.length ≤ 900000 := by
  have hs := lexBad_sizeP h
  have hl := toks_len s
  show (toks s).length ≤ _
  omega
theorem cellsOf_rows (l : List Tok) : cellsOf l = (rowsT l).flatten := by unfold cellsOf rowsT; rw [List.flatMap_def]
theorem bad_ne {l : List Tok} {t : Tok} (h : firstBad l = some t) : faultOf t ≠ 0 := by
  induction l with
  | nil => cases h
  | cons x r ih =>
    rw [firstBad] at h
    split at h
    · exact ih h
    · cases h; assumption
theorem lexBad_neP {s : ByteArray} {p : Nat} {f : Int} (h : lexBad s = some (p, f)) : f ≠ 0 := by
  unfold lexBad at h
  split at h
  · cases h; omega
  · obtain ⟨t, ht, he⟩ := Option.map_eq_some_iff.1 h
    cases he
    exact bad_ne ht
theorem lex_own (s : ByteArray) {W w : World} {rs : List Res} (hs : s.size ≤ maxLen) (H : Own W none w rs) : Calls Tryz.prog 50 #[.string s] w fun e w' => ∃ (A : Option Addr) (n C p : Nat) (f : Int) (S : Nat → Prop) (rows : List (List Value)), e = .returned (.tuple #[.slice A n C, .int .i64 (p : Int), .int .i64 f]) ∧ Own W none w' (.held S A 3 rows :: rs) ∧ (∀ b, (Value.slice A n C).ownBlock = some b → S b) ∧
    (f = 0 ∧ p = 0 ∧ lexBad s = none ∧ n = (toks s).length ∧ rows = rowsT (toks s) ∨ f ≠ 0 ∧ lexBad s = some (p, f)) := by
  refine (lex_any s w hs).mono fun e w' h => ?_
  obtain ⟨hb, h | h⟩ := h
  · obtain ⟨p, f, h1, rfl⟩ := h
    exact ⟨none, 0, 0, p, f, fun _ => False, [], rfl, (H.grow hb).void _ (show ∀ (j : Nat) (cs : List Value), ([] : List (List Value))[j]? = some cs → _ from fun j cs h => by simp at h) (fun _ h => h), (fun b h => by cases h), .inr ⟨lexBad_neP h1, h1⟩⟩
  · obtain ⟨h1, sv, rfl, h2, _⟩ := h
    obtain ⟨A, C, rfl⟩ : ∃ A C, sv = .slice A (toks s).length C := by
      rcases h2.2 with ⟨rfl, h0⟩ | ⟨g, cap, cur, rfl, _⟩
      · exact ⟨none, 0, by rw [h0]⟩
      · exact ⟨_, _, rfl⟩
    have hr : (rowsT (toks s)).length = (toks s).length := by unfold rowsT; rw [List.length_map]
    have hH : Own W none w' (.rws 140 3 (.slice A (toks s).length C) (rowsT (toks s)) :: rs) := by
      refine H.add (.rws 140 3 (.slice A (toks s).length C) (rowsT (toks s))) hb ?_ fun b hbb => ?_
      · show w'.ownsRow 0 140 3 (.slice A (toks s).length C) (rowsT (toks s)).length (rowsT (toks s)).flatten
        rw [hr, ← cellsOf_rows]
        refine ⟨h2.1, ?_⟩
        rcases h2.2 with h | ⟨g, cap, cur, e1, _, e3⟩
        · exact .inl h
        · exact .inr ⟨g, cap, cur, e1, Nat.zero_le _, e3⟩
      · have hbb : (Value.slice A (toks s).length C).ownBlock = some b := hbb
        rcases h2.2 with ⟨e1, _⟩ | ⟨g, cap, cur, e1, e2, e3, _⟩
        · have e2 := congrArg Value.ownBlock e1
          rw [hbb] at e2
          cases e2
        · have e4 := congrArg Value.ownBlock e1
          rw [hbb] at e4
          cases e4
          exact ⟨e2, (Array.getElem?_eq_some_iff.1 e3).1⟩
    exact ⟨A, (toks s).length, C, 0, 0, fun b => (Value.slice A (toks s).length C).ownBlock = some b, _, rfl, hH.toHeld rowsT_len (by decide), (fun b h => h), .inl ⟨rfl, rfl, h1, rfl, rfl⟩⟩
/-! ### What is deferred -/
theorem prun1_idle {u4 u6 u7 : Value} {W w : World} {rs : List Res} (H : Own W none w rs) : CallsD Tryz.prog 51 #[u6, u7, u4] .returning w fun e m w' => m = .returning ∧ e = .returned (.tuple #[]) ∧ Own W none w' rs := by
  refine callsD_rec (args := [u6, u7, u4]) (v := .nilIface) Tryz.func51 rfl Tryz.ntmps51 rfl rfl (.inl ⟨rfl, rfl, rfl⟩) (fun a F => ?_);refine wp_block ?_;refine cSR fun K1 hK1=>sBin F rfl rfl rfl rfl (bNilIf Tryz.underlying20) (qNK hK1 ?_);clear hK1;clear F a;intro a F
  refine cIf F rfl (fun h9 => ?_) (fun h9 => ?_)
  ·
   refine cReg (sAs F rfl rfl rfl ?_);clear F a;intro a F;refine sNil ?_
   first | refine bEnd Tryz.results51 F ?_ | (simp only [Exit.then, Exit.inBlock, if_true]; (repeat (first | rw [if_pos rfl] | rw [if_neg (by decide)])); refine bEnd Tryz.results51 F ?_)
   exact ⟨rfl, H⟩
  cases h9
theorem prun1_fault {p e : Nat} {b4 b6 b7 : Nat} {v6 v7 : Value} {W w : World} {rs : List Res} (H : Own W none w (.blk b6 [v6] 3 :: .blk b7 [v7] 33 :: rs)) : CallsD Tryz.prog 51 #[.pointer (some ⟨b6, 0, none⟩), .pointer (some ⟨b7, 0, none⟩), .pointer (some ⟨b4, 0, none⟩)] (.panicking (flt p e)) w
    fun q m w' => m = .panicking [{ v := .iface 101 (.agg #[.int .i64 (p : Int), .int .i64 (e : Int)]), recovered := true }] ∧ q = .returned (.tuple #[]) ∧ Own W none w' (.blk b6 [.int .i64 (p : Int)] 3 :: .blk b7 [.int .i64 (e : Int)] 33 :: rs) := by
  refine callsD_rec (args := [.pointer (some ⟨b6, 0, none⟩), .pointer (some ⟨b7, 0, none⟩), .pointer (some ⟨b4, 0, none⟩)]) (v := .iface 101 (.agg #[.int .i64 (p : Int), .int .i64 (e : Int)])) Tryz.func51 rfl Tryz.ntmps51 rfl rfl (.inr ⟨rfl, rfl⟩) (fun a F => ?_);refine wp_block ?_;refine cSR fun K1 hK1=>sBin F rfl rfl rfl rfl (bNoIf Tryz.underlying20) (qNK hK1 ?_);clear hK1;clear F a;intro a F
  refine cIf F rfl (fun h9 => ?_) (fun h9 => ?_)
  ·
   cases h9
  refine cSR fun K2 hK2=>sTa Tryz.underlying101 F rfl rfl rfl (qExt rfl rfl rfl rfl (qExt rfl rfl rfl rfl (qNK hK2 ?_)));clear hK2;clear F a;intro a F
  refine cIf F rfl (fun h11 => ?_) (fun h11 => ?_)
  ·
   refine cSR fun K3 hK3=>?_;refine sAl H Tryz.zeroValue101 F rfl rfl ?_;clear F a H; intro b4 a w F H
   refine sSr H 0 ?si F rfl rfl rfl ?s1 rfl rfl ?_
   case si => exact info_size Tryz.sizeOf101
   case s1 => first | rfl | (repeat (first | exact one_nil | (apply one_cons; · first | rfl | assumption | exact one_bif rfl rfl)))
   clear H; intro w H;refine nK hK3 ?_;clear hK3;refine cRegRO (by kernel_rfl) (H.sel [0] rfl rfl) ?_;replace H := H.drew;refine eTF 0 rfl (by kernel_rfl) F rfl rfl rfl (fun w=>rFa (f := 0) (k := 0) Tryz.underlying101 rfl Tryz.sizeOf3 rfl rfl F rfl) (H.sel [0] rfl rfl) qq0 (qT 1 rfl (by kernel_rfl) rfl rfl rfl rfl (fun a F w H=>rLd Tryz.isAgg3 F rfl (H.cell 0 rfl rfl)) (H.sel [0] rfl rfl) qq0 (qTF 2 rfl (by kernel_rfl) rfl rfl rfl (fun a F w=>rFa (f := 1) (k := 1) Tryz.underlying101 rfl Tryz.sizeOf33 rfl rfl F rfl) (H.sel [0] rfl rfl) qq0 (qT 3 rfl (by kernel_rfl) rfl rfl rfl rfl (fun a F w H=>rLd Tryz.isAgg33 F rfl (H.cell 0 rfl rfl)) (H.sel [0] rfl rfl) qq0 ?_)));clear F a;intro a F;refine eOne (k := 4) (i := 4) rfl (by kernel_rfl) F rfl (oSt H 1 Tryz.sizeOf3 F rfl rfl rfl rfl rfl ?_);clear H; intro w H;refine eKeep (H.sel [0] rfl rfl) ?_;refine eOne (k := 5) (i := 5) rfl (by kernel_rfl) F rfl (oSt H 2 Tryz.sizeOf33 F rfl rfl rfl rfl rfl ?_);clear H; intro w H;refine ePartO (by kernel_rfl) H ?_;refine eNil (k := 6) (by kernel_rfl) ?_
   first | refine bEnd Tryz.results51 F ?_ | (simp only [Exit.then, Exit.inBlock, if_true]; (repeat (first | rw [if_pos rfl] | rw [if_neg (by decide)])); refine bEnd Tryz.results51 F ?_)
   exact ⟨rfl, H.tail⟩
  cases h11
end Go.Proofs.YtkchaoajegkadaaGreatDoor
