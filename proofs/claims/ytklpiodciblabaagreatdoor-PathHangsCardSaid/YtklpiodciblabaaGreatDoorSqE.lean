/-
  WALK2. Package path: ends, and what its iterator does; a function that holds a range over a function: its way out. Conditions: the thread lies in memory and is valid; the domain lies in memory.
-/
import Derived.Test.YtklpiodciblabaaGreatDoorSqD
set_option linter.unusedSimpArgs false
set_option linter.unusedVariables false
namespace Go.Proofs.YtklpiodciblabaaGreatDoor
open Go.RowKit
set_option maxRecDepth 100000
theorem enterM {P : Program} {f : FuncId} {fn : Func} {c : Code} {args : List Value} {w : World} {R : Ending → World → Prop} {N : Nat}
    (hf : P.funcs[f]? = some fn) (hb : fn.body = some c) (hn : fn.ntmps = N) (hl : Nat.ble args.length N = true)
    (h : ∀ a, Has N a (number args 0) → c.wpIn Fence.wide 0 P (noOut (bodyPostM Fence.wide 0 P fn R)) (wD a []) w) : Calls P f args.toArray w R := by
  subst hn
  refine callsIn_wide.1 (callsIn_of_wp_marks (n := 0) hf hb trivial ?_ rfl)
  refine wpIn_mono (h _ (Has.start hl)) (fun e a w h => ?_)
  cases e <;> first | exact h | exact h.elim
section
variable {P : Program} {N : Nat} {a : Act} {env : List (Nat × Value)} {w w0 : World} {rs : List Res} {fn : Func} {R : Ending → World → Prop} {ds : List Deferred}
theorem retM (h : LeavesInM Fence.wide 0 P fn a.tmps R ds .returning w) : noOut (bodyPostM Fence.wide 0 P fn R) .ret (wD a ds) w := h
theorem markM {D : Nat} {tmps : Array Value} (H : Own w0 none w rs) (i : Nat) (hi : rs[i]? = some (.obj D (.deferred (some [])))) (K : ∀ w, Own w0 none w (rs.set i (.obj D (.deferred none))) → LeavesInM Fence.wide 0 P fn tmps R ds .returning w) : LeavesInM Fence.wide 0 P fn tmps R (markD D :: ds) .returning w :=
  ⟨by simp, .inl ⟨D, _, rfl, run_takeDeferred (H.pred i _ hi), K _ (H.putO i hi _)⟩⟩
theorem cell_runP {st : TypeId} {b : Nat} {v : Value} {bt : TypeId} (H : Own w0 none w rs) (hu : ∀ w, (isAgg st).run P w = .ok false w) {i : Nat} (hi : rs[i]? = some (.blk b [v] bt)) : (loadVar st ⟨b, 0, none⟩).run P w = .ok v w := by
  have h := H.cell i (j := 0) hi rfl
  simp [loadVar, Sem.run_bind, hu, h, go_sem]
theorem retM2 {t u : Tmp} {st su : TypeId} {b c : Nat} {x y : Value} {bt ct : TypeId} (hres : fn.results = #[.cell t st, .cell u su]) (F : Has N a env) (hv : lk env t = some (.pointer (some ⟨b, 0, none⟩))) (hw : lk env u = some (.pointer (some ⟨c, 0, none⟩))) (hst : ∀ w, (isAgg st).run P w = .ok false w) (hsu : ∀ w, (isAgg su).run P w = .ok false w)
    (H : Own w0 none w rs) (i j : Nat) (hi : rs[i]? = some (.blk b [x] bt)) (hj : rs[j]? = some (.blk c [y] ct)) (h : R (.returned (.tuple #[x, y])) w) : LeavesInM Fence.wide 0 P fn a.tmps R [] .returning w := by
  refine ⟨.tuple #[x, y], ?_, h⟩
  have h1 := cell_runP (P := P) H hst hi
  have h2 := cell_runP (P := P) H hsu hj
  unfold results
  rw [hres, Array.mapM_eq_mapM_toList]
  simp [h1, h2, getD_as (F.get t _ hv), getD_as (F.get u _ hw), cell_addr, Sem.run_bind]
theorem rNext {α : Type} {I : List α → List Res → Prop} {Ix : Code → List α → List Res → Prop} {xs : List α} {O : List Res → World → Prop} (ps2 : List Res) (h : I xs ps2) (hO : O ps2 w) : rPost I Ix xs O .normal a w := ⟨ps2, h, hO⟩
theorem rRet {α : Type} {I : List α → List Res → Prop} {Ix : Code → List α → List Res → Prop} {xs : List α} {O : List Res → World → Prop} (ps2 : List Res) (h : Ix .ret xs ps2) (hO : O ps2 w) : rPost I Ix xs O .ret a w := ⟨ps2, h, hO⟩
end
theorem ends_any (A : Option Addr) (n C : Nat) (DA : Option Addr) (dn DC : Nat) (w0 : World) :
    Calls Tryz.prog 35 #[.slice A n C, .slice DA dn DC] w0 fun e w' => ∃ b2 b3, e = .returned (.func (.func 59) #[] #[.pointer (some ⟨b2, 0, none⟩), .pointer (some ⟨b3, 0, none⟩)]) ∧ Own w0 none w' [.blk b3 [.slice DA dn DC] 23, .blk b2 [.slice A n C] 22] := by
  have H := Own.start w0 none
  refine enterF Tryz.func35 rfl Tryz.ntmps35 rfl (fun a F => ?_);refine cSR fun K1 hK1=>?_;refine sBx H F rfl rfl rfl ?_;clear F a H; intro b2 a w F H;refine sBx H F rfl rfl rfl ?_;clear F a H; intro b3 a w F H;refine sAs F rfl rfl rfl (qNK hK1 (qSR fun K2 hK2=>qFn rfl rfl rfl rfl (qAs rfl rfl rfl (qNK hK2 ?_))));clear hK1 hK2;clear F a;intro a F;refine wp_ret ?_;refine bRet Tryz.results35 F rfl ?_
  exact ⟨_, _, rfl, H⟩
theorem ends_iter (l : List Ins) (dom : List UInt8) (hl : threadOk 6 l = true) (A : Option Addr) (C : Nat) (DA : Option Addr) (DC : Nat) (w0 : World) (hA : RowsAt w0 A 10 (l.map Ins.cells)) (hdn : dom.length ≤ 1000000) (ts : List Res) (b2 b3 : Nat)
    (h2 : ∀ w, Own w0 none w ts → w.cell? ⟨b2, 0, none⟩ = some (.slice A l.length C)) (h3 : ∀ w, Own w0 none w ts → w.cell? ⟨b3, 0, none⟩ = some (.slice DA dom.length DC)) (hdom : ∀ w, Own w0 none w ts → BytesAt w DA dom) :
    Iter Tryz.prog 59 #[.pointer (some ⟨b2, 0, none⟩), .pointer (some ⟨b3, 0, none⟩)] 81 RunP.cells (InvR l) (endsL l dom) w0 ts := by
  intro lp J Jx w1 ps H hJ hY
  refine callsIn_wide.2 ?_
  show Calls Tryz.prog 59 #[.func (.yield lp) #[] #[], .pointer (some ⟨b2, 0, none⟩), .pointer (some ⟨b3, 0, none⟩)] w1 _
  refine enterF Tryz.func59 rfl Tryz.ntmps59 rfl (fun a F => ?_);refine cSR fun K1 hK1=>?_;refine sAl H Tryz.zeroValue81 F rfl rfl ?_;clear F a H; intro b4 a w F H;refine nK hK1 (cReg (sLd Tryz.isAgg22 F rfl rfl rfl (h2 _ H.tail.suf) (qLd Tryz.isAgg23 rfl rfl rfl (h3 _ H.tail.suf) (qMv rfl rfl rfl ?_))));clear hK1;clear F a;intro a F;refine sCall Tryz.call60 F rfl rfl rfl (Md.spread_any l dom hl A C DA DC w0 hA hdn lp J Jx (endsL l dom) hY (l.length + 1) zRun [] b4 ps ts _ (by have : zRun.pc = 0 := rfl; omega) (inv_zero l) (List.prefix_refl _) hJ hdom H) ?_;rintro e w ⟨c9, r9, ps9, rfl, H2, hc9⟩
  replace H := H2.tail
  clear H2
  refine ⟨_, rfl, ?_⟩;clear F a; intro a F;refine sNil ?_
  first | refine bEnd Tryz.results59 F ?_ | (simp only [Exit.then, Exit.inBlock, if_true]; (repeat (first | rw [if_pos rfl] | rw [if_neg (by decide)])); refine bEnd Tryz.results59 F ?_)
  refine ⟨⟨_, rfl⟩, ps9, H, ?_⟩
  rcases hc9 with ⟨_, h⟩ | ⟨_, q, hq, h⟩
  · exact .inl h
  · exact .inr ⟨q, hq, h⟩
end Go.Proofs.YtklpiodciblabaaGreatDoor
