/-
  WALK2. The law PathSums. Conditions: the tables.
-/
import Derived.Test.YtklpiodciblabaaGreatDoorSqM
set_option linter.unusedSimpArgs false
set_option linter.unusedVariables false
namespace Go.Proofs.YtklpiodciblabaaGreatDoor
open Go.Proofs.Tryz
open Go.RowKit
set_option maxRecDepth 100000
section
variable {P : Program} {N : Nat} {a : Act} {env : List (Nat × Value)} {d : Tmp} {ty : TypeId} {pos : String} {af : Array Edge} {g : Option (Nat × Bool)} {w w0 : World} {row : Option Nat} {rs : List Res}
theorem rLkB1 {t kt et : TypeId} {q : IntKind} {m x : Operand} {b : Nat} {k k' : UInt8} {v z : Value} {kv : List (UInt8 × Value)} (H : Own w0 row w rs) (i : Nat) (ht : P.underlying t = some (.map kt et)) (hk : P.underlying kt = some (.int q)) (hz : ∀ w, (zeroValue et).run P w = .ok z w) (F : Has N a env)
    (hm : ev env m = some (.map (some b))) (hx : ev env x = some (b8 k)) (hi : rs[i]? = some (.mpB b kv)) (hn : findB k kv = some (k', v)) :
    (execOp a.eval ⟨some d, .lookup t m x false, ty, pos, af, g⟩).run P w = .ok (.value v) w := by
  obtain ⟨es, clock, h1, h2⟩ := H.pred i _ hi
  obtain ⟨j, hj⟩ := findKey_B (P := P) hk (k := k) h2 w
  rw [hn] at hj
  have hgo : (getObj b).run P w = .ok (.map es clock) w := MapKept.run_getObj_map h1
  simp only [execOp, F.eval hm, F.eval hx, Instr.lookup, Sem.run_bind, run_underlying ht, Result.andThen_ok, hgo, Sem.run_pure, checkKey_B hk, hj, Option.map_some, if_true]
  rfl
end
def ldI (d loc : UInt8) : Ins := ⟨1, d, loc, false, 0, false, 0, 0, 0, 0⟩
def mvI (fn : UInt8) : Ins := ⟨3, 3, 0, true, 1, true, 2, fn, 0, 0⟩
def skI (t : UInt8) : Ins := ⟨8, 0, 0, true, 1, true, 2, t, 0, 1⟩
def stI : Ins := ⟨2, 0, 2, true, 3, false, 0, 0, 0, 0⟩
def feF : Ins := ⟨7, 0, 0, false, 0, false, 0, 0, 3, 0⟩
def sumL (fn t : UInt8) : List Ins := [ldI 1 0, ldI 2 1, mvI fn, skI t, stI, feF]
def r3 (fn v1 v2 : UInt8) : RunP := execE (mvI fn) 0 (execE (ldI 2 1) v2 (execE (ldI 1 0) v1 zRun))
def rT (fn v1 v2 : UInt8) : RunP := (((r3 fn v1 v2).wControl ((r3 fn v1 v2).control ||| 3)).wPc 4).wPc 5
def rF (fn v1 v2 : UInt8) : RunP := ((r3 fn v1 v2).wControl ((r3 fn v1 v2).control ||| 3)).wPc 4
def zT (fn v1 v2 : UInt8) : RunP := execE feF 0 (rT fn v1 v2)
def zF (fn v1 v2 : UInt8) : RunP := execE feF 0 (execE stI 0 (rF fn v1 v2))
theorem sk_T (fn t v1 v2 : UInt8) (h : skpF t v1 v2 = true) : execE (skI t) 0 (r3 fn v1 v2) = rT fn v1 v2 := by
  have e : skipE (skI t) (r3 fn v1 v2) = ((r3 fn v1 v2).wControl ((r3 fn v1 v2).control ||| 3)).wPc 4 := by
    unfold skipE
    refine (if_pos (show skpF (skI t).fn (argV (skI t).aR (skI t).aN (r3 fn v1 v2)) (argV (skI t).bR (skI t).bN (r3 fn v1 v2)) = true from ?_)).trans ?_
    · have e1 : argV (skI t).aR (skI t).aN (r3 fn v1 v2) = v1 := by kernel_rfl
      have e2 : argV (skI t).bR (skI t).bN (r3 fn v1 v2) = v2 := by kernel_rfl
      rw [e1, e2]; exact h
    · kernel_rfl
  show ((skipE (skI t) (r3 fn v1 v2)).wPc ((skipE (skI t) (r3 fn v1 v2)).pc + 1)) = _
  rw [e]; rfl
theorem sk_F (fn t v1 v2 : UInt8) (h : skpF t v1 v2 = false) : execE (skI t) 0 (r3 fn v1 v2) = rF fn v1 v2 := by
  have e : skipE (skI t) (r3 fn v1 v2) = (r3 fn v1 v2).wControl ((r3 fn v1 v2).control ||| 3) := by
    unfold skipE
    refine (if_neg (show ¬ skpF (skI t).fn (argV (skI t).aR (skI t).aN (r3 fn v1 v2)) (argV (skI t).bR (skI t).bN (r3 fn v1 v2)) = true from ?_)).trans ?_
    · have e1 : argV (skI t).aR (skI t).aN (r3 fn v1 v2) = v1 := by kernel_rfl
      have e2 : argV (skI t).bR (skI t).bN (r3 fn v1 v2) = v2 := by kernel_rfl
      rw [e1, e2]; intro hh; have hh : skpF t v1 v2 = true := hh; rw [h] at hh; cases hh
    · kernel_rfl
  show ((skipE (skI t) (r3 fn v1 v2)).wPc ((skipE (skI t) (r3 fn v1 v2)).pc + 1)) = _
  rw [e]; kernel_rfl
theorem sum_go (fn t v1 v2 : UInt8) : followP (sumL fn t) [v1, v2] = goP (sumL fn t) [] (execE (skI t) 0 (r3 fn v1 v2)) := by
  show goP (sumL fn t) [v1, v2] zRun = _
  rw [go_onI (x := ldI 1 0) (by kernel_rfl) (by kernel_rfl), go_onI (x := ldI 2 1) (by kernel_rfl) (by kernel_rfl), go_passI (x := mvI fn) (by kernel_rfl) (by kernel_rfl), go_passI (x := skI t) (by kernel_rfl) (by kernel_rfl)]
  rfl
where
  go_passI {l : List Ins} {r : RunP} {x : Ins} (hx : l[r.pc]? = some x) (hr : readsB x.op = false) {vs : List UInt8} : goP l vs r = goP l vs (execE x 0 r) := by
    cases vs with
    | nil => unfold goP; rw [proceed_step hx hr]
    | cons v vs => unfold goP; rw [proceed_step hx hr]
  go_onI {l : List Ins} {r : RunP} {x : Ins} (hx : l[r.pc]? = some x) (hr : readsB x.op = true) {v : UInt8} {vs : List UInt8} : goP l (v :: vs) r = goP l vs (execE x v r) := by
    have hw : wantsP l r = true := (wants_of hx).trans hr
    have e : proceedP l r = r := proceed_stop (.inl hw)
    have e2 : insAt l r = x := by unfold insAt; rw [hx]; rfl
    rw [go_on (by rw [e]; exact hw), e, e2]
theorem sum_T (fn t v1 v2 : UInt8) (h : skpF t v1 v2 = true) : followP (sumL fn t) [v1, v2] = .done (zT fn v1 v2) := by rw [sum_go, sk_T fn t v1 v2 h]; kernel_rfl
theorem sum_F (fn t v1 v2 : UInt8) (h : skpF t v1 v2 = false) : followP (sumL fn t) [v1, v2] = .done (zF fn v1 v2) := by rw [sum_go, sk_F fn t v1 v2 h]; kernel_rfl
theorem three_of (w : UInt8) (b : UInt8) (hb : b.toNat ≤ 100) : b + w % 3 = b ∨ b + w % 3 = b + 1 ∨ b + w % 3 = b + 2 := by
  have e : (w % 3).toNat = w.toNat % 3 := rfl
  have h : (w % 3).toNat = 0 ∨ (w % 3).toNat = 1 ∨ (w % 3).toNat = 2 := by omega
  rcases h with h | h | h
  · exact .inl (by have : w % 3 = 0 := UInt8.toNat_inj.1 h; rw [this]; simp)
  · exact .inr (.inl (by have : w % 3 = 1 := UInt8.toNat_inj.1 h; rw [this]))
  · exact .inr (.inr (by have : w % 3 = 2 := UInt8.toNat_inj.1 h; rw [this]))
theorem sum_ok (fp tp : UInt8) : threadOk 6 (sumL (1 + fp % 3) (4 + tp % 3)) = true := by
  rcases three_of fp 1 (by decide) with h | h | h <;> rcases three_of tp 4 (by decide) with h2 | h2 | h2 <;> rw [h, h2] <;> kernel_rfl
theorem mov_at (fp v1 v2 : UInt8) : ∃ k, findB (1 + fp % 3) [(1, b8 (v1 + v2)), (2, b8 (v1 - v2)), (3, b8 (v1 ^^^ v2))] = some (k, b8 (movF (1 + fp % 3) v1 v2)) := by
  rcases three_of fp 1 (by decide) with h | h | h <;> rw [h]
  · exact ⟨1, by kernel_rfl⟩
  · exact ⟨2, by kernel_rfl⟩
  · exact ⟨3, by kernel_rfl⟩
theorem sk48 {t v1 v2 : UInt8} (h : t = 4) : skpF t v1 v2 = (v1 == v2) := by subst h; rfl
theorem sk58 {t v1 v2 : UInt8} (h : t = 5) : skpF t v1 v2 = (v1 != v2) := by subst h; rfl
theorem sk68 {t v1 v2 : UInt8} (h : t ≠ 4) (h5 : t ≠ 5) : skpF t v1 v2 = decide (v1 < v2) := by unfold skpF; rw [if_neg h, if_neg h5]
theorem six_of {w : UInt8} (h4 : 4 + w % 3 ≠ 4) (h5 : 4 + w % 3 ≠ 5) : 4 + w % 3 = 6 := by
  rcases three_of w 4 (by decide) with h | h | h
  · exact absurd h h4
  · exact absurd h h5
  · exact h
def lpE (sk : Bool) : UInt8 := if sk = true then 2 else 3
structure SumOut (fn v1 v2 : UInt8) (sk : Bool) (p : PathP) : Prop where
  n3 : 3 ≤ p.evs.length
  n8 : p.evs.length ≤ 4
  len : ((p.evs.length : Int) == 3) = sk
  last : p.evs[p.evs.length - 1]? = some ⟨3, 0, 0, 3, 5, lpE sk⟩
  c2 : 2 ≤ p.ctrl.length
  c8 : p.ctrl.length ≤ 4
  ctrl : p.ctrl.drop (p.ctrl.length - 2) = [(0, lpE sk), (1, lpE sk)]
  regs : ∀ i, i < 8 → p.regs i = if i = 1 then v1 else if i = 2 then v2 else if i = 3 then movF fn v1 v2 else 0
  dT : sk = true → p.data = []
  dF : sk = false → p.data = [(0, 2), (1, 2)] ∧ p.evs[2]? = some ⟨2, 2, movF fn v1 v2, 0, 4, 2⟩
theorem lt8 {i : Nat} (h : i < 8) : i = 0 ∨ i = 1 ∨ i = 2 ∨ i = 3 ∨ i = 4 ∨ i = 5 ∨ i = 6 ∨ i = 7 := by omega
theorem sum_outT (fn v1 v2 : UInt8) : SumOut fn v1 v2 true (runPath (zT fn v1 v2)) := by
  have hl : (runPath (zT fn v1 v2)).evs.length = 3 := by kernel_rfl
  have hc : (runPath (zT fn v1 v2)).ctrl = [(0, 2), (1, 2)] := by kernel_rfl
  refine ⟨by omega, by omega, by rw [hl]; rfl, by rw [hl]; kernel_rfl, by rw [hc]; decide, by rw [hc]; decide, by rw [hc]; rfl, fun i hi => ?_, fun _ => by kernel_rfl, fun h => by cases h⟩
  rcases lt8 hi with rfl | rfl | rfl | rfl | rfl | rfl | rfl | rfl <;> kernel_rfl
theorem sum_outF (fn v1 v2 : UInt8) : SumOut fn v1 v2 false (runPath (zF fn v1 v2)) := by
  have hl : (runPath (zF fn v1 v2)).evs.length = 4 := by kernel_rfl
  have hc : (runPath (zF fn v1 v2)).ctrl = [(0, 2), (1, 2), (0, 3), (1, 3)] := by kernel_rfl
  refine ⟨by omega, by omega, by rw [hl]; rfl, by rw [hl]; kernel_rfl, by rw [hc]; decide, by rw [hc]; decide, by rw [hc]; rfl, fun i hi => ?_, fun h => (by cases h), fun _ => ⟨by kernel_rfl, by kernel_rfl⟩⟩
  rcases lt8 hi with rfl | rfl | rfl | rfl | rfl | rfl | rfl | rfl <;> kernel_rfl
theorem sum_out (fp tp v1 v2 : UInt8) : ∃ p : PathP, followR (sumL (1 + fp % 3) (4 + tp % 3)) [v1, v2] = ⟨p, false, 0⟩ ∧ smallP p = true ∧ SumOut (1 + fp % 3) v1 v2 (skpF (4 + tp % 3) v1 v2) p := by
  cases h : skpF (4 + tp % 3) v1 v2 with
  | true => exact ⟨_, fol_done (sum_ok fp tp) (sum_T _ _ _ _ h), by kernel_rfl, sum_outT _ _ _⟩
  | false => exact ⟨_, fol_done (sum_ok fp tp) (sum_F _ _ _ _ h), by kernel_rfl, sum_outF _ _ _⟩
theorem skne {a b : UInt8} (h : a = b) : (a != b) = false := by subst h; simp
theorem rows_drop8 {w : World} {b o k sz : Nat} {rows : List (List Value)} (h : RowsAt w (some ⟨b, o, none⟩) sz rows) : RowsAt w (some ⟨b, o + k * sz, none⟩) sz (rows.drop k) := fun j cs hj => by
  rw [List.getElem?_drop] at hj
  obtain ⟨b', o', he, hr⟩ := h _ cs hj
  cases he
  refine ⟨b, o + k * sz, rfl, ?_⟩
  have e : o + k * sz + j * sz = o + (k + j) * sz := by rw [Nat.add_mul]; omega
  rw [e]; exact hr
theorem pairs8_n (A B : Option Addr) (CA CB n m : Nat) (l q : List Pr) (w0 : World) (hA : RowsAt w0 A 2 (l.map prC)) (hB : RowsAt w0 B 2 (q.map prC)) (hn : n = l.length) (hm : m = q.length) (hl : l.length ≤ 1000000000000) (hq : q.length ≤ 1000000000000) :
    Calls Tryz.prog 19 #[.slice A n CA, .slice B m CB] w0 fun e w' => e = .returned (.bool (l == q)) ∧ Below w0.heap.size w0 w' := by
  subst hn hm
  exact pairs8_any A B CA CB l q w0 hA hB hl hq
set_option maxHeartbeats 8000000 in
theorem pathSums_any (v1 v2 fp tp : UInt8) (w0 : World) (hN : NeedsAt w0) (hT : TabAt w0) :
    Calls Tryz.prog 6 #[b8 v1, b8 v2, b8 fp, b8 tp] w0 fun e w' => e = .returned (.bool true) ∧ Below w0.heap.size w0 w' := by
  have H := Own.start w0 none
  obtain ⟨p, hfol, hps, hO⟩ := sum_out fp tp v1 v2
  obtain ⟨sk, hsk⟩ : ∃ sk, sk = skpF (4 + tp % 3) v1 v2 := ⟨_, rfl⟩
  rw [← hsk] at hO;refine enterF func6 rfl ntmps6 rfl (fun a F => ?_);refine cSR fun K1 hK1=>sAs F rfl rfl rfl (qNK hK1 (qSR fun K2 hK2=>qMv rfl rfl rfl ?_));clear hK1;clear F a;intro a F
  refine sBin F rfl rfl rfl rfl (bRemB (y := 3) ?_) ?_
  focus decide
  clear F a; intro a F;refine sBin F rfl rfl rfl rfl (bAddB (x := 1)) (qMv rfl rfl rfl ?_);clear F a;intro a F
  refine sBin F rfl rfl rfl rfl (bRemB (y := 3) ?_) ?_
  focus decide
  clear F a; intro a F;refine sBin F rfl rfl rfl rfl (bAddB (x := 4)) (qAs rfl rfl rfl (qAs rfl rfl rfl (qNK hK2 (qSR fun K3 hK3=>qBd (places := [(0, 1), (1, 1), (2, 1), (3, 2), (5, 2), (7, 1), (8, 1), (9, 1)]) zeroValue59 underlying59 (by kernel_rfl) rfl rfl rfl rfl (qBd (places := [(0, 1), (1, 1), (2, 1), (3, 2), (5, 2), (7, 1), (8, 1), (9, 1)]) zeroValue59 underlying59 (by kernel_rfl) rfl rfl rfl rfl ?_)))));clear hK2;clear F a;intro a F;refine sCall call18 F rfl rfl rfl (reg_any 1 _) ?_;rintro e w ⟨rfl, hb⟩;replace H := H.grow hb; clear hb;refine ⟨_, rfl, ?_⟩;clear F a; intro a F;refine sCall call18 F rfl rfl rfl (reg_any 2 _) ?_;rintro e w ⟨rfl, hb⟩;replace H := H.grow hb; clear hb;refine ⟨_, rfl, ?_⟩;clear F a; intro a F;refine sMv F rfl rfl rfl (qBd (places := [(0, 1), (1, 1), (2, 1), (3, 2), (5, 2), (7, 1), (8, 1), (9, 1)]) zeroValue59 underlying59 (by kernel_rfl) rfl rfl rfl rfl ?_);clear F a;intro a F;refine sCall call18 F rfl rfl rfl (reg_any 1 _) ?_;rintro e w ⟨rfl, hb⟩;replace H := H.grow hb; clear hb;refine ⟨_, rfl, ?_⟩;clear F a; intro a F;refine sCall call18 F rfl rfl rfl (reg_any 2 _) ?_;rintro e w ⟨rfl, hb⟩;replace H := H.grow hb; clear hb;refine ⟨_, rfl, ?_⟩;clear F a; intro a F;refine sMv F rfl rfl rfl (qBd (places := [(0, 1), (1, 1), (2, 1), (3, 2), (5, 2), (7, 1), (8, 1), (9, 1)]) zeroValue59 underlying59 (by kernel_rfl) rfl rfl rfl rfl ?_);clear F a;intro a F;refine sCall call18 F rfl rfl rfl (reg_any 3 _) ?_;rintro e w ⟨rfl, hb⟩;replace H := H.grow hb; clear hb;refine ⟨_, rfl, ?_⟩;clear F a; intro a F
  refine sBd (places := [(0, 1), (1, 1), (2, 1), (3, 2), (5, 2), (7, 1), (8, 1), (9, 1)]) zeroValue59 underlying59 (by kernel_rfl) F rfl rfl rfl rfl (qBd (places := [(0, 1), (1, 1), (2, 1), (3, 2), (5, 2), (7, 1), (8, 1), (9, 1)]) zeroValue59 underlying59 (by kernel_rfl) rfl rfl rfl rfl ?_);clear F a;intro a F;refine sBsR (rows := [(ldI 1 0).cells, (ldI 2 1).cells, (mvI (1 + fp % 3)).cells, (skI (4 + tp % 3)).cells, stI.cells, feF.cells]) H underlying22 sizeOf59 zeroValue59 rfl F rfl rfl rfl rfl rfl ?_;clear F a H; intro b35 a w F H;refine sAs F rfl rfl rfl (qNK hK3 (qSR fun K4 hK4=>qMv rfl rfl rfl (qMv rfl rfl rfl (qMv rfl rfl rfl ?_))));clear hK3;clear F a;intro a F;refine sBs H underlying23 sizeOf5 zeroValue5 rfl F rfl rfl rfl rfl rfl ?_;clear F a H; intro b40 a w F H;refine sCall call11 F rfl rfl rfl (Follow_ev _ 6 6 (sumL (1 + fp % 3) (4 + tp % 3)) _ 2 2 [v1, v2] _ false 0 (by rw [hfol]) (by rw [hfol]) (insR_at (l := sumL (1 + fp % 3) (4 + tp % 3)) (H.whole 1 rfl)) rfl (show 6 ≤ 9223372036854775807 by decide) (byt_at (l := [v1, v2]) (H.whole 0 rfl)) rfl (show 2 ≤ 9223372036854775806 by decide) (hN.own H) (hT.own H)) ?_;rintro e w ⟨qp, hqp, rfl, H2⟩;replace H := H.join H2
  clear H2
  obtain rfl : p = qp.path := by rw [hqp, hfol]
  have hn3 := hO.n3
  have hn8 := hO.n8
  have hc2 := hO.c2
  have hc8 := hO.c8
  refine ⟨_, rfl, ?_⟩;clear F a; intro a F;refine sMv F rfl rfl rfl (qExt rfl rfl rfl rfl (qExt rfl rfl rfl rfl (qExt rfl rfl rfl rfl ?_)));clear F a;intro a F;refine sAl H zeroValue28 F rfl rfl ?_;clear F a H; intro b10 a w F H
  refine sSr H 0 ?si F rfl rfl rfl ?s1 rfl rfl ?_
  case si => exact info_size sizeOf28
  case s1 => first | rfl | (repeat (first | exact one_nil | (apply one_cons; · first | rfl | assumption | exact one_bif rfl rfl)))
  clear H; intro w H;refine sAs F rfl rfl rfl (qAs rfl rfl rfl (qNK hK4 ?_));clear hK4;clear F a;intro a F;refine cSeq (fun K5 hK5 => ?_);refine cSR fun K6 hK6=>sMv F rfl rfl rfl (qBin rfl rfl rfl rfl bNeq (qMv rfl rfl rfl ?_));clear F a;intro a F
  refine F.split 47 rfl ?_ ?_ <;> (clear F; intro h47 F)
  ·
   replace h47 := bneT h47
   exact absurd rfl h47
  replace h47 := bneF h47;refine sMv F rfl rfl rfl (qPk rfl rfl rfl rfl (qNK hK6 ?_));clear hK6;clear F a;intro a F
  refine cIf F rfl (fun h49 => ?_) (fun h49 => ?_)
  ·
   cases h49
  refine wp_skip (hK5 _ _ (cSR fun K7 hK7=>?_));clear hK5;refine sMkM H F rfl rfl ?_;clear F a H; intro b50 a w F H;refine sMv F rfl rfl rfl (qMv rfl rfl rfl (qBin rfl rfl rfl rfl (bAddB) ?_));clear F a;intro a F;refine sIns (k := 1) H 0 underlying61 underlying5 F rfl rfl rfl rfl rfl rfl ?_;clear H; intro w H;refine sMv F rfl rfl rfl (qMv rfl rfl rfl (qBin rfl rfl rfl rfl (bSubB) ?_));clear F a;intro a F;refine sIns (k := 2) H 0 underlying61 underlying5 F rfl rfl rfl rfl rfl rfl ?_;clear H; intro w H;refine sMv F rfl rfl rfl (qMv rfl rfl rfl (qBin rfl rfl rfl rfl (bXorB) ?_));clear F a;intro a F;refine sIns (k := 3) H 0 underlying61 underlying5 F rfl rfl rfl rfl rfl rfl ?_;clear H; intro w H;refine sMv F rfl rfl rfl (qMv rfl rfl rfl ?_);clear F a;intro a F;refine stepV F rfl rfl rfl (rLkB1 H 0 underlying61 underlying5 zeroValue5 F rfl rfl rfl ((mov_at fp v1 v2).choose_spec)) ?_;clear F a;intro a F;refine sAs F rfl rfl rfl (qNK hK7 ?_);clear hK7;clear F a;intro a F
  refine cSeqJ [0, 1, 10, 13] (fun ups w => ∃ b : Bool, ups = [(14, .bool b)] ∧ b = sk ∧ Own w0 none w (.blk b10 qp.cells 28 :: qp.res)) F (by repeat (first | exact SubR.nil | (apply SubR.cons; · rfl))) ?_ ?_
  ·
   refine cReg (sMv F rfl rfl rfl (qBin rfl rfl rfl rfl (bEqlB (y := 4)) (qMv rfl rfl rfl ?_)));clear F a;intro a F
   refine F.split 65 rfl ?_ ?_ <;> (clear F; intro h65 F)
   ·
    replace h65 := beqT h65;refine sMv F rfl rfl rfl (qMv rfl rfl rfl (qBin rfl rfl rfl rfl bEqlB (qPk rfl rfl rfl rfl (qMv rfl rfl rfl ?_))));clear F a;intro a F
    refine F.split 70 rfl ?_ ?_ <;> (clear F; intro h70 F)
    ·
     replace h70 := beqT h70;refine sSk F rfl rfl (qSk rfl rfl (qSk rfl rfl (qSk rfl rfl (qSk rfl rfl (qSk rfl rfl (qSk rfl rfl (qPk rfl rfl rfl rfl (qMv rfl rfl rfl (qSk rfl rfl (qSk rfl rfl (qSk rfl rfl (qSk rfl rfl (qSk rfl rfl (qSk rfl rfl (qSk rfl rfl (qPk rfl rfl rfl rfl (qAs rfl rfl rfl ?_)))))))))))))))));clear F a;intro a F;refine sNil ?_
     first
     | exact ⟨_, ⟨_, rfl, (hsk.trans ((sk48 h65).trans (beq_iff_eq.2 h70))).symm, H.sel [1, 2, 3, 4, 5] rfl rfl⟩, F.to (by repeat (first | exact trivial | refine Le.cons rfl ?_))⟩
     | exact ⟨_, ⟨_, rfl, (hsk.trans ((sk48 h65).trans (beq_eq_false_iff_ne.2 h70))).symm, H.sel [1, 2, 3, 4, 5] rfl rfl⟩, F.to (by repeat (first | exact trivial | refine Le.cons rfl ?_))⟩
     | exact ⟨_, ⟨_, rfl, (hsk.trans ((sk58 h73).trans (bne_iff_ne.2 h79))).symm, H.sel [1, 2, 3, 4, 5] rfl rfl⟩, F.to (by repeat (first | exact trivial | refine Le.cons rfl ?_))⟩
     | exact ⟨_, ⟨_, rfl, (hsk.trans ((sk58 h73).trans (skne h79))).symm, H.sel [1, 2, 3, 4, 5] rfl rfl⟩, F.to (by repeat (first | exact trivial | refine Le.cons rfl ?_))⟩
     | exact absurd (six_of h65 h73) h82
     | exact ⟨_, ⟨_, rfl, (hsk.trans (sk68 h65 h73)).symm, H.sel [1, 2, 3, 4, 5] rfl rfl⟩, F.to (by repeat (first | exact trivial | refine Le.cons rfl ?_))⟩
    replace h70 := beqF h70;refine sMv F rfl rfl rfl (qBin rfl rfl rfl rfl (bEqlB (y := 5)) (qMv rfl rfl rfl ?_));clear F a;intro a F
    refine F.split 73 rfl ?_ ?_ <;> (clear F; intro h73 F)
    ·
     replace h73 := beqT h73
     exact absurd (h65.symm.trans h73) (by decide)
    replace h73 := beqF h73;refine sSk F rfl rfl (qSk rfl rfl (qSk rfl rfl (qPk rfl rfl rfl rfl (qPk rfl rfl rfl rfl (qMv rfl rfl rfl (qMv rfl rfl rfl (qBin rfl rfl rfl rfl (bEqlB (y := 6)) (qMv rfl rfl rfl ?_))))))));clear F a;intro a F
    refine F.split 82 rfl ?_ ?_ <;> (clear F; intro h82 F)
    ·
     replace h82 := beqT h82
     exact absurd (h65.symm.trans h82) (by decide)
    replace h82 := beqF h82;refine sSk F rfl rfl (qSk rfl rfl (qSk rfl rfl (qPk rfl rfl rfl rfl (qPk rfl rfl rfl rfl (qAs rfl rfl rfl ?_)))));clear F a;intro a F;refine sNil ?_
    first
    | exact ⟨_, ⟨_, rfl, (hsk.trans ((sk48 h65).trans (beq_iff_eq.2 h70))).symm, H.sel [1, 2, 3, 4, 5] rfl rfl⟩, F.to (by repeat (first | exact trivial | refine Le.cons rfl ?_))⟩
    | exact ⟨_, ⟨_, rfl, (hsk.trans ((sk48 h65).trans (beq_eq_false_iff_ne.2 h70))).symm, H.sel [1, 2, 3, 4, 5] rfl rfl⟩, F.to (by repeat (first | exact trivial | refine Le.cons rfl ?_))⟩
    | exact ⟨_, ⟨_, rfl, (hsk.trans ((sk58 h73).trans (bne_iff_ne.2 h79))).symm, H.sel [1, 2, 3, 4, 5] rfl rfl⟩, F.to (by repeat (first | exact trivial | refine Le.cons rfl ?_))⟩
    | exact ⟨_, ⟨_, rfl, (hsk.trans ((sk58 h73).trans (skne h79))).symm, H.sel [1, 2, 3, 4, 5] rfl rfl⟩, F.to (by repeat (first | exact trivial | refine Le.cons rfl ?_))⟩
    | exact absurd (six_of h65 h73) h82
    | exact ⟨_, ⟨_, rfl, (hsk.trans (sk68 h65 h73)).symm, H.sel [1, 2, 3, 4, 5] rfl rfl⟩, F.to (by repeat (first | exact trivial | refine Le.cons rfl ?_))⟩
   replace h65 := beqF h65;refine sSk F rfl rfl (qSk rfl rfl (qSk rfl rfl (qPk rfl rfl rfl rfl (qMv rfl rfl rfl (qMv rfl rfl rfl (qBin rfl rfl rfl rfl (bEqlB (y := 5)) (qMv rfl rfl rfl ?_)))))));clear F a;intro a F
   refine F.split 73 rfl ?_ ?_ <;> (clear F; intro h73 F)
   ·
    replace h73 := beqT h73;refine sMv F rfl rfl rfl (qMv rfl rfl rfl (qBin rfl rfl rfl rfl bNeqB (qPk rfl rfl rfl rfl (qPk rfl rfl rfl rfl (qMv rfl rfl rfl ?_)))));clear F a;intro a F
    refine F.split 79 rfl ?_ ?_ <;> (clear F; intro h79 F)
    ·
     replace h79 := bneT h79;refine sSk F rfl rfl (qSk rfl rfl (qSk rfl rfl (qSk rfl rfl (qSk rfl rfl (qSk rfl rfl (qSk rfl rfl (qPk rfl rfl rfl rfl (qAs rfl rfl rfl ?_))))))));clear F a;intro a F;refine sNil ?_
     first
     | exact ⟨_, ⟨_, rfl, (hsk.trans ((sk48 h65).trans (beq_iff_eq.2 h70))).symm, H.sel [1, 2, 3, 4, 5] rfl rfl⟩, F.to (by repeat (first | exact trivial | refine Le.cons rfl ?_))⟩
     | exact ⟨_, ⟨_, rfl, (hsk.trans ((sk48 h65).trans (beq_eq_false_iff_ne.2 h70))).symm, H.sel [1, 2, 3, 4, 5] rfl rfl⟩, F.to (by repeat (first | exact trivial | refine Le.cons rfl ?_))⟩
     | exact ⟨_, ⟨_, rfl, (hsk.trans ((sk58 h73).trans (bne_iff_ne.2 h79))).symm, H.sel [1, 2, 3, 4, 5] rfl rfl⟩, F.to (by repeat (first | exact trivial | refine Le.cons rfl ?_))⟩
     | exact ⟨_, ⟨_, rfl, (hsk.trans ((sk58 h73).trans (skne h79))).symm, H.sel [1, 2, 3, 4, 5] rfl rfl⟩, F.to (by repeat (first | exact trivial | refine Le.cons rfl ?_))⟩
     | exact absurd (six_of h65 h73) h82
     | exact ⟨_, ⟨_, rfl, (hsk.trans (sk68 h65 h73)).symm, H.sel [1, 2, 3, 4, 5] rfl rfl⟩, F.to (by repeat (first | exact trivial | refine Le.cons rfl ?_))⟩
    replace h79 := bneF h79;refine sMv F rfl rfl rfl (qBin rfl rfl rfl rfl (bEqlB (y := 6)) (qMv rfl rfl rfl ?_));clear F a;intro a F
    refine F.split 82 rfl ?_ ?_ <;> (clear F; intro h82 F)
    ·
     replace h82 := beqT h82
     exact absurd (h73.symm.trans h82) (by decide)
    replace h82 := beqF h82;refine sSk F rfl rfl (qSk rfl rfl (qSk rfl rfl (qPk rfl rfl rfl rfl (qPk rfl rfl rfl rfl (qAs rfl rfl rfl ?_)))));clear F a;intro a F;refine sNil ?_
    first
    | exact ⟨_, ⟨_, rfl, (hsk.trans ((sk48 h65).trans (beq_iff_eq.2 h70))).symm, H.sel [1, 2, 3, 4, 5] rfl rfl⟩, F.to (by repeat (first | exact trivial | refine Le.cons rfl ?_))⟩
    | exact ⟨_, ⟨_, rfl, (hsk.trans ((sk48 h65).trans (beq_eq_false_iff_ne.2 h70))).symm, H.sel [1, 2, 3, 4, 5] rfl rfl⟩, F.to (by repeat (first | exact trivial | refine Le.cons rfl ?_))⟩
    | exact ⟨_, ⟨_, rfl, (hsk.trans ((sk58 h73).trans (bne_iff_ne.2 h79))).symm, H.sel [1, 2, 3, 4, 5] rfl rfl⟩, F.to (by repeat (first | exact trivial | refine Le.cons rfl ?_))⟩
    | exact ⟨_, ⟨_, rfl, (hsk.trans ((sk58 h73).trans (skne h79))).symm, H.sel [1, 2, 3, 4, 5] rfl rfl⟩, F.to (by repeat (first | exact trivial | refine Le.cons rfl ?_))⟩
    | exact absurd (six_of h65 h73) h82
    | exact ⟨_, ⟨_, rfl, (hsk.trans (sk68 h65 h73)).symm, H.sel [1, 2, 3, 4, 5] rfl rfl⟩, F.to (by repeat (first | exact trivial | refine Le.cons rfl ?_))⟩
   replace h73 := beqF h73;refine sSk F rfl rfl (qSk rfl rfl (qSk rfl rfl (qPk rfl rfl rfl rfl (qPk rfl rfl rfl rfl (qMv rfl rfl rfl (qMv rfl rfl rfl (qBin rfl rfl rfl rfl (bEqlB (y := 6)) (qMv rfl rfl rfl ?_))))))));clear F a;intro a F
   refine F.split 82 rfl ?_ ?_ <;> (clear F; intro h82 F)
   ·
    replace h82 := beqT h82;refine sMv F rfl rfl rfl (qMv rfl rfl rfl (qBin rfl rfl rfl rfl bLssB (qPk rfl rfl rfl rfl (qPk rfl rfl rfl rfl (qAs rfl rfl rfl ?_)))));clear F a;intro a F;refine sNil ?_
    first
    | exact ⟨_, ⟨_, rfl, (hsk.trans ((sk48 h65).trans (beq_iff_eq.2 h70))).symm, H.sel [1, 2, 3, 4, 5] rfl rfl⟩, F.to (by repeat (first | exact trivial | refine Le.cons rfl ?_))⟩
    | exact ⟨_, ⟨_, rfl, (hsk.trans ((sk48 h65).trans (beq_eq_false_iff_ne.2 h70))).symm, H.sel [1, 2, 3, 4, 5] rfl rfl⟩, F.to (by repeat (first | exact trivial | refine Le.cons rfl ?_))⟩
    | exact ⟨_, ⟨_, rfl, (hsk.trans ((sk58 h73).trans (bne_iff_ne.2 h79))).symm, H.sel [1, 2, 3, 4, 5] rfl rfl⟩, F.to (by repeat (first | exact trivial | refine Le.cons rfl ?_))⟩
    | exact ⟨_, ⟨_, rfl, (hsk.trans ((sk58 h73).trans (skne h79))).symm, H.sel [1, 2, 3, 4, 5] rfl rfl⟩, F.to (by repeat (first | exact trivial | refine Le.cons rfl ?_))⟩
    | exact absurd (six_of h65 h73) h82
    | exact ⟨_, ⟨_, rfl, (hsk.trans (sk68 h65 h73)).symm, H.sel [1, 2, 3, 4, 5] rfl rfl⟩, F.to (by repeat (first | exact trivial | refine Le.cons rfl ?_))⟩
   replace h82 := beqF h82;refine sSk F rfl rfl (qSk rfl rfl (qSk rfl rfl (qPk rfl rfl rfl rfl (qPk rfl rfl rfl rfl (qAs rfl rfl rfl ?_)))));clear F a;intro a F;refine sNil ?_
   first
   | exact ⟨_, ⟨_, rfl, (hsk.trans ((sk48 h65).trans (beq_iff_eq.2 h70))).symm, H.sel [1, 2, 3, 4, 5] rfl rfl⟩, F.to (by repeat (first | exact trivial | refine Le.cons rfl ?_))⟩
   | exact ⟨_, ⟨_, rfl, (hsk.trans ((sk48 h65).trans (beq_eq_false_iff_ne.2 h70))).symm, H.sel [1, 2, 3, 4, 5] rfl rfl⟩, F.to (by repeat (first | exact trivial | refine Le.cons rfl ?_))⟩
   | exact ⟨_, ⟨_, rfl, (hsk.trans ((sk58 h73).trans (bne_iff_ne.2 h79))).symm, H.sel [1, 2, 3, 4, 5] rfl rfl⟩, F.to (by repeat (first | exact trivial | refine Le.cons rfl ?_))⟩
   | exact ⟨_, ⟨_, rfl, (hsk.trans ((sk58 h73).trans (skne h79))).symm, H.sel [1, 2, 3, 4, 5] rfl rfl⟩, F.to (by repeat (first | exact trivial | refine Le.cons rfl ?_))⟩
   | exact absurd (six_of h65 h73) h82
   | exact ⟨_, ⟨_, rfl, (hsk.trans (sk68 h65 h73)).symm, H.sel [1, 2, 3, 4, 5] rfl rfl⟩, F.to (by repeat (first | exact trivial | refine Le.cons rfl ?_))⟩
  clear F H
  intro ups a w hI F
  obtain ⟨b9, rfl, rfl, H⟩ := hI
  refine cSeq (fun K8 hK8 => ?_);refine cSR fun K9 hK9=>sFa (f := 2) (k := 2) underlying28 rfl sizeOf25 rfl rfl F rfl rfl rfl (qLd isAgg25 rfl rfl rfl (H.cell 0 rfl rfl) (qLen underlying25 rfl rfl rfl (qBin rfl rfl rfl rfl bLss (qMv rfl rfl rfl ?_))));clear F a;intro a F
  refine F.split 92 rfl ?_ ?_ <;> (clear F; intro h92 F)
  ·
   replace h92 := of_decide_eq_true h92
   omega
  replace h92 := of_decide_eq_false h92;refine sFa (f := 0) (k := 0) underlying28 rfl sizeOf24 rfl rfl F rfl rfl rfl (qLd isAgg24 rfl rfl rfl (H.cell 0 rfl rfl) (qLen underlying24 rfl rfl rfl (qBin rfl rfl rfl rfl bLss (qPk rfl rfl rfl rfl (qMv rfl rfl rfl ?_)))));clear F a;intro a F
  refine F.split 98 rfl ?_ ?_ <;> (clear F; intro h98 F)
  ·
   replace h98 := of_decide_eq_true h98
   omega
  replace h98 := of_decide_eq_false h98;refine sFa (f := 4) (k := 4) underlying28 rfl sizeOf26 rfl rfl F rfl rfl rfl (qLrB underlying26 rfl sizeOf26 rfl rfl rfl (show World.rangeAt _ b10 4 (bs 8 qp.path.regs) from H.range 0 rfl 4 8) (qMv rfl rfl rfl (qMv rfl rfl rfl (qMv rfl rfl rfl (qBaB zB26 underlying26 sizeOf5 rfl rfl rfl (FillB.one rfl rfl (FillB.one rfl rfl (FillB.one rfl rfl FillB.nil))) (qBin rfl rfl rfl rfl (bNeY eT26 gT26 rfl) (qPk rfl rfl rfl rfl (qMv rfl rfl rfl ?_))))))));clear F a;intro a F
  refine F.split 107 rfl ?_ ?_ <;> (clear F; intro h107 F)
  ·
   replace h107 := notT h107
   exact notEq8 (by refine same_iff.2 fun i hi => ?_; rw [hO.regs i hi]; rcases lt8 hi with rfl | rfl | rfl | rfl | rfl | rfl | rfl | rfl <;> rfl) h107
  replace h107 := notF h107;refine sFa (f := 0) (k := 0) underlying28 rfl sizeOf24 rfl rfl F rfl rfl rfl (qLd isAgg24 rfl rfl rfl (H.cell 0 rfl rfl) (qLen underlying24 rfl rfl rfl (qBin rfl rfl rfl rfl bEql (qMv rfl rfl rfl (qBin rfl rfl rfl rfl (bBoolNe underlying4) (qPk rfl rfl rfl rfl (qNK hK9 ?_)))))));clear hK9;clear F a;intro a F
  refine cIf F rfl (fun h114 => ?_) (fun h114 => ?_)
  ·
   replace h114 := nbeqT h114
   exact (h114 hO.len).elim
  replace h114 := nbeqF h114
  have hcc := (H.rwsLen 3 rfl).2.1
  obtain ⟨bE, oE, hA1, hRE⟩ := H.rowsAt 1 rfl ev7 (by omega) _ _ (evAt hO.last)
  obtain ⟨bC, oC, hC1⟩ : ∃ bC oC, qp.A3 = some ⟨bC, oC, none⟩ := by
    obtain ⟨b', o', h', _⟩ := H.rowsAt 3 rfl pr2 (by omega) 0 _ (by rw [List.getElem?_map, List.getElem?_eq_getElem (by omega)]; rfl)
    exact ⟨b', o', h'⟩
  refine wp_skip (hK8 _ _ (cSR fun K10 hK10=>sFa (f := 0) (k := 0) underlying28 rfl sizeOf24 rfl rfl F rfl rfl rfl (qLd isAgg24 rfl rfl rfl (show World.cell? _ ⟨b10, 0, none⟩ = some (.slice (some ⟨bE, oE, none⟩) qp.path.evs.length qp.c1) by rw [← hA1]; exact H.cell 0 rfl rfl) (qFa (f := 0) (k := 0) underlying28 rfl sizeOf24 rfl rfl rfl rfl rfl (qLd isAgg24 rfl rfl rfl (H.cell 0 rfl rfl) (qLen underlying24 rfl rfl rfl ?_))))));clear hK8;clear F a;intro a F
  refine sBin F rfl rfl rfl rfl (bSubN (j := 1) ?_ ?_) ?_
  focus omega
  focus omega
  clear F a; intro a F
  refine sIx underlying24 sizeOf34 F rfl rfl rfl rfl ?_ ?_
  focus omega
  clear F a; intro a F
  refine sLr underlying34 rfl ?si F rfl rfl rfl (own_rowAt H 1 rfl ev7 (by omega) hA1 (evAt hO.last)) ?_
  case si => exact info_size sizeOf34
  clear F a; intro a F;refine sAl H zeroValue34 F rfl rfl ?_;clear F a H; intro b15 a w F H
  refine sSr H 0 ?si F rfl rfl rfl ?s1 rfl rfl ?_
  case si => exact info_size sizeOf34
  case s1 => first | rfl | (repeat (first | exact one_nil | (apply one_cons; · first | rfl | assumption | exact one_bif rfl rfl)))
  clear H; intro w H;refine nK hK10 ?_;clear hK10;refine cSeq (fun K11 hK11 => ?_);refine cSeq (fun K12 hK12 => ?_);refine cRegRO (by kernel_rfl) H ?_;replace H := H.drew;refine eTF 0 rfl (by kernel_rfl) F rfl rfl rfl (fun w=>rFa (f := 1) (k := 1) underlying34 rfl sizeOf5 rfl rfl F rfl) H qq0 (qT 1 rfl (by kernel_rfl) rfl rfl rfl rfl (fun a F w H=>rLd isAgg5 F rfl (H.cell 0 rfl rfl)) H qq0 (qTF 2 rfl (by kernel_rfl) rfl rfl rfl (fun a F w=>rBin F rfl rfl (bNeqB (y := 3))) H qq0 (qTF 3 rfl (by kernel_rfl) rfl rfl rfl (fun a F w=>rMv F rfl) H qq0 ?_)));clear F a;intro a F
  refine F.split 126 rfl ?_ ?_ <;> (clear F; intro h126 F)
  ·
   replace h126 := bneT h126
   exact absurd rfl h126
  replace h126 := bneF h126;refine eTF 4 rfl (by kernel_rfl) F rfl rfl rfl (fun w=>rFa (f := 5) (k := 5) underlying34 rfl sizeOf5 rfl rfl F rfl) H qq0 (qT 5 rfl (by kernel_rfl) rfl rfl rfl rfl (fun a F w H=>rLd isAgg5 F rfl (H.cell 0 rfl rfl)) H qq0 (qTF 6 rfl (by kernel_rfl) rfl rfl rfl (fun a F w=>rBin F rfl rfl (bNeqB (y := 5))) H qq0 (qTF 7 rfl (by kernel_rfl) rfl rfl rfl (fun a F w=>rPk F rfl rfl) H qq0 (qTF 8 rfl (by kernel_rfl) rfl rfl rfl (fun a F w=>rMv F rfl) H qq0 ?_))));clear F a;intro a F
  refine F.split 131 rfl ?_ ?_ <;> (clear F; intro h131 F)
  ·
   replace h131 := bneT h131
   exact absurd rfl h131
  replace h131 := bneF h131;refine eTF 9 rfl (by kernel_rfl) F rfl rfl rfl (fun w=>rFa (f := 4) (k := 4) underlying34 rfl sizeOf5 rfl rfl F rfl) H qq0 (qT 10 rfl (by kernel_rfl) rfl rfl rfl rfl (fun a F w H=>rLd isAgg5 F rfl (H.cell 0 rfl rfl)) H qq0 (qTF 11 rfl (by kernel_rfl) rfl rfl rfl (fun a F w=>rBin F rfl rfl (bNeqB (y := 3))) H qq0 (qTF 12 rfl (by kernel_rfl) rfl rfl rfl (fun a F w=>rPk F rfl rfl) H qq0 (qTF 13 rfl (by kernel_rfl) rfl rfl rfl (fun a F w=>rMv F rfl) H qq0 ?_))));clear F a;intro a F
  refine F.split 136 rfl ?_ ?_ <;> (clear F; intro h136 F)
  ·
   replace h136 := bneT h136
   exact absurd rfl h136
  replace h136 := bneF h136;refine eTF 14 rfl (by kernel_rfl) F rfl rfl rfl (fun w=>rFa (f := 2) (k := 2) underlying28 rfl sizeOf25 rfl rfl F rfl) H qq0 ?_;clear F a;intro a F;refine eTake (k := 15) (i := 15) rfl (by kernel_rfl) F rfl rfl rfl rfl (fun w H => rLd isAgg25 F rfl (show World.cell? _ ⟨b10, 2, none⟩ = some (.slice (some ⟨bC, oC, none⟩) qp.path.ctrl.length qp.c3) by rw [← hC1]; exact H.cell 1 rfl rfl)) H (fun _ _ _ h => h) ?_;clear F a;intro a F;refine eTF 16 rfl (by kernel_rfl) F rfl rfl rfl (fun w=>rFa (f := 2) (k := 2) underlying28 rfl sizeOf25 rfl rfl F rfl) H qq0 (qT 17 rfl (by kernel_rfl) rfl rfl rfl rfl (fun a F w H=>rLd isAgg25 F rfl (H.cell 1 rfl rfl)) H qq0 (qT 18 rfl (by kernel_rfl) rfl rfl rfl rfl (fun a F w H=>rLen underlying25 F rfl) H qq0 ?_));clear F a;intro a F
  refine eTakeF (k := 19) (i := 19) rfl (by kernel_rfl) F rfl rfl rfl (fun w => rBin F rfl rfl (bSubN (j := 2) ?_ ?_)) H (fun _ _ _ h => h) ?_
  focus omega
  focus omega
  clear F a; intro a F
  refine eTake (k := 20) (i := 20) rfl (by kernel_rfl) F rfl rfl rfl rfl (fun w H => rSlL underlying25 sizeOf38 F rfl rfl ?_ ?_) H (fun _ _ _ h => h) ?_
  focus omega
  focus omega
  clear F a; intro a F;refine eTF 21 rfl (by kernel_rfl) F rfl rfl rfl (fun w=>rFa (f := 6) (k := 6) underlying34 rfl sizeOf5 rfl rfl F rfl) H qq0 (qT 22 rfl (by kernel_rfl) rfl rfl rfl rfl (fun a F w H=>rLd isAgg5 F rfl (H.cell 0 rfl rfl)) H qq0 (qT 23 rfl (by kernel_rfl) rfl rfl rfl rfl (fun a F w H=>rBaB zB38 underlying38 sizeOf5 F rfl (FillB.one (v := 0) rfl rfl (FillB.one rfl rfl FillB.nil))) H qq0 (qTF 24 rfl (by kernel_rfl) rfl rfl rfl (fun a F w=>rFa (f := 6) (k := 6) underlying34 rfl sizeOf5 rfl rfl F rfl) H qq0 (qT 25 rfl (by kernel_rfl) rfl rfl rfl rfl (fun a F w H=>rLd isAgg5 F rfl (H.cell 0 rfl rfl)) H qq0 (qT 26 rfl (by kernel_rfl) rfl rfl rfl rfl (fun a F w H=>rBaB zB38 underlying38 sizeOf5 F rfl (FillB.one (v := 1) rfl rfl (FillB.one rfl rfl FillB.nil))) H qq0 ?_)))));clear F a;intro a F;refine eOne (k := 27) (i := 27) rfl (by kernel_rfl) F rfl (oBs H underlying25 sizeOf38 zeroValue38 rfl F rfl rfl rfl rfl ?_);clear F a H; intro b150 a w F H;refine eKeep H.tail ?_;refine eOne (k := 28) (i := 28) rfl (by kernel_rfl) F rfl (oCall call19 F rfl rfl (pairs8_n _ _ _ 2 _ 2 (qp.path.ctrl.drop (qp.path.ctrl.length - 2)) [(0, lpE b9), (1, lpE b9)] _ (by have hr := H.rowsAt 5 rfl pr2 (by decide); rw [hC1] at hr; rw [List.map_drop]; exact rows_drop8 hr) (RowsAt.ofRange8 (sz := 2) (rows := [prC (0, lpE b9), prC (1, lpE b9)]) (H.whole 0 rfl) (pr2 (l := [(0, lpE b9), (1, lpE b9)]))) (by rw [List.length_drop]) rfl (by rw [List.length_drop]; omega) (show 2 ≤ 1000000000000 by decide)) ?_);rintro e w ⟨rfl, hb⟩
  replace H := H.grow hb; clear hb;refine ⟨_, rfl, ?_⟩;clear F a; intro a F;refine ePartO (by kernel_rfl) H ?_;refine eTF 29 rfl (by kernel_rfl) F rfl rfl rfl (fun w=>rNot F rfl) H qq0 (qTF 30 rfl (by kernel_rfl) rfl rfl rfl (fun a F w=>rPk F rfl rfl) H qq0 ?_);clear F a;intro a F;refine eNil (k := 31) (by kernel_rfl) ?_;refine hK12 _ _ ?_;clear hK12
  refine cIf F rfl (fun h153 => ?_) (fun h153 => ?_)
  ·
   replace h153 := notT h153
   exact notEq8 (by rw [hO.ctrl]; exact beq_self_eq_true _) h153
  replace h153 := notF h153;refine wp_skip (hK11 _ _ ?_);clear hK11;refine cSeq (fun K13 hK13 => ?_);refine cSR fun K14 hK14=>sMv F rfl rfl rfl (qNK hK14 ?_);clear hK14;clear F a;intro a F
  refine cIf F rfl (fun h154 => ?_) (fun h154 => ?_)
  ·
   refine cSR fun K15 hK15=>sFa (f := 1) (k := 1) underlying28 rfl sizeOf25 rfl rfl F rfl rfl rfl (qLd isAgg25 rfl rfl rfl (H.cell 2 rfl rfl) (qLen underlying25 rfl rfl rfl (qBin rfl rfl rfl rfl bEql (qMv rfl rfl rfl ?_))));clear F a;intro a F
   refine F.split 159 rfl ?_ ?_ <;> (clear F; intro h159 F)
   ·
    replace h159 := beqT h159;refine sCall call12 F rfl rfl rfl (awake8_any _ (hN.own H) (hT.own H)) ?_;rintro e w ⟨rfl, hb⟩;replace H := H.grow hb; clear hb;refine ⟨_, rfl, ?_⟩;clear F a; intro a F;refine sPk F rfl rfl rfl rfl (qAs rfl rfl rfl (qNK hK15 ?_));clear hK15;clear F a;intro a F;refine wp_ret ?_;simp only [Exit.then];refine bRet results6 F rfl ?_
    exact ⟨rfl, H.below⟩
   replace h159 := beqF h159
   exact (h159 (by rw [hO.dT h154]; rfl)).elim
  refine wp_skip (hK13 _ _ (cSR fun K16 hK16=>sFa (f := 0) (k := 0) underlying28 rfl sizeOf24 rfl rfl F rfl rfl rfl (qLd isAgg24 rfl rfl rfl (show World.cell? _ ⟨b10, 0, none⟩ = some (.slice (some ⟨bE, oE, none⟩) qp.path.evs.length qp.c1) by rw [← hA1]; exact H.cell 2 rfl rfl) ?_)));clear hK13;clear F a;intro a F
  refine sIx (j := 2) underlying24 sizeOf34 F rfl rfl rfl rfl ?_ ?_
  focus omega
  clear F a; intro a F
  refine sLr underlying34 rfl ?si F rfl rfl rfl (own_rowAt H 3 rfl ev7 (by omega) hA1 (evAt (hO.dF h154).2)) ?_
  case si => exact info_size sizeOf34
  clear F a; intro a F;refine sMv F rfl rfl rfl (qBd (places := [(0, 1), (1, 1), (2, 1), (3, 1), (4, 1), (5, 1), (6, 1)]) zeroValue34 underlying34 (by kernel_rfl) rfl rfl rfl rfl (qBin rfl rfl rfl rfl (bEqEv (v := ⟨2, 2, movF (1 + fp % 3) v1 v2, 0, 4, 2⟩)) (qMv rfl rfl rfl ?_)));clear F a;intro a F
  refine F.split 169 rfl ?_ ?_ <;> (clear F; intro h169 F)
  ·
   refine sFa (f := 1) (k := 1) underlying28 rfl sizeOf25 rfl rfl F rfl rfl rfl (qLd isAgg25 rfl rfl rfl (H.cell 2 rfl rfl) (qBaB zB38 underlying38 sizeOf5 rfl rfl rfl (FillB.one (v := 0) rfl rfl (FillB.one (v := 2) rfl rfl FillB.nil)) (qBaB zB38 underlying38 sizeOf5 rfl rfl rfl (FillB.one (v := 1) rfl rfl (FillB.one (v := 2) rfl rfl FillB.nil)) ?_)));clear F a;intro a F;refine sBs H underlying25 sizeOf38 zeroValue38 rfl F rfl rfl rfl rfl rfl ?_;clear F a H; intro b174 a w F H;refine sCall call19 F rfl rfl rfl (pairs8_any qp.A2 _ qp.c2 2 qp.path.data [(0, 2), (1, 2)] _ (H.rowsAt 5 rfl pr2 (by omega)) (RowsAt.ofRange8 (sz := 2) (rows := [prC (0, 2), prC (1, 2)]) (H.whole 0 rfl) (pr2 (l := [(0, 2), (1, 2)]))) (by rw [(hO.dF h154).1]; decide) (by decide)) ?_;rintro e w ⟨rfl, hb⟩;replace H := H.grow hb; clear hb;refine ⟨_, rfl, ?_⟩;clear F a; intro a F;refine sPk F rfl rfl rfl rfl (qMv rfl rfl rfl ?_);clear F a;intro a F
   refine F.split 177 rfl ?_ ?_ <;> (clear F; intro h177 F)
   ·
    refine sCall call12 F rfl rfl rfl (awake8_any _ (hN.own H) (hT.own H)) ?_;rintro e w ⟨rfl, hb⟩;replace H := H.grow hb; clear hb;refine ⟨_, rfl, ?_⟩;clear F a; intro a F;refine sPk F rfl rfl rfl rfl (qAs rfl rfl rfl (qNK hK16 ?_));clear hK16;clear F a;intro a F;refine wp_ret ?_;refine bRet results6 F rfl ?_
    exact ⟨rfl, H.below⟩
   exact notEq8 (by rw [(hO.dF h154).1]; rfl) h177
  rw [eqEv_iff.2 rfl] at h169; cases h169
end Go.Proofs.YtklpiodciblabaaGreatDoor
