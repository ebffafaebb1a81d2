/-
  WALK2. The law PathAtomic. Conditions: the tables.
-/
import Derived.Test.YtklpiodciblabaaGreatDoorSqL
set_option linter.unusedSimpArgs false
set_option linter.unusedVariables false
namespace Go.Proofs.YtklpiodciblabaaGreatDoor
open Go.Proofs.Tryz
open Go.RowKit
set_option maxRecDepth 100000
def swI (a : UInt8) : Ins := ⟨4, 4, 3, false, a, false, 0, 0, 0, 0⟩
def feI (a : UInt8) : Ins := ⟨5, 4, 3, false, a, false, 0, 0, 0, 0⟩
def caI (a b : UInt8) : Ins := ⟨6, 4, 3, false, a, false, b, 0, 0, 0⟩
theorem insOk_of {x : Ins} {locs after : Int} (h0 : condK x locs after 0 = true) (h1 : x.needed = x) (h2 : condK x locs after 2 = true) (h3 : condK x locs after 3 = true) (h4 : condK x locs after 4 = true) (h5 : condK x locs after 5 = true) (h6 : condK x locs after 6 = true) (h7 : condK x locs after 7 = true) : insOk x locs after = true := by
  have h1' : condK x locs after 1 = true := by show (x == x.needed) = true; rw [h1]; simp
  have e : insOk x locs after = (condK x locs after 0 && (condK x locs after 1 && (condK x locs after 2 && (condK x locs after 3 && (condK x locs after 4 && (condK x locs after 5 && (condK x locs after 6 && (condK x locs after 7 && true)))))))) := rfl
  rw [e, h0, h1', h2, h3, h4, h5, h6, h7]; rfl
theorem one_ok {x : Ins} (h : insOk x 6 0 = true) : threadOk 6 [x] = true := by
  show (decide ([x].length ≤ 12) && (insOk x 6 0 && true)) = true
  rw [h]; rfl
theorem sw_ok (a : UInt8) : threadOk 6 [swI a] = true := one_ok (insOk_of (by kernel_rfl) (by kernel_rfl) (by kernel_rfl) (by kernel_rfl) (by kernel_rfl) (by kernel_rfl) (by kernel_rfl) (by kernel_rfl))
theorem fe_ok (a : UInt8) : threadOk 6 [feI a] = true := one_ok (insOk_of (by kernel_rfl) (by kernel_rfl) (by kernel_rfl) (by kernel_rfl) (by kernel_rfl) (by kernel_rfl) (by kernel_rfl) (by kernel_rfl))
theorem ca_ok (a b : UInt8) : threadOk 6 [caI a b] = true := one_ok (insOk_of (by kernel_rfl) (by kernel_rfl) (by kernel_rfl) (by kernel_rfl) (by kernel_rfl) (by kernel_rfl) (by kernel_rfl) (by kernel_rfl))
def swR (a v : UInt8) : RunP := execE (swI a) v zRun
def feR (a v : UInt8) : RunP := execE (feI a) v zRun
theorem sw_go (a v : UInt8) : followP [swI a] [v] = .done (swR a v) := by kernel_rfl
theorem fe_go (a v : UInt8) : followP [feI a] [v] = .done (feR a v) := by kernel_rfl
def caN (v : UInt8) : RunP := (setP 4 v 1 (emitP 1 3 v 3 0 zRun)).wPc 1
def caY (a b v : UInt8) : RunP := ((exchE (caI a b) v b 0 zRun).wCtrl 1 ((exchE (caI a b) v b 0 zRun).ctrl 1 ||| 1)).wPc 1
theorem ca_n (a b v : UInt8) (h : v ≠ a) : execE (caI a b) v zRun = caN v := by
  have : casE (caI a b) v zRun = setP 4 v 1 (emitP 1 3 v 3 0 zRun) := by unfold casE; exact if_pos h
  show ((casE (caI a b) v zRun).wPc ((casE (caI a b) v zRun).pc + 1)) = _
  rw [this]; rfl
theorem ca_y (a b : UInt8) : execE (caI a b) a zRun = caY a b a := by
  have : casE (caI a b) a zRun = (exchE (caI a b) a b 0 zRun).wCtrl 1 ((exchE (caI a b) a b 0 zRun).ctrl 1 ||| 1) := by unfold casE; refine (if_neg (show ¬ (a ≠ argV (caI a b).aR (caI a b).aN zRun) from fun h => h rfl)).trans ?_; kernel_rfl
  show ((casE (caI a b) a zRun).wPc ((casE (caI a b) a zRun).pc + 1)) = _
  rw [this]; rfl
theorem ca_go (a b v : UInt8) : followP [caI a b] [v] = (if wantsP [caI a b] (proceedP [caI a b] (execE (caI a b) v zRun)) = true then .wants else .done (proceedP [caI a b] (execE (caI a b) v zRun))) := by kernel_rfl
theorem ca_gn (a b v : UInt8) (h : v ≠ a) : followP [caI a b] [v] = .done (caN v) := by rw [ca_go, ca_n a b v h]; kernel_rfl
theorem ca_gy (a b : UInt8) : followP [caI a b] [a] = .done (caY a b a) := by rw [ca_go, ca_y a b]; kernel_rfl
structure AtOut (op v : UInt8) (x : Ins) (want : UInt8) (wr : Bool) (r : RunP) : Prop where
  fol : followR [x] [v] = ⟨runPath r, false, 0⟩
  regs : r.regs 4 = v
  evs : evsP r = if wr = true then [⟨1, 3, v, 3, 0, 0⟩, ⟨2, 3, want, 3, 0, 1⟩] else [⟨1, 3, v, 3, 0, 0⟩]
  rmw : (runPath r).rmw = if wr = true then [(0, 1)] else []
  data : (runPath r).data.length = if wr = true ∧ op = 5 then 1 else 0
  ctrl : (runPath r).ctrl.length = if wr = true ∧ op = 6 then 1 else 0
theorem fol_done {l : List Ins} {reads : List UInt8} {r : RunP} (hl : threadOk 6 l = true) (h : followP l reads = .done r) : followR l reads = ⟨runPath r, false, 0⟩ := by rw [followR_ok hl h]; rfl
theorem at_sw (a v : UInt8) : AtOut 4 v (swI a) a true (swR a v) := ⟨fol_done (sw_ok a) (sw_go a v), by kernel_rfl, by kernel_rfl, by kernel_rfl, by kernel_rfl, by kernel_rfl⟩
theorem at_fe (a v : UInt8) : AtOut 5 v (feI a) (v + a) true (feR a v) := ⟨fol_done (fe_ok a) (fe_go a v), by kernel_rfl, by kernel_rfl, by kernel_rfl, by kernel_rfl, by kernel_rfl⟩
theorem at_cy (a b : UInt8) : AtOut 6 a (caI a b) b true (caY a b a) := ⟨fol_done (ca_ok a b) (ca_gy a b), by kernel_rfl, by kernel_rfl, by kernel_rfl, by kernel_rfl, by kernel_rfl⟩
theorem at_cn (a b v : UInt8) (h : v ≠ a) : AtOut 6 v (caI a b) b false (caN v) := ⟨fol_done (ca_ok a b) (ca_gn a b v h), by kernel_rfl, by kernel_rfl, by kernel_rfl, by kernel_rfl, by kernel_rfl⟩
theorem at_ca (a b v : UInt8) : ∃ r, AtOut 6 v (caI a b) b (v == a) r := by
  by_cases h : v = a
  · subst h; rw [beq_self_eq_true]; exact ⟨_, at_cy v b⟩
  · rw [beq_eq_false_iff_ne.2 h]; exact ⟨_, at_cn a b v h⟩
theorem op_three (w : UInt8) (h5 : ¬ 4 + w % 3 = 5) (h6 : ¬ 4 + w % 3 = 6) : 4 + w % 3 = 4 := by
  have e : (4 + w % 3).toNat = 4 + w.toNat % 3 := by
    have h : (w % 3).toNat = w.toNat % 3 := rfl
    rw [UInt8.toNat_add, h]
    have : (4 : UInt8).toNat = 4 := rfl
    rw [this]; omega
  refine UInt8.toNat_inj.1 ?_
  have h5' : (4 + w % 3).toNat ≠ 5 := fun h => h5 (UInt8.toNat_inj.1 h)
  have h6' : (4 + w % 3).toNat ≠ 6 := fun h => h6 (UInt8.toNat_inj.1 h)
  show (4 + w % 3).toNat = 4
  omega
theorem at_tel {n : Nat} {o k : UInt8} (h : n = if true = true ∧ o = k then 1 else 0) : ((n : Int) == 1) = (o == k) := by
  by_cases hk : o = k
  · rw [if_pos ⟨rfl, hk⟩] at h; subst h hk; simp
  · rw [if_neg (fun q => hk q.2)] at h; subst h; rw [beq_eq_false_iff_ne.2 hk]; rfl
theorem pathAtomic_any (v x1 x2 wh : UInt8) (w0 : World) (hN : NeedsAt w0) (hT : TabAt w0) :
    Calls Tryz.prog 7 #[b8 v, b8 x1, b8 x2, b8 wh] w0 fun e w' => e = .returned (.bool true) ∧ Below w0.heap.size w0 w' := by
  have H := Own.start w0 none
  refine enterF func7 rfl ntmps7 rfl (fun a F => ?_);refine cSR fun K1 hK1=>sAs F rfl rfl rfl (qNK hK1 (qSR fun K2 hK2=>qMv rfl rfl rfl ?_));clear hK1;clear F a;intro a F
  refine sBin F rfl rfl rfl rfl (bRemB (y := 3) ?_) ?_
  focus decide
  clear F a; intro a F;refine sBin F rfl rfl rfl rfl (bAddB (x := 4)) (qAs rfl rfl rfl (qNK hK2 (qSR fun K3 hK3=>qMv rfl rfl rfl (qMv rfl rfl rfl ?_))));clear hK2;clear F a;intro a F;refine sCall call20 F rfl rfl rfl (val_any x1 _) ?_;rintro e w ⟨rfl, hb⟩;replace H := H.grow hb; clear hb;refine ⟨_, rfl, ?_⟩;clear F a; intro a F;refine sBd (places := [(0, 1), (1, 1), (2, 1), (3, 2), (5, 2), (7, 1), (8, 1), (9, 1)]) zeroValue59 underlying59 (by kernel_rfl) F rfl rfl rfl rfl ?_;clear F a;intro a F;refine sAl H zeroValue59 F rfl rfl ?_;clear F a H; intro b10 a w F H
  refine sSr H 0 ?si F rfl rfl rfl ?s1 rfl rfl ?_
  case si => exact info_size sizeOf59
  case s1 => first | rfl | (repeat (first | exact one_nil | (apply one_cons; · first | rfl | assumption | exact one_bif rfl rfl)))
  clear H; intro w H;refine nK hK3 (cSR fun K4 hK4=>sMv F rfl rfl rfl (qAs rfl rfl rfl (qAs rfl rfl rfl (qNK hK4 ?_))));clear hK3 hK4;clear F a;intro a F
  refine cSeqJ [0, 9, 10] (fun ups w => ∃ (x : Ins) (want : UInt8) (wr : Bool) (r : RunP), ups = [(11, Go.Proofs.YtklpiodciblabaaGreatDoor.b8 want), (12, .bool wr)] ∧ AtOut (4 + wh % 3) v x want wr r ∧ Own w0 none w [.blk b10 x.cells 59]) F (by repeat (first | exact SubR.nil | (apply SubR.cons; · rfl))) ?_ ?_
  ·
   refine cSR fun K5 hK5=>sMv F rfl rfl rfl (qNK hK5 ?_);clear hK5;clear F a;intro a F;refine wp_block ?_;refine cSR fun K6 hK6=>sBin F rfl rfl rfl rfl (bEqlB (y := 5)) (qAs rfl rfl rfl (qNK hK6 ?_));clear hK6;clear F a;intro a F
   refine cIf F rfl (fun h25 => ?_) (fun h25 => ?_)
   ·
    replace h25 := beqT h25
    replace h25 : 4 + wh % 3 = 5 := h25
    refine cReg (sMv F rfl rfl rfl (qMv rfl rfl rfl (qBin rfl rfl rfl rfl (bAddB) (qAs rfl rfl rfl ?_))));clear F a;intro a F;refine sNil ?_
    first
    | (refine ⟨_, ⟨feI x1, v + x1, true, feR x1 v, rfl, ?_, by rw [h25] at H; exact H⟩, F.to (by repeat (first | exact trivial | refine Le.cons rfl ?_))⟩
       rw [h25]; exact at_fe x1 v)
    | (refine ⟨_, ⟨caI x1 x2, x2, v == x1, (at_ca x1 x2 v).choose, rfl, ?_, by rw [h30] at H; exact H⟩, F.to (by repeat (first | exact trivial | refine Le.cons rfl ?_))⟩
       rw [h30]; exact (at_ca x1 x2 v).choose_spec)
    | (have h4 := op_three wh h25 h30
       refine ⟨_, ⟨swI x1, x1, true, swR x1 v, rfl, ?_, by rw [h4] at H; exact H⟩, F.to (by repeat (first | exact trivial | refine Le.cons rfl ?_))⟩
       rw [h4]; exact at_sw x1 v)
   replace h25 := beqF h25;refine cSR fun K7 hK7=>sBin F rfl rfl rfl rfl (bEqlB (y := 6)) (qAs rfl rfl rfl (qNK hK7 ?_));clear hK7;clear F a;intro a F
   refine cIf F rfl (fun h30 => ?_) (fun h30 => ?_)
   ·
    replace h30 := beqT h30;refine cSR fun K8 hK8=>sMv F rfl rfl rfl ?_;clear F a;intro a F;refine sCall call20 F rfl rfl rfl (val_any x2 _) ?_;rintro e w ⟨rfl, hb⟩;replace H := H.grow hb; clear hb;refine ⟨_, rfl, ?_⟩;clear F a; intro a F;refine sFa (f := 4) (k := 5) underlying59 rfl sizeOf57 rfl rfl F rfl rfl rfl ?_;clear F a;intro a F
    refine sSr H 0 ?si F rfl rfl rfl ?s1 rfl rfl ?_
    case si => exact info_size sizeOf57
    case s1 => first | rfl | (repeat (first | exact one_nil | (apply one_cons; · first | rfl | assumption | exact one_bif rfl rfl)))
    clear H; intro w H;refine nK hK8 (cReg (sMv F rfl rfl rfl (qMv rfl rfl rfl (qMv rfl rfl rfl (qBin rfl rfl rfl rfl bEqlB (qAs rfl rfl rfl (qAs rfl rfl rfl ?_)))))));clear hK8;clear F a;intro a F;refine sNil ?_
    first
    | (refine ⟨_, ⟨feI x1, v + x1, true, feR x1 v, rfl, ?_, by rw [h25] at H; exact H⟩, F.to (by repeat (first | exact trivial | refine Le.cons rfl ?_))⟩
       rw [h25]; exact at_fe x1 v)
    | (refine ⟨_, ⟨caI x1 x2, x2, v == x1, (at_ca x1 x2 v).choose, rfl, ?_, by rw [h30] at H; exact H⟩, F.to (by repeat (first | exact trivial | refine Le.cons rfl ?_))⟩
       rw [h30]; exact (at_ca x1 x2 v).choose_spec)
    | (have h4 := op_three wh h25 h30
       refine ⟨_, ⟨swI x1, x1, true, swR x1 v, rfl, ?_, by rw [h4] at H; exact H⟩, F.to (by repeat (first | exact trivial | refine Le.cons rfl ?_))⟩
       rw [h4]; exact at_sw x1 v)
   replace h30 := beqF h30;refine wp_skip ?_
   first
   | (refine ⟨_, ⟨feI x1, v + x1, true, feR x1 v, rfl, ?_, by rw [h25] at H; exact H⟩, F.to (by repeat (first | exact trivial | refine Le.cons rfl ?_))⟩
      rw [h25]; exact at_fe x1 v)
   | (refine ⟨_, ⟨caI x1 x2, x2, v == x1, (at_ca x1 x2 v).choose, rfl, ?_, by rw [h30] at H; exact H⟩, F.to (by repeat (first | exact trivial | refine Le.cons rfl ?_))⟩
      rw [h30]; exact (at_ca x1 x2 v).choose_spec)
   | (have h4 := op_three wh h25 h30
      refine ⟨_, ⟨swI x1, x1, true, swR x1 v, rfl, ?_, by rw [h4] at H; exact H⟩, F.to (by repeat (first | exact trivial | refine Le.cons rfl ?_))⟩
      rw [h4]; exact at_sw x1 v)
  clear F H
  intro ups a w hI F
  obtain ⟨x, want, wr, r, rfl, hA, H⟩ := hI
  refine cSR fun K9 hK9=>?_
  refine sLr underlying59 rfl ?si F rfl rfl rfl (H.whole 0 rfl) ?_
  case si => exact info_size sizeOf59
  clear F a; intro a F;refine sBsA H underlying22 sizeOf59 zeroValue59 rfl F rfl rfl rfl rfl rfl ?_;clear F a H; intro b41 a w F H;refine sMv F rfl rfl rfl ?_;clear F a;intro a F;refine sBs1 H underlying23 sizeOf5 zeroValue5 rfl F rfl rfl rfl rfl ?_;clear F a H; intro b43 a w F H;refine sCall call11 F rfl rfl rfl (Follow_ev _ 1 1 [x] _ 1 1 [v] _ false 0 (by rw [hA.fol]) (by rw [hA.fol]) (insR_at (l := [x]) (H.whole 1 rfl)) rfl (show 1 ≤ 9223372036854775807 by decide) (byt_at (l := [v]) (H.whole 0 rfl)) rfl (show 1 ≤ 9223372036854775806 by decide) (hN.own H) (hT.own H)) ?_;rintro e w ⟨qp, hqp, rfl, H2⟩;replace H := H.join H2
  clear H2
  rw [hA.fol] at hqp
  have hre : qp.path.regs 4 = v := by rw [hqp]; exact hA.regs
  have hev := (congrArg PathP.evs hqp).trans hA.evs
  have hrm := (congrArg PathP.rmw hqp).trans hA.rmw
  have hda := (congrArg (fun p : PathP => p.data.length) hqp).trans hA.data
  have hct := (congrArg (fun p : PathP => p.ctrl.length) hqp).trans hA.ctrl
  have he0 : qp.path.evs[0]? = some ⟨1, 3, v, 3, 0, 0⟩ := by rw [hev]; split <;> rfl
  have hl0 : 0 < qp.path.evs.length := by rw [hev]; split <;> exact Nat.succ_pos _
  refine ⟨_, rfl, ?_⟩;clear F a; intro a F;refine sMv F rfl rfl rfl (qExt rfl rfl rfl rfl (qExt rfl rfl rfl rfl (qExt rfl rfl rfl rfl ?_)));clear F a;intro a F;refine sAl H zeroValue28 F rfl rfl ?_;clear F a H; intro b13 a w F H
  refine sSr H 0 ?si F rfl rfl rfl ?s1 rfl rfl ?_
  case si => exact info_size sizeOf28
  case s1 => first | rfl | (repeat (first | exact one_nil | (apply one_cons; · first | rfl | assumption | exact one_bif rfl rfl)))
  clear H; intro w H;refine sAs F rfl rfl rfl (qAs rfl rfl rfl (qNK hK9 ?_));clear hK9;clear F a;intro a F;refine cSeq (fun K10 hK10 => ?_);refine cSR fun K11 hK11=>sMv F rfl rfl rfl (qBin rfl rfl rfl rfl bNeq (qMv rfl rfl rfl ?_));clear F a;intro a F
  refine F.split 50 rfl ?_ ?_ <;> (clear F; intro h50 F)
  ·
   replace h50 := bneT h50
   exact absurd rfl h50
  replace h50 := bneF h50;refine sMv F rfl rfl rfl (qPk rfl rfl rfl rfl (qMv rfl rfl rfl ?_));clear F a;intro a F
  refine F.split 53 rfl ?_ ?_ <;> (clear F; intro h53 F)
  ·
   cases h53
  refine sFa (f := 4) (k := 4) underlying28 rfl sizeOf26 rfl rfl F rfl rfl rfl ?_;clear F a;intro a F
  refine sIa (j := 4) underlying26 sizeOf5 F rfl rfl rfl rfl ?_ ?_
  focus (first | omega | decide | (simp; omega))
  clear F a; intro a F;refine sLd isAgg5 F rfl rfl rfl (H.cell 0 rfl rfl) (qMv rfl rfl rfl (qBin rfl rfl rfl rfl bNeqB (qPk rfl rfl rfl rfl (qMv rfl rfl rfl ?_))));clear F a;intro a F
  refine F.split 60 rfl ?_ ?_ <;> (clear F; intro h60 F)
  ·
   replace h60 := bneT h60
   exact absurd hre h60
  replace h60 := bneF h60;refine sFa (f := 0) (k := 0) underlying28 rfl sizeOf24 rfl rfl F rfl rfl rfl (qLd isAgg24 rfl rfl rfl (H.cell 0 rfl rfl) (qLen underlying24 rfl rfl rfl (qBin rfl rfl rfl rfl bEql (qPk rfl rfl rfl rfl (qMv rfl rfl rfl ?_)))));clear F a;intro a F
  refine F.split 66 rfl ?_ ?_ <;> (clear F; intro h66 F)
  ·
   replace h66 := beqT h66
   omega
  replace h66 := beqF h66
  obtain ⟨bE, oE, hA1, hRE⟩ := H.rowsAt 1 rfl ev7 (by omega) 0 _ (evAt he0)
  refine sFa (f := 0) (k := 0) underlying28 rfl sizeOf24 rfl rfl F rfl rfl rfl (qLd isAgg24 rfl rfl rfl (show World.cell? _ ⟨b13, 0, none⟩ = some (.slice (some ⟨bE, oE, none⟩) qp.path.evs.length qp.c1) by rw [← hA1]; exact H.cell 0 rfl rfl) ?_);clear F a;intro a F
  refine sIx (j := 0) underlying24 sizeOf34 F rfl rfl rfl rfl ?_ ?_
  focus (first | omega | decide | (simp; omega))
  clear F a; intro a F
  refine sLr underlying34 rfl ?si F rfl rfl rfl (own_rowAt H 1 rfl ev7 (by omega) hA1 (evAt he0)) ?_
  case si => exact info_size sizeOf34
  clear F a; intro a F;refine sMv F rfl rfl rfl (qBd (places := [(0, 1), (1, 1), (2, 1), (3, 1), (4, 1), (5, 1), (6, 1)]) zeroValue34 underlying34 (by kernel_rfl) rfl rfl rfl rfl (qBin rfl rfl rfl rfl (bNeEv (v := ⟨1, 3, v, 3, 0, 0⟩)) (qPk rfl rfl rfl rfl (qNK hK11 ?_))));clear hK11;clear F a;intro a F
  refine cIf F rfl (fun h74 => ?_) (fun h74 => ?_)
  ·
   rw [eqEv_iff.2 rfl] at h74; cases h74
  refine wp_skip (hK10 _ _ ?_);clear hK10;refine cSeq (fun K12 hK12 => ?_);refine cSR fun K13 hK13=>sMv F rfl rfl rfl (qNot rfl rfl rfl (qNK hK13 ?_));clear hK13;clear F a;intro a F
  refine cIf F rfl (fun h76 => ?_) (fun h76 => ?_)
  ·
   replace h76 := notT h76
   have hwf : wr = false := h76
   have hl1 : qp.path.evs.length = 1 := by rw [hev, hwf]; rfl
   have hl2 : qp.path.rmw.length = 0 := by rw [hrm, hwf]; rfl
   have hl3 : qp.path.data.length = 0 := by rw [hda, hwf]; rfl
   have hl4 : qp.path.ctrl.length = 0 := by rw [hct, hwf]; rfl
   refine cSR fun K14 hK14=>sFa (f := 0) (k := 0) underlying28 rfl sizeOf24 rfl rfl F rfl rfl rfl (qLd isAgg24 rfl rfl rfl (H.cell 0 rfl rfl) (qLen underlying24 rfl rfl rfl (qBin rfl rfl rfl rfl bEql (qMv rfl rfl rfl ?_))));clear F a;intro a F
   refine F.split 81 rfl ?_ ?_ <;> (clear F; intro h81 F)
   ·
    replace h81 := beqT h81;refine sFa (f := 3) (k := 3) underlying28 rfl sizeOf25 rfl rfl F rfl rfl rfl (qLd isAgg25 rfl rfl rfl (H.cell 0 rfl rfl) (qLen underlying25 rfl rfl rfl (qFa (f := 1) (k := 1) underlying28 rfl sizeOf25 rfl rfl rfl rfl rfl (qLd isAgg25 rfl rfl rfl (H.cell 0 rfl rfl) (qLen underlying25 rfl rfl rfl ?_)))));clear F a;intro a F
    refine sBin F rfl rfl rfl rfl (bAddN ?_) ?_
    focus omega
    clear F a; intro a F;refine sFa (f := 2) (k := 2) underlying28 rfl sizeOf25 rfl rfl F rfl rfl rfl (qLd isAgg25 rfl rfl rfl (H.cell 0 rfl rfl) (qLen underlying25 rfl rfl rfl ?_));clear F a;intro a F
    refine sBin F rfl rfl rfl rfl (bAddN ?_) ?_
    focus omega
    clear F a; intro a F;refine sBin F rfl rfl rfl rfl bEql (qPk rfl rfl rfl rfl (qMv rfl rfl rfl ?_));clear F a;intro a F
    refine F.split 95 rfl ?_ ?_ <;> (clear F; intro h95 F)
    ·
     replace h95 := beqT h95;refine sCall call12 F rfl rfl rfl (awake8_any _ (hN.own H) (hT.own H)) ?_;rintro e w ⟨rfl, hb⟩;replace H := H.grow hb; clear hb;refine ⟨_, rfl, ?_⟩;clear F a; intro a F;refine sPk F rfl rfl rfl rfl (qAs rfl rfl rfl (qNK hK14 ?_));clear hK14;clear F a;intro a F;refine wp_ret ?_;simp only [Exit.then];refine bRet results7 F rfl ?_
     exact ⟨rfl, H.below⟩
    replace h95 := beqF h95
    omega
   replace h81 := beqF h81
   omega
  replace h76 := notF h76
  have hwf : wr = true := h76
  have hl1 : qp.path.evs.length = 2 := by rw [hev, hwf]; rfl
  have hl2 : qp.path.rmw = [(0, 1)] := by rw [hrm, hwf]; rfl
  have he1 : qp.path.evs[1]? = some ⟨2, 3, want, 3, 0, 1⟩ := by rw [hev, hwf]; rfl
  rw [hwf] at hda hct
  have hd5 : ((qp.path.data.length : Int) == 1) = (4 + wh % 3 == 5) := at_tel hda
  have hc6 : ((qp.path.ctrl.length : Int) == 1) = (4 + wh % 3 == 6) := at_tel hct
  refine wp_skip (hK12 _ _ (cSR fun K15 hK15=>sFa (f := 0) (k := 0) underlying28 rfl sizeOf24 rfl rfl F rfl rfl rfl (qLd isAgg24 rfl rfl rfl (H.cell 0 rfl rfl) (qLen underlying24 rfl rfl rfl (qBin rfl rfl rfl rfl bEql (qMv rfl rfl rfl ?_))))));clear hK12;clear F a;intro a F
  refine F.split 102 rfl ?_ ?_ <;> (clear F; intro h102 F)
  ·
   replace h102 := beqT h102;refine sFa (f := 0) (k := 0) underlying28 rfl sizeOf24 rfl rfl F rfl rfl rfl (qLd isAgg24 rfl rfl rfl (show World.cell? _ ⟨b13, 0, none⟩ = some (.slice (some ⟨bE, oE, none⟩) qp.path.evs.length qp.c1) by rw [← hA1]; exact H.cell 0 rfl rfl) ?_);clear F a;intro a F
   refine sIx (j := 1) underlying24 sizeOf34 F rfl rfl rfl rfl ?_ ?_
   focus (first | omega | decide | (simp; omega))
   clear F a; intro a F
   refine sLr underlying34 rfl ?si F rfl rfl rfl (own_rowAt H 1 rfl ev7 (by omega) hA1 (evAt he1)) ?_
   case si => exact info_size sizeOf34
   clear F a; intro a F;refine sMv F rfl rfl rfl (qBd (places := [(0, 1), (1, 1), (2, 1), (3, 1), (4, 1), (5, 1), (6, 1)]) zeroValue34 underlying34 (by kernel_rfl) rfl rfl rfl rfl (qBin rfl rfl rfl rfl (bEqEv (v := ⟨2, 3, want, 3, 0, 1⟩)) (qPk rfl rfl rfl rfl (qMv rfl rfl rfl ?_))));clear F a;intro a F
   refine F.split 111 rfl ?_ ?_ <;> (clear F; intro h111 F)
   ·
    refine sFa (f := 3) (k := 3) underlying28 rfl sizeOf25 rfl rfl F rfl rfl rfl (qLd isAgg25 rfl rfl rfl (H.cell 0 rfl rfl) (qBaB zB38 underlying38 sizeOf5 rfl rfl rfl (FillB.one (v := 0) rfl rfl (FillB.one (v := 1) rfl rfl FillB.nil)) ?_));clear F a;intro a F;refine sBsA H underlying25 sizeOf38 zeroValue38 rfl F rfl rfl rfl rfl rfl ?_;clear F a H; intro b115 a w F H;refine sCall call19 F rfl rfl rfl (pairs8_any qp.A4 _ qp.c4 1 qp.path.rmw [(0, 1)] _ (H.rowsAt 5 rfl pr2 (by omega)) (RowsAt.ofRange8 (sz := 2) (rows := [prC (0, 1)]) (H.whole 0 rfl) (pr2 (l := [(0, 1)]))) (by rw [hl2]; decide) (by decide)) ?_;rintro e w ⟨rfl, hb⟩;replace H := H.grow hb; clear hb;refine ⟨_, rfl, ?_⟩;clear F a; intro a F;refine sPk F rfl rfl rfl rfl (qMv rfl rfl rfl ?_);clear F a;intro a F
    refine F.split 118 rfl ?_ ?_ <;> (clear F; intro h118 F)
    ·
     refine sFa (f := 1) (k := 1) underlying28 rfl sizeOf25 rfl rfl F rfl rfl rfl (qLd isAgg25 rfl rfl rfl (H.cell 1 rfl rfl) (qLen underlying25 rfl rfl rfl (qBin rfl rfl rfl rfl bEql (qMv rfl rfl rfl (qBin rfl rfl rfl rfl (bEqlB (y := 5)) (qBin rfl rfl rfl rfl (bBoolEq underlying4) (qPk rfl rfl rfl rfl (qMv rfl rfl rfl ?_))))))));clear F a;intro a F
     refine F.split 127 rfl ?_ ?_ <;> (clear F; intro h127 F)
     ·
      replace h127 := beqT h127;refine sFa (f := 2) (k := 2) underlying28 rfl sizeOf25 rfl rfl F rfl rfl rfl (qLd isAgg25 rfl rfl rfl (H.cell 1 rfl rfl) (qLen underlying25 rfl rfl rfl (qBin rfl rfl rfl rfl bEql (qMv rfl rfl rfl (qBin rfl rfl rfl rfl (bEqlB (y := 6)) (qBin rfl rfl rfl rfl (bBoolEq underlying4) (qPk rfl rfl rfl rfl (qMv rfl rfl rfl ?_))))))));clear F a;intro a F
      refine F.split 136 rfl ?_ ?_ <;> (clear F; intro h136 F)
      ·
       replace h136 := beqT h136;refine sCall call12 F rfl rfl rfl (awake8_any _ (hN.own H) (hT.own H)) ?_;rintro e w ⟨rfl, hb⟩;replace H := H.grow hb; clear hb;refine ⟨_, rfl, ?_⟩;clear F a; intro a F;refine sPk F rfl rfl rfl rfl (qAs rfl rfl rfl (qNK hK15 ?_));clear hK15;clear F a;intro a F;refine wp_ret ?_;refine bRet results7 F rfl ?_
       exact ⟨rfl, H.below⟩
      replace h136 := beqF h136
      exact (h136 hc6).elim
     replace h127 := beqF h127
     exact (h127 hd5).elim
    exact notEq8 (by rw [hl2]; rfl) h118
   rw [eqEv_iff.2 rfl] at h111; cases h111
  replace h102 := beqF h102
  omega
end Go.Proofs.YtklpiodciblabaaGreatDoor
