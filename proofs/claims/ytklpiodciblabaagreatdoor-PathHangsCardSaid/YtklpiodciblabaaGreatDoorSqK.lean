/-
  WALK2. The laws of chapter 08: Same, reg, val; Follow, its answer as a path in memory. Conditions: the paths lie in memory.
-/
import Derived.Test.YtklpiodciblabaaGreatDoorSq2
set_option linter.unusedSimpArgs false
set_option linter.unusedVariables false
namespace Go.Proofs.YtklpiodciblabaaGreatDoor
open Go.Proofs.Tryz
open Go.RowKit
set_option maxRecDepth 100000
theorem eqEvs_F {l m : List Ev} (h : l ≠ m) : eqEvs l m = false := by
  cases hh : eqEvs l m with
  | false => rfl
  | true => exact absurd (eqEvs_iff.1 hh) h
theorem same_evs {p q : PathP} (h : p.evs ≠ q.evs) : sameP p q = false := by unfold sameP; rw [eqEvs_F h]; rfl
theorem same_regs {p q : PathP} (h : same 8 p.regs q.regs = false) : sameP p q = false := by unfold sameP; rw [h]; simp
theorem same_data {p q : PathP} (h : (p.data == q.data) = false) : sameP p q = false := by unfold sameP; rw [h]; simp
theorem same_ctrl {p q : PathP} (h : (p.ctrl == q.ctrl) = false) : sameP p q = false := by unfold sameP; rw [h]; simp
theorem same_rmw {p q : PathP} (h : (p.rmw == q.rmw) = false) : sameP p q = false := by unfold sameP; rw [h]; simp
theorem same_T {p q : PathP} (h : p.evs = q.evs) (h1 : same 8 p.regs q.regs = true) (h2 : (p.data == q.data) = true) (h3 : (p.ctrl == q.ctrl) = true) (h4 : (p.rmw == q.rmw) = true) : sameP p q = true := by
  unfold sameP; rw [eqEvs_iff.2 h, h1, h2, h3, h4]; rfl
set_option maxHeartbeats 2000000 in
theorem Same_any (p q : PlP) (w0 : World) (hp : PathAt w0 p) (hq : PathAt w0 q) :
    Calls Tryz.prog 13 #[.agg p.cells.toArray, .agg q.cells.toArray] w0 fun e w' => e = .returned (.bool (sameP p.path q.path)) ∧ Below w0.heap.size w0 w' := by
  have H := Own.start w0 none
  have hpn := hp.evsN
  have hqn := hq.evsN
  refine enterF func13 rfl ntmps13 rfl (fun a F => ?_);refine cSR fun K1 hK1=>?_;refine sBx H F rfl rfl rfl ?_;clear F a H; intro b2 a w F H;refine sBx H F rfl rfl rfl ?_;clear F a H; intro b3 a w F H;refine sAs F rfl rfl rfl (qNK hK1 ?_);clear hK1;clear F a;intro a F;refine cSeq (fun K2 hK2 => ?_);refine cSR fun K3 hK3=>sFa (f := 0) (k := 0) underlying28 rfl sizeOf24 rfl rfl F rfl rfl rfl (qLd isAgg24 rfl rfl rfl (H.cell 1 rfl rfl) (qLen underlying24 rfl rfl rfl (qFa (f := 0) (k := 0) underlying28 rfl sizeOf24 rfl rfl rfl rfl rfl (qLd isAgg24 rfl rfl rfl (H.cell 0 rfl rfl) (qLen underlying24 rfl rfl rfl (qBin rfl rfl rfl rfl bNeq (qMv rfl rfl rfl ?_)))))));clear F a;intro a F
  refine F.split 13 rfl ?_ ?_ <;> (clear F; intro h13 F)
  ·
   replace h13 := bneT h13;refine sSk F rfl rfl (qSk rfl rfl (qSk rfl rfl (qSk rfl rfl (qSk rfl rfl (qPk rfl rfl rfl rfl (qMv rfl rfl rfl (qSk rfl rfl (qSk rfl rfl (qSk rfl rfl (qSk rfl rfl (qSk rfl rfl (qSk rfl rfl (qPk rfl rfl rfl rfl (qMv rfl rfl rfl (qSk rfl rfl (qSk rfl rfl (qSk rfl rfl (qSk rfl rfl (qSk rfl rfl (qSk rfl rfl (qPk rfl rfl rfl rfl (qMv rfl rfl rfl (qSk rfl rfl (qSk rfl rfl (qSk rfl rfl (qSk rfl rfl (qSk rfl rfl (qSk rfl rfl (qPk rfl rfl rfl rfl (qNK hK3 ?_))))))))))))))))))))))))))))));clear hK3;clear F a;intro a F;refine cIfT F rfl ?_;refine cSR fun K4 hK4=>sAs F rfl rfl rfl (qNK hK4 ?_);clear hK4;clear F a;intro a F;refine wp_ret ?_;simp only [Exit.then];refine bRet results13 F rfl ?_
   first
   | exact ⟨retB (same_evs (fun e => h13 (by rw [e]))).symm, H.below⟩
   | exact ⟨retB (same_regs h20).symm, H.below⟩
   | exact ⟨retB (same_data h28).symm, H.below⟩
   | exact ⟨retB (same_ctrl h36).symm, H.below⟩
   | exact ⟨retB (same_rmw h43).symm, H.below⟩
   | exact ⟨retB (same_evs (fun e => by rw [e, hy] at hx; cases hx; rw [eqEv_iff.2 rfl] at h60; cases h60)).symm, H.below⟩
   | exact ⟨retB (same_T (list_eq hlen (fun i hi => ht i (by omega))) h20 h28 h36 h43).symm, H.below⟩
  replace h13 := bneF h13
  have hlen : p.path.evs.length = q.path.evs.length := by omega
  refine sFa (f := 4) (k := 4) underlying28 rfl sizeOf26 rfl rfl F rfl rfl rfl (qLrB underlying26 rfl sizeOf26 rfl rfl rfl (show World.rangeAt _ b2 4 (bs 8 p.path.regs) from H.range 1 rfl 4 8) (qFa (f := 4) (k := 4) underlying28 rfl sizeOf26 rfl rfl rfl rfl rfl (qLrB underlying26 rfl sizeOf26 rfl rfl rfl (show World.rangeAt _ b3 4 (bs 8 q.path.regs) from H.range 0 rfl 4 8) (qBin rfl rfl rfl rfl (bNeY eT26 gT26 rfl) (qPk rfl rfl rfl rfl (qMv rfl rfl rfl ?_))))));clear F a;intro a F
  refine F.split 20 rfl ?_ ?_ <;> (clear F; intro h20 F)
  ·
   replace h20 := notT h20;refine sSk F rfl rfl (qSk rfl rfl (qSk rfl rfl (qSk rfl rfl (qSk rfl rfl (qSk rfl rfl (qPk rfl rfl rfl rfl (qMv rfl rfl rfl (qSk rfl rfl (qSk rfl rfl (qSk rfl rfl (qSk rfl rfl (qSk rfl rfl (qSk rfl rfl (qPk rfl rfl rfl rfl (qMv rfl rfl rfl (qSk rfl rfl (qSk rfl rfl (qSk rfl rfl (qSk rfl rfl (qSk rfl rfl (qSk rfl rfl (qPk rfl rfl rfl rfl (qNK hK3 ?_)))))))))))))))))))))));clear hK3;clear F a;intro a F;refine cIfT F rfl ?_;refine cSR fun K5 hK5=>sAs F rfl rfl rfl (qNK hK5 ?_);clear hK5;clear F a;intro a F;refine wp_ret ?_;simp only [Exit.then];refine bRet results13 F rfl ?_
   first
   | exact ⟨retB (same_evs (fun e => h13 (by rw [e]))).symm, H.below⟩
   | exact ⟨retB (same_regs h20).symm, H.below⟩
   | exact ⟨retB (same_data h28).symm, H.below⟩
   | exact ⟨retB (same_ctrl h36).symm, H.below⟩
   | exact ⟨retB (same_rmw h43).symm, H.below⟩
   | exact ⟨retB (same_evs (fun e => by rw [e, hy] at hx; cases hx; rw [eqEv_iff.2 rfl] at h60; cases h60)).symm, H.below⟩
   | exact ⟨retB (same_T (list_eq hlen (fun i hi => ht i (by omega))) h20 h28 h36 h43).symm, H.below⟩
  replace h20 := notF h20;refine sFa (f := 1) (k := 1) underlying28 rfl sizeOf25 rfl rfl F rfl rfl rfl (qLd isAgg25 rfl rfl rfl (H.cell 1 rfl rfl) (qFa (f := 1) (k := 1) underlying28 rfl sizeOf25 rfl rfl rfl rfl rfl (qLd isAgg25 rfl rfl rfl (H.cell 0 rfl rfl) ?_)));clear F a;intro a F;refine sCall call19 F rfl rfl rfl (pairs8_any p.A2 q.A2 p.c2 q.c2 p.path.data q.path.data _ (hp.data.own H) (hq.data.own H) hp.dataN hq.dataN) ?_;rintro e w ⟨rfl, hb⟩;replace H := H.grow hb; clear hb;refine ⟨_, rfl, ?_⟩;clear F a; intro a F;refine sNot F rfl rfl rfl (qPk rfl rfl rfl rfl (qMv rfl rfl rfl ?_));clear F a;intro a F
  refine F.split 28 rfl ?_ ?_ <;> (clear F; intro h28 F)
  ·
   replace h28 := notT h28;refine sSk F rfl rfl (qSk rfl rfl (qSk rfl rfl (qSk rfl rfl (qSk rfl rfl (qSk rfl rfl (qPk rfl rfl rfl rfl (qMv rfl rfl rfl (qSk rfl rfl (qSk rfl rfl (qSk rfl rfl (qSk rfl rfl (qSk rfl rfl (qSk rfl rfl (qPk rfl rfl rfl rfl (qNK hK3 ?_)))))))))))))));clear hK3;clear F a;intro a F;refine cIfT F rfl ?_;refine cSR fun K6 hK6=>sAs F rfl rfl rfl (qNK hK6 ?_);clear hK6;clear F a;intro a F;refine wp_ret ?_;simp only [Exit.then];refine bRet results13 F rfl ?_
   first
   | exact ⟨retB (same_evs (fun e => h13 (by rw [e]))).symm, H.below⟩
   | exact ⟨retB (same_regs h20).symm, H.below⟩
   | exact ⟨retB (same_data h28).symm, H.below⟩
   | exact ⟨retB (same_ctrl h36).symm, H.below⟩
   | exact ⟨retB (same_rmw h43).symm, H.below⟩
   | exact ⟨retB (same_evs (fun e => by rw [e, hy] at hx; cases hx; rw [eqEv_iff.2 rfl] at h60; cases h60)).symm, H.below⟩
   | exact ⟨retB (same_T (list_eq hlen (fun i hi => ht i (by omega))) h20 h28 h36 h43).symm, H.below⟩
  replace h28 := notF h28;refine sFa (f := 2) (k := 2) underlying28 rfl sizeOf25 rfl rfl F rfl rfl rfl (qLd isAgg25 rfl rfl rfl (H.cell 1 rfl rfl) (qFa (f := 2) (k := 2) underlying28 rfl sizeOf25 rfl rfl rfl rfl rfl (qLd isAgg25 rfl rfl rfl (H.cell 0 rfl rfl) ?_)));clear F a;intro a F;refine sCall call19 F rfl rfl rfl (pairs8_any p.A3 q.A3 p.c3 q.c3 p.path.ctrl q.path.ctrl _ (hp.ctrl.own H) (hq.ctrl.own H) hp.ctrlN hq.ctrlN) ?_;rintro e w ⟨rfl, hb⟩;replace H := H.grow hb; clear hb;refine ⟨_, rfl, ?_⟩;clear F a; intro a F;refine sNot F rfl rfl rfl (qPk rfl rfl rfl rfl (qMv rfl rfl rfl ?_));clear F a;intro a F
  refine F.split 36 rfl ?_ ?_ <;> (clear F; intro h36 F)
  ·
   replace h36 := notT h36;refine sSk F rfl rfl (qSk rfl rfl (qSk rfl rfl (qSk rfl rfl (qSk rfl rfl (qSk rfl rfl (qPk rfl rfl rfl rfl (qNK hK3 ?_)))))));clear hK3;clear F a;intro a F;refine cIfT F rfl ?_;refine cSR fun K7 hK7=>sAs F rfl rfl rfl (qNK hK7 ?_);clear hK7;clear F a;intro a F;refine wp_ret ?_;simp only [Exit.then];refine bRet results13 F rfl ?_
   first
   | exact ⟨retB (same_evs (fun e => h13 (by rw [e]))).symm, H.below⟩
   | exact ⟨retB (same_regs h20).symm, H.below⟩
   | exact ⟨retB (same_data h28).symm, H.below⟩
   | exact ⟨retB (same_ctrl h36).symm, H.below⟩
   | exact ⟨retB (same_rmw h43).symm, H.below⟩
   | exact ⟨retB (same_evs (fun e => by rw [e, hy] at hx; cases hx; rw [eqEv_iff.2 rfl] at h60; cases h60)).symm, H.below⟩
   | exact ⟨retB (same_T (list_eq hlen (fun i hi => ht i (by omega))) h20 h28 h36 h43).symm, H.below⟩
  replace h36 := notF h36;refine sFa (f := 3) (k := 3) underlying28 rfl sizeOf25 rfl rfl F rfl rfl rfl (qLd isAgg25 rfl rfl rfl (H.cell 1 rfl rfl) (qFa (f := 3) (k := 3) underlying28 rfl sizeOf25 rfl rfl rfl rfl rfl (qLd isAgg25 rfl rfl rfl (H.cell 0 rfl rfl) ?_)));clear F a;intro a F;refine sCall call19 F rfl rfl rfl (pairs8_any p.A4 q.A4 p.c4 q.c4 p.path.rmw q.path.rmw _ (hp.rmw.own H) (hq.rmw.own H) hp.rmwN hq.rmwN) ?_;rintro e w ⟨rfl, hb⟩;replace H := H.grow hb; clear hb;refine ⟨_, rfl, ?_⟩;clear F a; intro a F;refine sNot F rfl rfl rfl (qPk rfl rfl rfl rfl (qNK hK3 ?_));clear hK3;clear F a;intro a F
  refine cIf F rfl (fun h43 => ?_) (fun h43 => ?_)
  ·
   replace h43 := notT h43;refine cSR fun K8 hK8=>sAs F rfl rfl rfl (qNK hK8 ?_);clear hK8;clear F a;intro a F;refine wp_ret ?_;simp only [Exit.then];refine bRet results13 F rfl ?_
   first
   | exact ⟨retB (same_evs (fun e => h13 (by rw [e]))).symm, H.below⟩
   | exact ⟨retB (same_regs h20).symm, H.below⟩
   | exact ⟨retB (same_data h28).symm, H.below⟩
   | exact ⟨retB (same_ctrl h36).symm, H.below⟩
   | exact ⟨retB (same_rmw h43).symm, H.below⟩
   | exact ⟨retB (same_evs (fun e => by rw [e, hy] at hx; cases hx; rw [eqEv_iff.2 rfl] at h60; cases h60)).symm, H.below⟩
   | exact ⟨retB (same_T (list_eq hlen (fun i hi => ht i (by omega))) h20 h28 h36 h43).symm, H.below⟩
  replace h43 := notF h43;refine wp_skip (hK2 _ _ ?_);clear hK2;refine cSeq (fun K9 hK9 => ?_);refine cSR fun K10 hK10=>sFa (f := 0) (k := 0) underlying28 rfl sizeOf24 rfl rfl F rfl rfl rfl (qLd isAgg24 rfl rfl rfl (H.cell 1 rfl rfl) (qLen underlying24 rfl rfl rfl (qMv rfl rfl rfl (qNK hK10 ?_))));clear hK10;clear F a;intro a F;refine wp_block ?_
  refine cLoopR [2, 3, 46] (fun m ups w => ∃ j : Nat, m = p.path.evs.length - j ∧ ups = [(47, .int .i64 (j : Int))] ∧ j ≤ p.path.evs.length ∧ (∀ i, i < j → p.path.evs[i]? = q.path.evs[i]?) ∧ Own w0 none w [.blk b3 q.cells 28, .blk b2 p.cells 28]) F (p.path.evs.length) [(47, .int .i64 ((0 : Nat) : Int))] (by repeat (first | exact SubR.nil | (apply SubR.cons; · rfl))) ?_ ?_ ?_
  · exact ⟨0, rfl, rfl, by omega, fun i hi => by omega, H⟩
  · repeat (first | exact trivial | refine Le.cons rfl ?_)
  clear F
  clear H
  intro m ups a w hI F
  obtain ⟨j, rfl, rfl, hj, ht, H⟩ := hI
  refine cSR fun K11 hK11=>sBin F rfl rfl rfl rfl bLss (qNK hK11 ?_);clear hK11;clear F a;intro a F;refine cSeq (fun K12 hK12 => ?_)
  refine cIf F rfl (fun h48 => ?_) (fun h48 => ?_)
  ·
   replace h48 := of_decide_eq_true h48
   have hjl : j < p.path.evs.length := by omega
   have hjq : j < q.path.evs.length := by omega
   obtain ⟨x, hx⟩ : ∃ x, p.path.evs[j]? = some x := ⟨_, List.getElem?_eq_getElem hjl⟩
   obtain ⟨y, hy⟩ : ∃ y, q.path.evs[j]? = some y := ⟨_, List.getElem?_eq_getElem hjq⟩
   obtain ⟨bA, oA, hA1, hR1⟩ := hp.evs j x.cells (by rw [List.getElem?_map, hx]; rfl)
   obtain ⟨bB, oB, hB1, hR2⟩ := hq.evs j y.cells (by rw [List.getElem?_map, hy]; rfl)
   have hv1 : ∀ w, Own w0 none w [.blk b3 q.cells 28, .blk b2 p.cells 28] → w.cell? ⟨b2, 0, none⟩ = some (.slice (some ⟨bA, oA, none⟩) p.path.evs.length p.c1) := fun w H => by rw [← hA1]; exact H.cell 1 rfl rfl
   have hv2 : ∀ w, Own w0 none w [.blk b3 q.cells 28, .blk b2 p.cells 28] → w.cell? ⟨b3, 0, none⟩ = some (.slice (some ⟨bB, oB, none⟩) q.path.evs.length q.c1) := fun w H => by rw [← hB1]; exact H.cell 0 rfl rfl
   refine wp_skip (hK12 _ _ ?_);clear hK12;refine cSeq (fun K13 hK13 => ?_);refine wp_block ?_;refine cSR fun K14 hK14=>sMv F rfl rfl rfl (qAs rfl rfl rfl (qNK hK14 ?_));clear hK14;clear F a;intro a F;refine cSeq (fun K15 hK15 => ?_);refine cRegRO (by kernel_rfl) H ?_;replace H := H.drew;refine eTF 0 rfl (by kernel_rfl) F rfl rfl rfl (fun w=>rFa (f := 0) (k := 0) underlying28 rfl sizeOf24 rfl rfl F rfl) H qq0 (qT 1 rfl (by kernel_rfl) rfl rfl rfl rfl (fun a F w H=>rLd isAgg24 F rfl (hv1 _ H)) H qq0 (qTF 2 rfl (by kernel_rfl) rfl rfl rfl (fun a F w=>rMv F rfl) H qq0 ?_));clear F a;intro a F
   refine eTakeF (k := 3) (i := 3) rfl (by kernel_rfl) F rfl rfl rfl (fun w => rIx underlying24 sizeOf34 F rfl rfl ?_) H (fun _ _ _ h => h) ?_
   focus exact hjl
   clear F a; intro a F
   refine eTake (k := 4) (i := 4) rfl (by kernel_rfl) F rfl rfl rfl rfl (fun w H => rLr underlying34 rfl ?si F rfl (H.argR hR1)) H (fun _ _ _ h => h) ?_
   case si => exact info_size sizeOf34
   clear F a; intro a F;refine eTF 5 rfl (by kernel_rfl) F rfl rfl rfl (fun w=>rFa (f := 0) (k := 0) underlying28 rfl sizeOf24 rfl rfl F rfl) H qq0 (qT 6 rfl (by kernel_rfl) rfl rfl rfl rfl (fun a F w H=>rLd isAgg24 F rfl (hv2 _ H)) H qq0 (qTF 7 rfl (by kernel_rfl) rfl rfl rfl (fun a F w=>rMv F rfl) H qq0 ?_));clear F a;intro a F
   refine eTakeF (k := 8) (i := 8) rfl (by kernel_rfl) F rfl rfl rfl (fun w => rIx underlying24 sizeOf34 F rfl rfl ?_) H (fun _ _ _ h => h) ?_
   focus exact hjq
   clear F a; intro a F
   refine eTake (k := 9) (i := 9) rfl (by kernel_rfl) F rfl rfl rfl rfl (fun w H => rLr underlying34 rfl ?si F rfl (H.argR hR2)) H (fun _ _ _ h => h) ?_
   case si => exact info_size sizeOf34
   clear F a; intro a F;refine eTF 10 rfl (by kernel_rfl) F rfl rfl rfl (fun w=>rBin F rfl rfl bNeEv) H qq0 ?_;clear F a;intro a F;refine eNil (k := 11) (by kernel_rfl) ?_;refine hK15 _ _ ?_;clear hK15
   refine cIf F rfl (fun h60 => ?_) (fun h60 => ?_)
   ·
    refine cSR fun K16 hK16=>sAs F rfl rfl rfl (qNK hK16 ?_);clear hK16;clear F a;intro a F;refine wp_ret ?_;simp only [Exit.inBlock, Exit.then];refine bRet results13 F rfl ?_
    first
    | exact ⟨retB (same_evs (fun e => h13 (by rw [e]))).symm, H.below⟩
    | exact ⟨retB (same_regs h20).symm, H.below⟩
    | exact ⟨retB (same_data h28).symm, H.below⟩
    | exact ⟨retB (same_ctrl h36).symm, H.below⟩
    | exact ⟨retB (same_rmw h43).symm, H.below⟩
    | exact ⟨retB (same_evs (fun e => by rw [e, hy] at hx; cases hx; rw [eqEv_iff.2 rfl] at h60; cases h60)).symm, H.below⟩
    | exact ⟨retB (same_T (list_eq hlen (fun i hi => ht i (by omega))) h20 h28 h36 h43).symm, H.below⟩
   refine wp_skip (hK13 _ _ (cReg ?_));clear hK13
   refine sBin F rfl rfl rfl rfl (bAddN (j := 1) ?_) ?_
   focus omega
   clear F a; intro a F;refine sMv F rfl rfl rfl ?_;clear F a;intro a F;refine sNil ?_
   have he : x = y := eqEv_iff.1 (by simpa using h60)
   exact ⟨_, by omega, _, ⟨j + 1, rfl, rfl, by omega, fun i hi => (by
     rcases Nat.lt_or_ge i j with h | h
     · exact ht i h
     · obtain rfl : i = j := by omega
       rw [hx, hy, he]), H⟩, F.to (by repeat (first | exact trivial | refine Le.cons rfl ?_))⟩
  replace h48 := of_decide_eq_false h48;refine wp_exit ?_;refine hK9 _ _ (cSR fun K17 hK17=>sAs F rfl rfl rfl (qNK hK17 ?_));clear hK9 hK17;clear F a;intro a F;refine wp_ret ?_;refine bRet results13 F rfl ?_
  first
  | exact ⟨retB (same_evs (fun e => h13 (by rw [e]))).symm, H.below⟩
  | exact ⟨retB (same_regs h20).symm, H.below⟩
  | exact ⟨retB (same_data h28).symm, H.below⟩
  | exact ⟨retB (same_ctrl h36).symm, H.below⟩
  | exact ⟨retB (same_rmw h43).symm, H.below⟩
  | exact ⟨retB (same_evs (fun e => by rw [e, hy] at hx; cases hx; rw [eqEv_iff.2 rfl] at h60; cases h60)).symm, H.below⟩
  | exact ⟨retB (same_T (list_eq hlen (fun i hi => ht i (by omega))) h20 h28 h36 h43).symm, H.below⟩
theorem reg_any (n : UInt8) (w0 : World) : Calls Tryz.prog 18 #[b8 n] w0 fun e w' => e = .returned (.agg #[.bool true, b8 n]) ∧ Below w0.heap.size w0 w' := by
  have H := Own.start w0 none
  refine enterF func18 rfl ntmps18 rfl (fun a F => ?_);refine cSR fun K1 hK1=>?_;refine sAl H zeroValue57 F rfl rfl ?_;clear F a H; intro b2 a w F H;refine nK hK1 (cSR fun K2 hK2=>sMv F rfl rfl rfl (qBd (places := [(0, 1), (1, 1)]) zeroValue57 underlying57 (by kernel_rfl) rfl rfl rfl rfl ?_));clear hK1;clear F a;intro a F
  refine sSr H 0 ?si F rfl rfl rfl ?s1 rfl rfl ?_
  case si => exact info_size sizeOf57
  case s1 => first | rfl | (repeat (first | exact one_nil | (apply one_cons; · first | rfl | assumption | exact one_bif rfl rfl)))
  clear H; intro w H;refine nK hK2 ?_;clear hK2;refine wp_ret ?_;refine bRetC results18 F rfl underlying57 rfl H 0 rfl sizeOf57 rfl ?_
  exact ⟨rfl, H.below⟩
theorem val_any (n : UInt8) (w0 : World) : Calls Tryz.prog 20 #[b8 n] w0 fun e w' => e = .returned (.agg #[.bool false, b8 n]) ∧ Below w0.heap.size w0 w' := by
  have H := Own.start w0 none
  refine enterF func20 rfl ntmps20 rfl (fun a F => ?_);refine cSR fun K1 hK1=>?_;refine sAl H zeroValue57 F rfl rfl ?_;clear F a H; intro b2 a w F H;refine nK hK1 (cSR fun K2 hK2=>sMv F rfl rfl rfl (qBd (places := [(0, 1), (1, 1)]) zeroValue57 underlying57 (by kernel_rfl) rfl rfl rfl rfl ?_));clear hK1;clear F a;intro a F
  refine sSr H 0 ?si F rfl rfl rfl ?s1 rfl rfl ?_
  case si => exact info_size sizeOf57
  case s1 => first | rfl | (repeat (first | exact one_nil | (apply one_cons; · first | rfl | assumption | exact one_bif rfl rfl)))
  clear H; intro w H;refine nK hK2 ?_;clear hK2;refine wp_ret ?_;refine bRetC results20 F rfl underlying57 rfl H 0 rfl sizeOf57 rfl ?_
  exact ⟨rfl, H.below⟩
theorem res_at {w0 w : World} {row : Option Nat} {q : PlP} (H : Own w0 row w q.res) (h1 : q.path.evs.length ≤ 1000000) (h2 : q.path.data.length ≤ 1000000000000) (h3 : q.path.ctrl.length ≤ 1000000000000) (h4 : q.path.rmw.length ≤ 1000000000000) : PathAt w q :=
  ⟨H.rowsAt 0 rfl (fun r hr => by obtain ⟨x, _, rfl⟩ := List.mem_map.1 hr; rfl) (by omega), H.rowsAt 1 rfl (fun r hr => by obtain ⟨x, _, rfl⟩ := List.mem_map.1 hr; rfl) (by omega),
    H.rowsAt 2 rfl (fun r hr => by obtain ⟨x, _, rfl⟩ := List.mem_map.1 hr; rfl) (by omega), H.rowsAt 3 rfl (fun r hr => by obtain ⟨x, _, rfl⟩ := List.mem_map.1 hr; rfl) (by omega), h1, h2, h3, h4⟩
theorem Follow_pl (A : Option Addr) (C n : Nat) (l : List Ins) (RA : Option Addr) (RC k : Nat) (reads : List UInt8) (w0 : World) (hA : RowsAt w0 A 10 (l.map Ins.cells)) (hl : n = l.length) (hn : l.length ≤ 9223372036854775807) (hR : RowsAt w0 RA 1 (reads.map fun x => [b8 x])) (hk : k = reads.length) (hrn : reads.length ≤ 9223372036854775806) (hN : NeedsAt w0) (hT : TabAt w0) :
    Calls Tryz.prog 11 #[.slice A n C, .slice RA k RC] w0 fun e w' => ∃ q : PlP, q.path = (followR l reads).path ∧ e = .returned (.tuple #[.agg q.cells.toArray, .bool (followR l reads).more, .int .i64 ((followR l reads).err : Int)]) ∧ Own w0 none w' q.res := by
  subst hl hk
  refine (Follow_any A C l RA RC reads w0 hA hn hR hrn hN hT).mono ?_;rintro e w' ⟨A1, c1, A2, c2, A3, c3, A4, c4, rfl, H⟩
  exact ⟨⟨(followR l reads).path, A1, c1, A2, c2, A3, c3, A4, c4⟩, rfl, rfl, H⟩
end Go.Proofs.YtklpiodciblabaaGreatDoor
