/-
  WALK2. The law of chapter 07: CheckFolds answers true, of every program. Conditions: the program lies in memory; block 0 holds the table of needs.
-/
import Derived.Test.YtmfdpnjgljlkbaaDoorLfD
set_option linter.unusedSimpArgs false
set_option linter.unusedVariables false
namespace Go.Proofs.YtmfdpnjgljlkbaaDoor
open Go.RowKit
set_option maxRecDepth 100000

theorem foldPr_twice {p : Prg} (hf : FoldPre p) : foldPr (foldPr p) = foldPr p := by
  unfold foldPr
  simp only [List.map_map, Prg.mk.injEq, true_and, and_true]
  exact List.map_congr_left fun t ht => fold_fold (hf.2.2 t ht).2
set_option maxHeartbeats 16000000 in
theorem checkFolds_ok (cs : List Value) (p : Prg) (LA : Option Addr) (LC : Nat) (IA : Option Addr) (IC : Nat) (TA : Option Addr) (TC h : Nat) (ccs : List Value) (w0 : World) (hp : ProgCapIn w0 cs p LA LC IA IC TA TC h ccs) (hN : NeedsAt w0) (h0 : rightErr p = 0) :
    Calls Tryd.prog 4 #[.agg cs.toArray] w0 fun e w' => e = .returned (.bool true) ∧ Below w0.heap.size w0 w' := by
  have hP : ProgAt w0 cs p := ⟨_, _, _, _, _, _, _, _, hp.prog⟩
  have V := valid h0
  have hf := foldPre_of h0
  have hsm : Small p := ⟨by have := V.locs6; omega, by have := V.locs6; have := V.init; omega, by have := V.thr4; omega, fun t ht => by have := (hf.2.2 t ht).1; omega⟩
  have hV1 := V.thr1
  have hV4 := V.thr4
  have hq0 := right_fold h0
  have hfq := foldPre_of hq0
  obtain ⟨l0, hl0⟩ : ∃ l, p.threads[0]? = some l := ⟨_, List.getElem?_eq_getElem (by omega)⟩
  obtain ⟨bT, oT, _, _, rfl, _⟩ := hp.threads 0 l0 hl0
  obtain ⟨a1, a2, a3, a4, a5, a6, a7, rfl⟩ := condShape hp.cond.at
  have hcs := hp.prog.cs
  simp only [List.cons_append, List.nil_append] at hcs
  subst hcs
  have H := Own.start w0 none
  refine enterF Tryd.func4 rfl Tryd.ntmps4 rfl (fun a F => ?_)
  refine cSeq (fun K1 hK1 => ?_)
  refine cReg ?_
  refine sBx H F rfl rfl rfl ?_
  clear F a H; intro b1 a w F H
  refine sAs F rfl rfl rfl ?_;clear F a;intro a F
  refine sNil ?_
  refine hK1 _ _ ?_; clear hK1
  refine cSeq (fun K2 hK2 => ?_)
  refine cSeq (fun K3 hK3 => ?_)
  refine cReg ?_
  refine sCall Tryd.call8 F rfl rfl rfl (awake7_any _ (hN.own H)) ?_
  rintro e w ⟨rfl, hb⟩
  replace H := H.grow hb; clear hb
  refine ⟨_, rfl, ?_⟩
  clear F a; intro a F
  refine sNot F rfl rfl rfl ?_;clear F a;intro a F
  refine sNil ?_
  refine hK3 _ _ ?_; clear hK3
  refine cIf F rfl (fun h12 => ?_) (fun h12 => ?_)
  ·
   replace h12 := notT h12
   exact absurd h12 (by decide)
  replace h12 := notF h12
  refine wp_skip ?_
  refine hK2 _ _ ?_; clear hK2
  refine cSeq (fun K4 hK4 => ?_)
  refine cSeq (fun K5 hK5 => ?_)
  refine cReg ?_
  refine sLr Tryd.underlying37 rfl ?si F rfl rfl rfl (H.whole 0 rfl) ?_
  case si => exact info_size Tryd.sizeOf37
  clear F a; intro a F
  refine sCall Tryd.call15 F rfl rfl rfl (great_any _ p LA LC IA IC (some ⟨bT, oT, none⟩) TC h _ _ (hp.own H)) ?_
  rintro e w ⟨g14, rfl, hg14, hb⟩
  replace H := H.grow hb; clear hb
  refine ⟨_, rfl, ?_⟩
  clear F a; intro a F
  refine sNil ?_
  refine hK5 _ _ ?_; clear hK5
  refine cIf F rfl (fun h14 => ?_) (fun h14 => ?_)
  ·
   refine cSeq (fun K6 hK6 => ?_)
   refine cReg ?_
   refine sAs F rfl rfl rfl ?_;clear F a;intro a F
   refine sNil ?_
   refine hK6 _ _ ?_; clear hK6
   refine wp_ret ?_
   simp only [Exit.then]
   refine bRet Tryd.results4 F rfl ?_
   exact ⟨rfl, H.below⟩
  have hsz := hg14 h14 hsm
  have hsl := slim_of hp.cond.at hsz (by omega)
  refine wp_skip ?_
  refine hK4 _ _ ?_; clear hK4
  refine cSeq (fun K7 hK7 => ?_)
  refine cReg ?_
  refine sLr Tryd.underlying37 rfl ?si F rfl rfl rfl (H.whole 0 rfl) ?_
  case si => exact info_size Tryd.sizeOf37
  clear F a; intro a F
  refine sCall Tryd.call16 F rfl rfl rfl (Fold_any _ p LA LC IA IC (some ⟨bT, oT, none⟩) TC h _ _ (hp.prog.own H) (hN.own H) (fun _ => hsl) (fun _ => by have := V.locs6; omega) (fun _ => hf)) ?_
  rintro e w h17
  rcases h17 with ⟨h17, _⟩ | ⟨_, v17, rfl, h17⟩
  case inl => exact absurd h0 h17
  obtain ⟨LA2, LC2, S1, IA2, IC2, S2, TA2, TC2, rows, S3, ccs2, S4, rfl, hLC2, hrl, hr1, H2⟩ := h17
  obtain ⟨d1, d2, d3, d4, A6, m6, C6, rfl⟩ := condShape (H2.pred 0 _ rfl : TreeIn S4 _ h ccs2 p.cond).at
  obtain ⟨r00, hr00⟩ : ∃ r, rows[0]? = some r := ⟨_, List.getElem?_eq_getElem (by omega)⟩
  obtain ⟨bQ, oQ, rfl, _⟩ := H2.rowsAt 1 rfl hr1 (by decide) 0 _ hr00
  replace H := H.join H2; clear H2
  refine ⟨_, rfl, ?_⟩
  clear F a; intro a F
  refine sMv F rfl rfl rfl ?_;clear F a;intro a F
  refine sExt F rfl rfl rfl rfl ?_;clear F a;intro a F
  refine sExt F rfl rfl rfl rfl ?_;clear F a;intro a F
  refine sAl H Tryd.zeroValue37 F rfl rfl ?_
  clear F a H; intro b3 a w F H
  refine sSr H 0 ?si F rfl rfl rfl ?s1 rfl rfl ?_
  case si => exact info_size Tryd.sizeOf37
  case s1 => first | rfl | (repeat (first | exact one_nil | (apply one_cons; · first | rfl | assumption | exact one_bif rfl rfl)))
  clear H; intro w H
  refine sAs F rfl rfl rfl ?_;clear F a;intro a F
  refine sNil ?_
  refine hK7 _ _ ?_; clear hK7
  refine cSeq (fun K8 hK8 => ?_)
  refine cSeq (fun K9 hK9 => ?_)
  refine cReg ?_
  refine sMv F rfl rfl rfl ?_;clear F a;intro a F
  refine sBin F rfl rfl rfl rfl bNeq ?_;clear F a;intro a F
  refine sNil ?_
  refine hK9 _ _ ?_; clear hK9
  refine cIf F rfl (fun h21 => ?_) (fun h21 => ?_)
  ·
   replace h21 := bneT h21
   exact absurd rfl h21
  replace h21 := bneF h21
  refine wp_skip ?_
  refine hK8 _ _ ?_; clear hK8
  refine cSeq (fun K10 hK10 => ?_)
  refine cReg ?_
  refine sLr Tryd.underlying37 rfl ?si F rfl rfl rfl (H.whole 0 rfl) ?_
  case si => exact info_size Tryd.sizeOf37
  clear F a; intro a F
  refine sCall Tryd.call16 F rfl rfl rfl (Fold_any _ (foldPr p) LA2 LC2 IA2 IC2 (some ⟨bQ, oQ, none⟩) TC2 h _ _ (prog_out (H.sel [1, 2, 3, 4, 5] rfl rfl) hrl hr1 hLC2 hp.prog.name hp.prog.locsN hp.prog.locsS hp.prog.initN hf) (hN.own H) (fun _ => hsl) (fun _ => by have := V.locs6; show p.locs.length ≤ _; omega) (fun _ => hfq)) ?_
  rintro e w h33
  rcases h33 with ⟨h33, _⟩ | ⟨_, v33, rfl, h33⟩
  case inl => exact absurd hq0 h33
  obtain ⟨LA3, LC3, S13, IA3, IC3, S23, TA3, TC3, rows3, S33, ccs3, S43, rfl, hLC3, hrl3, hr13, H3⟩ := h33
  obtain ⟨e1, e2, e3, e4, A63, m63, C63, rfl⟩ := condShape (H3.pred 0 _ rfl : TreeIn S43 _ h ccs3 p.cond).at
  replace H := H.join H3; clear H3
  refine ⟨_, rfl, ?_⟩
  clear F a; intro a F
  refine sMv F rfl rfl rfl ?_;clear F a;intro a F
  refine sExt F rfl rfl rfl rfl ?_;clear F a;intro a F
  refine sExt F rfl rfl rfl rfl ?_;clear F a;intro a F
  refine sAl H Tryd.zeroValue37 F rfl rfl ?_
  clear F a H; intro b5 a w F H
  refine sSr H 0 ?si F rfl rfl rfl ?s1 rfl rfl ?_
  case si => exact info_size Tryd.sizeOf37
  case s1 => first | rfl | (repeat (first | exact one_nil | (apply one_cons; · first | rfl | assumption | exact one_bif rfl rfl)))
  clear H; intro w H
  refine sAs F rfl rfl rfl ?_;clear F a;intro a F
  refine sNil ?_
  refine hK10 _ _ ?_; clear hK10
  refine cSeq (fun K11 hK11 => ?_)
  refine cSeq (fun K12 hK12 => ?_)
  refine cReg ?_
  refine sMv F rfl rfl rfl ?_;clear F a;intro a F
  refine sBin F rfl rfl rfl rfl bNeq ?_;clear F a;intro a F
  refine sMv F rfl rfl rfl ?_;clear F a;intro a F
  refine F.split 38 rfl ?_ ?_ <;> (clear F; intro h38 F)
  ·
   replace h38 := bneT h38
   (first | exact absurd rfl h38 | exact absurd h38 (by decide))
  replace h38 := bneF h38
  refine sLr Tryd.underlying37 rfl ?si F rfl rfl rfl (H.whole 6 rfl) ?_
  case si => exact info_size Tryd.sizeOf37
  clear F a; intro a F
  refine sLr Tryd.underlying37 rfl ?si F rfl rfl rfl (H.whole 0 rfl) ?_
  case si => exact info_size Tryd.sizeOf37
  clear F a; intro a F
  refine sCall Tryd.call18 F rfl rfl rfl (sameProg_any _ _ (foldPr p) LA2 LC2 IA2 IC2 (some ⟨bQ, oQ, none⟩) TC2 h _ LA3 LC3 IA3 IC3 TA3 TC3 h _ _ (prog_out (H.sel [7, 8, 9, 10, 11] rfl rfl) hrl hr1 hLC2 hp.prog.name hp.prog.locsN hp.prog.locsS hp.prog.initN hf) (by have := prog_out (p := foldPr p) (IC := IC3) (H.sel [1, 2, 3, 4, 5] rfl rfl) hrl3 hr13 hLC3 hp.prog.name hp.prog.locsN hp.prog.locsS hp.prog.initN hfq; rw [foldPr_twice hf] at this; exact this)) ?_
  rintro e w ⟨rfl, hb⟩
  replace H := H.grow hb; clear hb
  refine ⟨_, rfl, ?_⟩
  clear F a; intro a F
  refine sNot F rfl rfl rfl ?_;clear F a;intro a F
  refine sPk F rfl rfl rfl rfl ?_;clear F a;intro a F
  refine sMv F rfl rfl rfl ?_;clear F a;intro a F
  refine F.split 44 rfl ?_ ?_ <;> (clear F; intro h44 F)
  ·
   replace h44 := notT h44
   (first | exact absurd rfl h44 | exact absurd h44 (by decide) | (simp at h44; done))
  replace h44 := notF h44
  refine sLr Tryd.underlying37 rfl ?si F rfl rfl rfl (H.whole 6 rfl) ?_
  case si => exact info_size Tryd.sizeOf37
  clear F a; intro a F
  refine sCall Tryd.call17 F rfl rfl rfl (right_any' _ (foldPr p) _ ⟨_, _, _, _, _, _, _, _, prog_out (H.sel [7, 8, 9, 10, 11] rfl rfl) hrl hr1 hLC2 hp.prog.name hp.prog.locsN hp.prog.locsS hp.prog.initN hf⟩ (hN.own H)) ?_
  rintro e w ⟨rfl, hb⟩
  replace H := H.grow hb; clear hb
  refine ⟨_, rfl, ?_⟩
  clear F a; intro a F
  refine sBin F rfl rfl rfl rfl bNeq ?_;clear F a;intro a F
  refine sPk F rfl rfl rfl rfl ?_;clear F a;intro a F
  refine sMv F rfl rfl rfl ?_;clear F a;intro a F
  refine F.split 49 rfl ?_ ?_ <;> (clear F; intro h49 F)
  ·
   replace h49 := bneT h49
   (first | exact absurd hq0 h49 | exact absurd rfl h49 | exact absurd h49 (by decide) | (simp at h49; done))
  replace h49 := bneF h49
  refine sFa (f := 3) (k := 3) Tryd.underlying37 rfl Tryd.sizeOf35 rfl rfl F rfl rfl rfl ?_;clear F a;intro a F
  refine sLd Tryd.isAgg35 F rfl rfl rfl (H.cell 6 rfl rfl) ?_;clear F a;intro a F
  refine sLen Tryd.underlying35 F rfl rfl rfl ?_;clear F a;intro a F
  refine sFa (f := 3) (k := 3) Tryd.underlying37 rfl Tryd.sizeOf35 rfl rfl F rfl rfl rfl ?_;clear F a;intro a F
  refine sLd Tryd.isAgg35 F rfl rfl rfl (H.cell 12 rfl rfl) ?_;clear F a;intro a F
  refine sLen Tryd.underlying35 F rfl rfl rfl ?_;clear F a;intro a F
  refine sBin F rfl rfl rfl rfl bNeq ?_;clear F a;intro a F
  refine sPk F rfl rfl rfl rfl ?_;clear F a;intro a F
  refine sMv F rfl rfl rfl ?_;clear F a;intro a F
  refine F.split 58 rfl ?_ ?_ <;> (clear F; intro h58 F)
  ·
   replace h58 := bneT h58
   (first | exact absurd rfl h58 | exact absurd h58 (by decide) | (simp at h58; done))
  replace h58 := bneF h58
  refine sFa (f := 0) (k := 0) Tryd.underlying37 rfl Tryd.sizeOf9 rfl rfl F rfl rfl rfl ?_;clear F a;intro a F
  refine sLd Tryd.isAgg9 F rfl rfl rfl (H.cell 6 rfl rfl) ?_;clear F a;intro a F
  refine sFa (f := 0) (k := 0) Tryd.underlying37 rfl Tryd.sizeOf9 rfl rfl F rfl rfl rfl ?_;clear F a;intro a F
  refine sLd Tryd.isAgg9 F rfl rfl rfl (H.cell 12 rfl rfl) ?_;clear F a;intro a F
  refine sBin F rfl rfl rfl rfl bStrNe ?_;clear F a;intro a F
  refine sPk F rfl rfl rfl rfl ?_;clear F a;intro a F
  refine sMv F rfl rfl rfl ?_;clear F a;intro a F
  refine F.split 65 rfl ?_ ?_ <;> (clear F; intro h65 F)
  ·
   replace h65 := nbeqT h65
   (first | exact absurd rfl h65 | exact absurd h65 (by decide) | (simp at h65; done))
  replace h65 := nbeqF h65
  refine sFa (f := 1) (k := 1) Tryd.underlying37 rfl Tryd.sizeOf33 rfl rfl F rfl rfl rfl ?_;clear F a;intro a F
  refine sLd Tryd.isAgg33 F rfl rfl rfl (H.cell 6 rfl rfl) ?_;clear F a;intro a F
  refine sFa (f := 1) (k := 1) Tryd.underlying37 rfl Tryd.sizeOf33 rfl rfl F rfl rfl rfl ?_;clear F a;intro a F
  refine sLd Tryd.isAgg33 F rfl rfl rfl (H.cell 12 rfl rfl) ?_;clear F a;intro a F
  refine sCall Tryd.call19 F rfl rfl rfl (sameTexts_any LA2 LA LC2 LC p.locs _ (H.held 11 rfl) (hp.prog.locs.own H) hp.prog.locsN) ?_
  rintro e w ⟨rfl, hb⟩
  replace H := H.grow hb; clear hb
  refine ⟨_, rfl, ?_⟩
  clear F a; intro a F
  refine sNot F rfl rfl rfl ?_;clear F a;intro a F
  refine sPk F rfl rfl rfl rfl ?_;clear F a;intro a F
  refine sMv F rfl rfl rfl ?_;clear F a;intro a F
  refine F.split 73 rfl ?_ ?_ <;> (clear F; intro h73 F)
  ·
   replace h73 := notT h73
   (first | exact absurd rfl h73 | exact absurd h73 (by decide) | (simp at h73; done))
  replace h73 := notF h73
  refine sFa (f := 2) (k := 2) Tryd.underlying37 rfl Tryd.sizeOf34 rfl rfl F rfl rfl rfl ?_;clear F a;intro a F
  refine sLd Tryd.isAgg34 F rfl rfl rfl (H.cell 6 rfl rfl) ?_;clear F a;intro a F
  refine sFa (f := 2) (k := 2) Tryd.underlying37 rfl Tryd.sizeOf34 rfl rfl F rfl rfl rfl ?_;clear F a;intro a F
  refine sLd Tryd.isAgg34 F rfl rfl rfl (H.cell 12 rfl rfl) ?_;clear F a;intro a F
  refine sCall Tryd.call20 F rfl rfl rfl (sameBytes_any IA2 IA IC2 IC p.init _ (H.held 10 rfl) (hp.prog.init.own H) hp.prog.initN) ?_
  rintro e w ⟨rfl, hb⟩
  replace H := H.grow hb; clear hb
  refine ⟨_, rfl, ?_⟩
  clear F a; intro a F
  refine sNot F rfl rfl rfl ?_;clear F a;intro a F
  refine sPk F rfl rfl rfl rfl ?_;clear F a;intro a F
  refine sMv F rfl rfl rfl ?_;clear F a;intro a F
  refine F.split 81 rfl ?_ ?_ <;> (clear F; intro h81 F)
  ·
   replace h81 := notT h81
   (first | exact absurd rfl h81 | exact absurd h81 (by decide) | (simp at h81; done))
  replace h81 := notF h81
  refine sFa (f := 5) (k := 5) Tryd.underlying37 rfl Tryd.sizeOf25 rfl rfl F rfl rfl rfl ?_;clear F a;intro a F
  refine sLr Tryd.underlying25 rfl ?si F rfl rfl rfl (H.range 6 rfl _ 5) ?_
  case si => exact info_size Tryd.sizeOf25
  clear F a; intro a F
  refine sFa (f := 5) (k := 5) Tryd.underlying37 rfl Tryd.sizeOf25 rfl rfl F rfl rfl rfl ?_;clear F a;intro a F
  refine sLr Tryd.underlying25 rfl ?si F rfl rfl rfl (H.range 12 rfl _ 5) ?_
  case si => exact info_size Tryd.sizeOf25
  clear F a; intro a F
  refine sCall Tryd.call21 F rfl rfl rfl (sameCond_any h h _ _ p.cond _ (H.pred 7 _ rfl : TreeIn S4 _ h _ p.cond).at (CondAt.grown H.grown rfl _ _ _ hp.cond.at)) ?_
  rintro e w ⟨rfl, hb⟩
  replace H := H.grow hb; clear hb
  refine ⟨_, rfl, ?_⟩
  clear F a; intro a F
  refine sNot F rfl rfl rfl ?_;clear F a;intro a F
  refine sPk F rfl rfl rfl rfl ?_;clear F a;intro a F
  refine sNil ?_
  refine hK12 _ _ ?_; clear hK12
  refine cIf F rfl (fun h88 => ?_) (fun h88 => ?_)
  ·
   replace h88 := notT h88
   (first | exact absurd rfl h88 | exact absurd h88 (by decide) | (simp at h88; done))
  replace h88 := notF h88
  refine wp_skip ?_
  refine hK11 _ _ ?_; clear hK11
  refine cSeq (fun K13 hK13 => ?_)
  refine cSeq (fun K14 hK14 => ?_)
  refine cReg ?_
  refine sAs F rfl rfl rfl ?_;clear F a;intro a F
  refine sNil ?_
  refine hK14 _ _ ?_; clear hK14
  refine wp_block ?_
  refine cLoopR [1, 3] (fun m ups w => ∃ t : Nat, m = p.threads.length - t ∧ ups = [(7, .int .i64 ((t : Nat) : Int))] ∧ t ≤ p.threads.length ∧ Own w0 none w [.rws 22 1 (.slice (some ⟨bQ, oQ, none⟩) p.threads.length TC2) rows, .grove S3 rows (p.threads.map foldP), .blk b3 ([.string p.name, .slice LA2 p.locs.length LC2, .slice IA2 p.init.length IC2, .slice (some ⟨bQ, oQ, none⟩) p.threads.length TC2, Go.Proofs.YtmfdpnjgljlkbaaDoor.b8 p.ask] ++ [Go.Proofs.YtmfdpnjgljlkbaaDoor.b8 d1, Go.Proofs.YtmfdpnjgljlkbaaDoor.b8 d2, Go.Proofs.YtmfdpnjgljlkbaaDoor.b8 d3, Go.Proofs.YtmfdpnjgljlkbaaDoor.b8 d4, .slice A6 m6 C6]) 37, .blk b1 ([.string p.name, .slice LA p.locs.length LC, .slice IA p.init.length IC, .slice (some ⟨bT, oT, none⟩) p.threads.length TC, Go.Proofs.YtmfdpnjgljlkbaaDoor.b8 p.ask] ++ [Go.Proofs.YtmfdpnjgljlkbaaDoor.b8 a1, Go.Proofs.YtmfdpnjgljlkbaaDoor.b8 a2, Go.Proofs.YtmfdpnjgljlkbaaDoor.b8 a3, Go.Proofs.YtmfdpnjgljlkbaaDoor.b8 a4, .slice a5 a6 a7]) 37]) F (p.threads.length) [(7, .int .i64 ((0 : Nat) : Int))] (by repeat (first | exact SubR.nil | (apply SubR.cons; · rfl))) ?_ ?_ ?_
  · exact ⟨0, rfl, rfl, by omega, H.sel [8, 9, 6, 12] rfl rfl⟩
  · repeat (first | exact trivial | refine Le.cons rfl ?_)
  clear F
  clear H
  intro m ups a w hI F
  obtain ⟨t, rfl, rfl, ht, H⟩ := hI
  refine cSeq (fun K15 hK15 => ?_)
  refine cSeq (fun K16 hK16 => ?_)
  refine cReg ?_
  refine sMv F rfl rfl rfl ?_;clear F a;intro a F
  refine sFa (f := 3) (k := 3) Tryd.underlying37 rfl Tryd.sizeOf35 rfl rfl F rfl rfl rfl ?_;clear F a;intro a F
  refine sLd Tryd.isAgg35 F rfl rfl rfl (H.cell 3 rfl rfl) ?_;clear F a;intro a F
  refine sLen Tryd.underlying35 F rfl rfl rfl ?_;clear F a;intro a F
  refine sBin F rfl rfl rfl rfl bLss ?_;clear F a;intro a F
  refine sNil ?_
  refine hK16 _ _ ?_; clear hK16
  refine cIf F rfl (fun h93 => ?_) (fun h93 => ?_)
  ·
   replace h93 := of_decide_eq_true h93
   obtain ⟨l, hl⟩ : ∃ l, p.threads[t]? = some l := ⟨_, List.getElem?_eq_getElem (by omega)⟩
   obtain ⟨_, _, XT, XC, he, hTx, hTr, htl, htc⟩ := hp.threads t l hl
   cases he
   obtain ⟨r, hr⟩ : ∃ r, rows[t]? = some r := ⟨_, List.getElem?_eq_getElem (by omega)⟩
   have hlq : (p.threads.map foldP)[t]? = some (foldP l) := by rw [List.getElem?_map, hl]; rfl
   obtain ⟨B, C, rfl, _⟩ := (H.pred 1 _ rfl : groveP S3 _ rows (p.threads.map foldP)) t r _ hr hlq
   have hrow : ∀ w, Own w0 none w [.rws 22 1 (.slice (some ⟨bQ, oQ, none⟩) p.threads.length TC2) rows, .grove S3 rows (p.threads.map foldP), .blk b3 ([.string p.name, .slice LA2 p.locs.length LC2, .slice IA2 p.init.length IC2, .slice (some ⟨bQ, oQ, none⟩) p.threads.length TC2, Go.Proofs.YtmfdpnjgljlkbaaDoor.b8 p.ask] ++ [Go.Proofs.YtmfdpnjgljlkbaaDoor.b8 d1, Go.Proofs.YtmfdpnjgljlkbaaDoor.b8 d2, Go.Proofs.YtmfdpnjgljlkbaaDoor.b8 d3, Go.Proofs.YtmfdpnjgljlkbaaDoor.b8 d4, .slice A6 m6 C6]) 37, .blk b1 ([.string p.name, .slice LA p.locs.length LC, .slice IA p.init.length IC, .slice (some ⟨bT, oT, none⟩) p.threads.length TC, Go.Proofs.YtmfdpnjgljlkbaaDoor.b8 p.ask] ++ [Go.Proofs.YtmfdpnjgljlkbaaDoor.b8 a1, Go.Proofs.YtmfdpnjgljlkbaaDoor.b8 a2, Go.Proofs.YtmfdpnjgljlkbaaDoor.b8 a3, Go.Proofs.YtmfdpnjgljlkbaaDoor.b8 a4, .slice a5 a6 a7]) 37] → w.cell? ⟨bQ, oQ + t * 1, none⟩ = some (.slice B (foldP l).length C) := fun w H => by
    obtain ⟨b, o, he, hx⟩ := H.rowsAt 0 rfl hr1 (by decide) t _ hr
    cases he
    exact hx 0 _ rfl
   have hgr : ∀ w, Own w0 none w [.rws 22 1 (.slice (some ⟨bQ, oQ, none⟩) p.threads.length TC2) rows, .grove S3 rows (p.threads.map foldP), .blk b3 ([.string p.name, .slice LA2 p.locs.length LC2, .slice IA2 p.init.length IC2, .slice (some ⟨bQ, oQ, none⟩) p.threads.length TC2, Go.Proofs.YtmfdpnjgljlkbaaDoor.b8 p.ask] ++ [Go.Proofs.YtmfdpnjgljlkbaaDoor.b8 d1, Go.Proofs.YtmfdpnjgljlkbaaDoor.b8 d2, Go.Proofs.YtmfdpnjgljlkbaaDoor.b8 d3, Go.Proofs.YtmfdpnjgljlkbaaDoor.b8 d4, .slice A6 m6 C6]) 37, .blk b1 ([.string p.name, .slice LA p.locs.length LC, .slice IA p.init.length IC, .slice (some ⟨bT, oT, none⟩) p.threads.length TC, Go.Proofs.YtmfdpnjgljlkbaaDoor.b8 p.ask] ++ [Go.Proofs.YtmfdpnjgljlkbaaDoor.b8 a1, Go.Proofs.YtmfdpnjgljlkbaaDoor.b8 a2, Go.Proofs.YtmfdpnjgljlkbaaDoor.b8 a3, Go.Proofs.YtmfdpnjgljlkbaaDoor.b8 a4, .slice a5 a6 a7]) 37] → RowsAt w B 10 ((foldP l).map Ins.cells) := fun w H i cs hi => by
    obtain ⟨B', C', he, hB⟩ := (H.pred 1 _ rfl : groveP S3 _ rows (p.threads.map foldP)) t _ _ hr hlq
    cases he
    obtain ⟨b, o, h1, _, h2⟩ := hB i cs hi
    exact ⟨b, o, h1, h2⟩
   have hl12 := (hf.2.2 l (List.mem_of_getElem? hl)).1
   have hlr := fold_len l
   have hlen : (foldP l).length ≤ l.length := outP_length _ _ _
   refine wp_skip ?_
   refine hK15 _ _ ?_; clear hK15
   refine cSeq (fun K17 hK17 => ?_)
   refine wp_block ?_
   refine cSeq (fun K18 hK18 => ?_)
   refine cReg ?_
   refine sAs F rfl rfl rfl ?_;clear F a;intro a F
   refine sNil ?_
   refine hK18 _ _ ?_; clear hK18
   refine cSeq (fun K19 hK19 => ?_)
   refine cSeq (fun K20 hK20 => ?_)
   refine cReg ?_
   refine sAs F rfl rfl rfl ?_;clear F a;intro a F
   refine sNil ?_
   refine hK20 _ _ ?_; clear hK20
   refine wp_block ?_
   refine cLoopR [1, 3, 7] (fun m ups w => ∃ (i q : Nat), m = l.length - i ∧ ups = [(8, .int .i64 ((q : Nat) : Int)), (9, .int .i64 ((i : Nat) : Int))] ∧ i ≤ l.length ∧ rank (foldAl l) i ≤ q ∧ q ≤ (foldP l).length ∧ Own w0 none w [.rws 22 1 (.slice (some ⟨bQ, oQ, none⟩) p.threads.length TC2) rows, .grove S3 rows (p.threads.map foldP), .blk b3 ([.string p.name, .slice LA2 p.locs.length LC2, .slice IA2 p.init.length IC2, .slice (some ⟨bQ, oQ, none⟩) p.threads.length TC2, Go.Proofs.YtmfdpnjgljlkbaaDoor.b8 p.ask] ++ [Go.Proofs.YtmfdpnjgljlkbaaDoor.b8 d1, Go.Proofs.YtmfdpnjgljlkbaaDoor.b8 d2, Go.Proofs.YtmfdpnjgljlkbaaDoor.b8 d3, Go.Proofs.YtmfdpnjgljlkbaaDoor.b8 d4, .slice A6 m6 C6]) 37, .blk b1 ([.string p.name, .slice LA p.locs.length LC, .slice IA p.init.length IC, .slice (some ⟨bT, oT, none⟩) p.threads.length TC, Go.Proofs.YtmfdpnjgljlkbaaDoor.b8 p.ask] ++ [Go.Proofs.YtmfdpnjgljlkbaaDoor.b8 a1, Go.Proofs.YtmfdpnjgljlkbaaDoor.b8 a2, Go.Proofs.YtmfdpnjgljlkbaaDoor.b8 a3, Go.Proofs.YtmfdpnjgljlkbaaDoor.b8 a4, .slice a5 a6 a7]) 37]) F (l.length) [(8, .int .i64 ((0 : Nat) : Int)), (9, .int .i64 ((0 : Nat) : Int))] (by repeat (first | exact SubR.nil | (apply SubR.cons; · rfl))) ?_ ?_ ?_
   · exact ⟨0, 0, rfl, rfl, by omega, by simp [rank], by omega, H.sel [0, 1, 2, 3] rfl rfl⟩
   · repeat (first | exact trivial | refine Le.cons rfl ?_)
   clear F
   clear H
   intro m ups a w hI F
   obtain ⟨i, q, rfl, rfl, hi, hra, hal, H⟩ := hI
   refine cSeq (fun K21 hK21 => ?_)
   refine cSeq (fun K22 hK22 => ?_)
   refine cReg ?_
   refine sMv F rfl rfl rfl ?_;clear F a;intro a F
   refine sFa (f := 3) (k := 3) Tryd.underlying37 rfl Tryd.sizeOf35 rfl rfl F rfl rfl rfl ?_;clear F a;intro a F
   refine sLd Tryd.isAgg35 F rfl rfl rfl (H.cell 3 rfl rfl) ?_;clear F a;intro a F
   refine sMv F rfl rfl rfl ?_;clear F a;intro a F
   refine sIx Tryd.underlying35 Tryd.sizeOf22 F rfl rfl rfl rfl ?_ ?_
   focus (first | omega | decide | (simp; omega))
   clear F a; intro a F
   refine sLd Tryd.isAgg22 F rfl rfl rfl (H.arg hTx) ?_;clear F a;intro a F
   refine sLen Tryd.underlying22 F rfl rfl rfl ?_;clear F a;intro a F
   refine sBin F rfl rfl rfl rfl bLss ?_;clear F a;intro a F
   refine sNil ?_
   refine hK22 _ _ ?_; clear hK22
   refine cIf F rfl (fun h103 => ?_) (fun h103 => ?_)
   ·
    replace h103 := of_decide_eq_true h103
    obtain ⟨x, hx⟩ : ∃ x, l[i]? = some x := ⟨_, List.getElem?_eq_getElem (by omega)⟩
    obtain ⟨bX, oX, rfl, hXx⟩ := mapAt hTr hx
    refine wp_skip ?_
    refine hK21 _ _ ?_; clear hK21
    refine cSeq (fun K23 hK23 => ?_)
    refine wp_block ?_
    refine cSeq (fun K24 hK24 => ?_)
    refine cReg ?_
    refine sFa (f := 3) (k := 3) Tryd.underlying37 rfl Tryd.sizeOf35 rfl rfl F rfl rfl rfl ?_;clear F a;intro a F
    refine sLd Tryd.isAgg35 F rfl rfl rfl (H.cell 3 rfl rfl) ?_;clear F a;intro a F
    refine sMv F rfl rfl rfl ?_;clear F a;intro a F
    refine sIx Tryd.underlying35 Tryd.sizeOf22 F rfl rfl rfl rfl ?_ ?_
    focus (first | omega | decide | (simp; omega))
    clear F a; intro a F
    refine sLd Tryd.isAgg22 F rfl rfl rfl (H.arg hTx) ?_;clear F a;intro a F
    refine sMv F rfl rfl rfl ?_;clear F a;intro a F
    refine sIx Tryd.underlying22 Tryd.sizeOf50 F rfl rfl rfl rfl ?_ ?_
    focus (first | omega | decide | (simp; omega))
    clear F a; intro a F
    refine sLr Tryd.underlying50 rfl ?si F rfl rfl rfl (H.argR hXx) ?_
    case si => exact info_size Tryd.sizeOf50
    clear F a; intro a F
    refine sAl H Tryd.zeroValue50 F rfl rfl ?_
    clear F a H; intro b10 a w F H
    refine sSr H 0 ?si F rfl rfl rfl ?s1 rfl rfl ?_
    case si => exact info_size Tryd.sizeOf50
    case s1 => first | rfl | (repeat (first | exact one_nil | (apply one_cons; · first | rfl | assumption | exact one_bif rfl rfl)))
    clear H; intro w H
    refine sNil ?_
    refine hK24 _ _ ?_; clear hK24
    refine cSeq (fun K25 hK25 => ?_)
    refine cRegRO (by kernel_rfl) H ?_
    replace H := H.drew
    refine eTakeF (k := 0) (i := 0) rfl (by kernel_rfl) F rfl rfl rfl (fun w => rMv F rfl) H (fun _ _ _ h => h) ?_;clear F a;intro a F
    refine eTakeF (k := 1) (i := 1) rfl (by kernel_rfl) F rfl rfl rfl (fun w => rFa (f := 3) (k := 3) Tryd.underlying37 rfl Tryd.sizeOf35 rfl rfl F rfl) H (fun _ _ _ h => h) ?_;clear F a;intro a F
    refine eTake (k := 2) (i := 2) rfl (by kernel_rfl) F rfl rfl rfl rfl (fun w H => rLd Tryd.isAgg35 F rfl (H.cell 3 rfl rfl)) H (fun _ _ _ h => h) ?_;clear F a;intro a F
    refine eTakeF (k := 3) (i := 3) rfl (by kernel_rfl) F rfl rfl rfl (fun w => rMv F rfl) H (fun _ _ _ h => h) ?_;clear F a;intro a F
    refine eTakeF (k := 4) (i := 4) rfl (by kernel_rfl) F rfl rfl rfl (fun w => rIx Tryd.underlying35 Tryd.sizeOf22 F rfl rfl ?_) H (fun _ _ _ h => h) ?_
    focus (first | omega | decide | (simp; omega))
    clear F a; intro a F
    refine eTake (k := 5) (i := 5) rfl (by kernel_rfl) F rfl rfl rfl rfl (fun w H => rLd Tryd.isAgg22 F rfl (hrow _ (H.sel [1, 2, 3, 4] rfl rfl))) H (fun _ _ _ h => h) ?_;clear F a;intro a F
    refine eTake (k := 6) (i := 6) rfl (by kernel_rfl) F rfl rfl rfl rfl (fun w H => rLen Tryd.underlying22 F rfl) H (fun _ _ _ h => h) ?_;clear F a;intro a F
    refine eTakeF (k := 7) (i := 7) rfl (by kernel_rfl) F rfl rfl rfl (fun w => rBin F rfl rfl bLss) H (fun _ _ _ h => h) ?_;clear F a;intro a F
    refine eTakeF (k := 8) (i := 8) rfl (by kernel_rfl) F rfl rfl rfl (fun w => rMv F rfl) H (fun _ _ _ h => h) ?_;clear F a;intro a F
    refine F.split 122 rfl ?_ ?_ <;> (clear F; intro h122 F)
    ·
     replace h122 := of_decide_eq_true h122
     obtain ⟨y, hy⟩ : ∃ y, (foldP l)[q]? = some y := ⟨_, List.getElem?_eq_getElem (by omega)⟩
     have hyat : ∀ w, Own w0 none w [.rws 22 1 (.slice (some ⟨bQ, oQ, none⟩) p.threads.length TC2) rows, .grove S3 rows (p.threads.map foldP), .blk b3 ([.string p.name, .slice LA2 p.locs.length LC2, .slice IA2 p.init.length IC2, .slice (some ⟨bQ, oQ, none⟩) p.threads.length TC2, Go.Proofs.YtmfdpnjgljlkbaaDoor.b8 p.ask] ++ [Go.Proofs.YtmfdpnjgljlkbaaDoor.b8 d1, Go.Proofs.YtmfdpnjgljlkbaaDoor.b8 d2, Go.Proofs.YtmfdpnjgljlkbaaDoor.b8 d3, Go.Proofs.YtmfdpnjgljlkbaaDoor.b8 d4, .slice A6 m6 C6]) 37, .blk b1 ([.string p.name, .slice LA p.locs.length LC, .slice IA p.init.length IC, .slice (some ⟨bT, oT, none⟩) p.threads.length TC, Go.Proofs.YtmfdpnjgljlkbaaDoor.b8 p.ask] ++ [Go.Proofs.YtmfdpnjgljlkbaaDoor.b8 a1, Go.Proofs.YtmfdpnjgljlkbaaDoor.b8 a2, Go.Proofs.YtmfdpnjgljlkbaaDoor.b8 a3, Go.Proofs.YtmfdpnjgljlkbaaDoor.b8 a4, .slice a5 a6 a7]) 37] → ∃ bY oY, B = some ⟨bY, oY, none⟩ ∧ w.rangeAt bY (oY + q * 10) y.cells := fun w H => mapAt (hgr w H) hy
     obtain ⟨bY, oY, rfl, _⟩ := hyat _ (H.sel [1, 2, 3, 4] rfl rfl)
     have hyat2 : ∀ w, Own w0 none w [.rws 22 1 (.slice (some ⟨bQ, oQ, none⟩) p.threads.length TC2) rows, .grove S3 rows (p.threads.map foldP), .blk b3 ([.string p.name, .slice LA2 p.locs.length LC2, .slice IA2 p.init.length IC2, .slice (some ⟨bQ, oQ, none⟩) p.threads.length TC2, Go.Proofs.YtmfdpnjgljlkbaaDoor.b8 p.ask] ++ [Go.Proofs.YtmfdpnjgljlkbaaDoor.b8 d1, Go.Proofs.YtmfdpnjgljlkbaaDoor.b8 d2, Go.Proofs.YtmfdpnjgljlkbaaDoor.b8 d3, Go.Proofs.YtmfdpnjgljlkbaaDoor.b8 d4, .slice A6 m6 C6]) 37, .blk b1 ([.string p.name, .slice LA p.locs.length LC, .slice IA p.init.length IC, .slice (some ⟨bT, oT, none⟩) p.threads.length TC, Go.Proofs.YtmfdpnjgljlkbaaDoor.b8 p.ask] ++ [Go.Proofs.YtmfdpnjgljlkbaaDoor.b8 a1, Go.Proofs.YtmfdpnjgljlkbaaDoor.b8 a2, Go.Proofs.YtmfdpnjgljlkbaaDoor.b8 a3, Go.Proofs.YtmfdpnjgljlkbaaDoor.b8 a4, .slice a5 a6 a7]) 37] → w.rangeAt bY (oY + q * 10) y.cells := fun w H => by
      obtain ⟨_, _, he, h2⟩ := hyat w H
      cases he
      exact h2
     refine eTake (k := 9) (i := 9) rfl (by kernel_rfl) F rfl rfl rfl rfl (fun w H => rLr Tryd.underlying50 rfl ?si F rfl (H.whole 0 rfl)) H (fun _ _ _ h => h) ?_
     case si => exact info_size Tryd.sizeOf50
     clear F a; intro a F
     refine eTakeF (k := 10) (i := 10) rfl (by kernel_rfl) F rfl rfl rfl (fun w => rFa (f := 3) (k := 3) Tryd.underlying37 rfl Tryd.sizeOf35 rfl rfl F rfl) H (fun _ _ _ h => h) ?_;clear F a;intro a F
     refine eTake (k := 11) (i := 11) rfl (by kernel_rfl) F rfl rfl rfl rfl (fun w H => rLd Tryd.isAgg35 F rfl (H.cell 3 rfl rfl)) H (fun _ _ _ h => h) ?_;clear F a;intro a F
     refine eTakeF (k := 12) (i := 12) rfl (by kernel_rfl) F rfl rfl rfl (fun w => rMv F rfl) H (fun _ _ _ h => h) ?_;clear F a;intro a F
     refine eTakeF (k := 13) (i := 13) rfl (by kernel_rfl) F rfl rfl rfl (fun w => rIx Tryd.underlying35 Tryd.sizeOf22 F rfl rfl ?_) H (fun _ _ _ h => h) ?_
     focus (first | omega | decide | (simp; omega))
     clear F a; intro a F
     refine eTake (k := 14) (i := 14) rfl (by kernel_rfl) F rfl rfl rfl rfl (fun w H => rLd Tryd.isAgg22 F rfl (hrow _ (H.sel [1, 2, 3, 4] rfl rfl))) H (fun _ _ _ h => h) ?_;clear F a;intro a F
     refine eTakeF (k := 15) (i := 15) rfl (by kernel_rfl) F rfl rfl rfl (fun w => rMv F rfl) H (fun _ _ _ h => h) ?_;clear F a;intro a F
     refine eTakeF (k := 16) (i := 16) rfl (by kernel_rfl) F rfl rfl rfl (fun w => rIx Tryd.underlying22 Tryd.sizeOf50 F rfl rfl ?_) H (fun _ _ _ h => h) ?_
     focus (first | omega | decide | (simp; omega))
     clear F a; intro a F
     refine eTake (k := 17) (i := 17) rfl (by kernel_rfl) F rfl rfl rfl rfl (fun w H => rLr Tryd.underlying50 rfl ?si F rfl (hyat2 _ (H.sel [1, 2, 3, 4] rfl rfl))) H (fun _ _ _ h => h) ?_
     case si => exact info_size Tryd.sizeOf50
     clear F a; intro a F
     refine eOne (k := 18) (i := 18) rfl (by kernel_rfl) F rfl (oCall Tryd.call22 F rfl rfl (like_any x y _) ?_)
     rintro e w ⟨lk, rfl, hlk1, hlk2, hb⟩
     replace H := H.grow hb; clear hb
     refine ⟨_, rfl, ?_⟩
     clear F a; intro a F
     refine ePartO (by kernel_rfl) H ?_
     refine eTakeF (k := 19) (i := 19) rfl (by kernel_rfl) F rfl rfl rfl (fun w => rPk F rfl rfl) H (fun _ _ _ h => h) ?_;clear F a;intro a F
     refine eNil (k := 20) (by kernel_rfl) ?_
     refine hK25 _ _ ?_; clear hK25
     refine cIf F rfl (fun h133 => ?_) (fun h133 => ?_)
     ·
      refine cReg ?_
      refine sMv F rfl rfl rfl ?_;clear F a;intro a F
      refine sBin F rfl rfl rfl rfl (bAddN (j := 1) ?_) ?_
      focus omega
      clear F a; intro a F
      refine sAs F rfl rfl rfl ?_;clear F a;intro a F
      refine sNil ?_
      refine hK23 _ _ ?_; clear hK23
      refine cReg ?_
      refine sMv F rfl rfl rfl ?_;clear F a;intro a F
      refine sBin F rfl rfl rfl rfl (bAddN (j := 1) ?_) ?_
      focus omega
      clear F a; intro a F
      refine sAs F rfl rfl rfl ?_;clear F a;intro a F
      refine sNil ?_
      (have hrs := rank_succ (al := foldAl l) (k := i)
       have hrm : rank (foldAl l) (i + 1) ≤ rank (foldAl l) l.length := rank_mono (by omega)
       first
        | (have hlkT : lk = true := h133
           refine ⟨_, by omega, _, ⟨i + 1, q + 1, rfl, rfl, by omega, ?_, by omega, H.sel [1, 2, 3, 4] rfl rfl⟩, F.to (by repeat (first | exact trivial | refine Le.cons rfl ?_))⟩
           split at hrs <;> omega)
        | (refine ⟨_, by omega, _, ⟨i + 1, q, rfl, rfl, by omega, ?_, by omega, H.sel [1, 2, 3, 4] rfl rfl⟩, F.to (by repeat (first | exact trivial | refine Le.cons rfl ?_))⟩
           first
             | omega
             | (rcases Nat.lt_or_ge (rank (foldAl l) i) q with hlt | hge
                · split at hrs <;> omega
                · obtain rfl : q = rank (foldAl l) i := by omega
                  split at hrs
                  · rename_i hal2
                    have hyk := Option.some.inj (hy.symm.trans (fold_get hx hal2))
                    by_cases h8 : x.op = 8
                    · obtain ⟨k1, k2, _⟩ := keep_skip hx hal2 h8
                      have k3 := skipped_le (foldAl l) i x.skip.toNat
                      rw [← hyk] at k1
                      have := hlk2 h8 (UInt8.le_iff_toNat_le.2 (by rw [k1]; simpa using k2)) (UInt8.le_iff_toNat_le.2 (by rw [k1]; exact k3)) (by rw [hyk]; unfold keepI; rw [if_pos h8])
                      simp_all
                    · have := hlk1 h8 (by rw [hyk]; unfold keepI; rw [if_neg h8])
                      simp_all
                  · omega)))
     refine wp_skip ?_
     refine hK23 _ _ ?_; clear hK23
     refine cReg ?_
     refine sMv F rfl rfl rfl ?_;clear F a;intro a F
     refine sBin F rfl rfl rfl rfl (bAddN (j := 1) ?_) ?_
     focus omega
     clear F a; intro a F
     refine sAs F rfl rfl rfl ?_;clear F a;intro a F
     refine sNil ?_
     (have hrs := rank_succ (al := foldAl l) (k := i)
      have hrm : rank (foldAl l) (i + 1) ≤ rank (foldAl l) l.length := rank_mono (by omega)
      first
       | (have hlkT : lk = true := h133
          refine ⟨_, by omega, _, ⟨i + 1, q + 1, rfl, rfl, by omega, ?_, by omega, H.sel [1, 2, 3, 4] rfl rfl⟩, F.to (by repeat (first | exact trivial | refine Le.cons rfl ?_))⟩
          split at hrs <;> omega)
       | (refine ⟨_, by omega, _, ⟨i + 1, q, rfl, rfl, by omega, ?_, by omega, H.sel [1, 2, 3, 4] rfl rfl⟩, F.to (by repeat (first | exact trivial | refine Le.cons rfl ?_))⟩
          first
            | omega
            | (rcases Nat.lt_or_ge (rank (foldAl l) i) q with hlt | hge
               · split at hrs <;> omega
               · obtain rfl : q = rank (foldAl l) i := by omega
                 split at hrs
                 · rename_i hal2
                   have hyk := Option.some.inj (hy.symm.trans (fold_get hx hal2))
                   by_cases h8 : x.op = 8
                   · obtain ⟨k1, k2, _⟩ := keep_skip hx hal2 h8
                     have k3 := skipped_le (foldAl l) i x.skip.toNat
                     rw [← hyk] at k1
                     have := hlk2 h8 (UInt8.le_iff_toNat_le.2 (by rw [k1]; simpa using k2)) (UInt8.le_iff_toNat_le.2 (by rw [k1]; exact k3)) (by rw [hyk]; unfold keepI; rw [if_pos h8])
                     simp_all
                   · have := hlk1 h8 (by rw [hyk]; unfold keepI; rw [if_neg h8])
                     simp_all
                 · omega)))
    replace h122 := of_decide_eq_false h122
    refine eSkip (k := 9) (i := 9) rfl (by kernel_rfl) F rfl rfl rfl H (fun _ _ _ h => h) ?_;clear F a;intro a F
    refine eSkip (k := 10) (i := 10) rfl (by kernel_rfl) F rfl rfl rfl H (fun _ _ _ h => h) ?_;clear F a;intro a F
    refine eSkip (k := 11) (i := 11) rfl (by kernel_rfl) F rfl rfl rfl H (fun _ _ _ h => h) ?_;clear F a;intro a F
    refine eSkip (k := 12) (i := 12) rfl (by kernel_rfl) F rfl rfl rfl H (fun _ _ _ h => h) ?_;clear F a;intro a F
    refine eSkip (k := 13) (i := 13) rfl (by kernel_rfl) F rfl rfl rfl H (fun _ _ _ h => h) ?_;clear F a;intro a F
    refine eSkip (k := 14) (i := 14) rfl (by kernel_rfl) F rfl rfl rfl H (fun _ _ _ h => h) ?_;clear F a;intro a F
    refine eSkip (k := 15) (i := 15) rfl (by kernel_rfl) F rfl rfl rfl H (fun _ _ _ h => h) ?_;clear F a;intro a F
    refine eSkip (k := 16) (i := 16) rfl (by kernel_rfl) F rfl rfl rfl H (fun _ _ _ h => h) ?_;clear F a;intro a F
    refine eSkip (k := 17) (i := 17) rfl (by kernel_rfl) F rfl rfl rfl H (fun _ _ _ h => h) ?_;clear F a;intro a F
    refine eSkip (k := 18) (i := 18) rfl (by kernel_rfl) F rfl rfl rfl H (fun _ _ _ h => h) ?_;clear F a;intro a F
    refine eTakeF (k := 19) (i := 19) rfl (by kernel_rfl) F rfl rfl rfl (fun w => rPk F rfl rfl) H (fun _ _ _ h => h) ?_;clear F a;intro a F
    refine eNil (k := 20) (by kernel_rfl) ?_
    refine hK25 _ _ ?_; clear hK25
    refine cIfF F rfl ?_
    refine wp_skip ?_
    refine hK23 _ _ ?_; clear hK23
    refine cReg ?_
    refine sMv F rfl rfl rfl ?_;clear F a;intro a F
    refine sBin F rfl rfl rfl rfl (bAddN (j := 1) ?_) ?_
    focus omega
    clear F a; intro a F
    refine sAs F rfl rfl rfl ?_;clear F a;intro a F
    refine sNil ?_
    (have hrs := rank_succ (al := foldAl l) (k := i)
     have hrm : rank (foldAl l) (i + 1) ≤ rank (foldAl l) l.length := rank_mono (by omega)
     first
      | (have hlkT : lk = true := h133
         refine ⟨_, by omega, _, ⟨i + 1, q + 1, rfl, rfl, by omega, ?_, by omega, H.sel [1, 2, 3, 4] rfl rfl⟩, F.to (by repeat (first | exact trivial | refine Le.cons rfl ?_))⟩
         split at hrs <;> omega)
      | (refine ⟨_, by omega, _, ⟨i + 1, q, rfl, rfl, by omega, ?_, by omega, H.sel [1, 2, 3, 4] rfl rfl⟩, F.to (by repeat (first | exact trivial | refine Le.cons rfl ?_))⟩
         first
           | omega
           | (rcases Nat.lt_or_ge (rank (foldAl l) i) q with hlt | hge
              · split at hrs <;> omega
              · obtain rfl : q = rank (foldAl l) i := by omega
                split at hrs
                · rename_i hal2
                  have hyk := Option.some.inj (hy.symm.trans (fold_get hx hal2))
                  by_cases h8 : x.op = 8
                  · obtain ⟨k1, k2, _⟩ := keep_skip hx hal2 h8
                    have k3 := skipped_le (foldAl l) i x.skip.toNat
                    rw [← hyk] at k1
                    have := hlk2 h8 (UInt8.le_iff_toNat_le.2 (by rw [k1]; simpa using k2)) (UInt8.le_iff_toNat_le.2 (by rw [k1]; exact k3)) (by rw [hyk]; unfold keepI; rw [if_pos h8])
                    simp_all
                  · have := hlk1 h8 (by rw [hyk]; unfold keepI; rw [if_neg h8])
                    simp_all
                · omega)))
   replace h103 := of_decide_eq_false h103
   obtain rfl : i = l.length := by omega
   refine wp_exit ?_
   refine hK19 _ _ ?_; clear hK19
   refine cSeq (fun K26 hK26 => ?_)
   refine cReg ?_
   refine sMv F rfl rfl rfl ?_;clear F a;intro a F
   refine sFa (f := 3) (k := 3) Tryd.underlying37 rfl Tryd.sizeOf35 rfl rfl F rfl rfl rfl ?_;clear F a;intro a F
   refine sLd Tryd.isAgg35 F rfl rfl rfl (H.cell 2 rfl rfl) ?_;clear F a;intro a F
   refine sMv F rfl rfl rfl ?_;clear F a;intro a F
   refine sIx Tryd.underlying35 Tryd.sizeOf22 F rfl rfl rfl rfl ?_ ?_
   focus (first | omega | decide | (simp; omega))
   clear F a; intro a F
   refine sLd Tryd.isAgg22 F rfl rfl rfl (hrow _ (H.sel [0, 1, 2, 3] rfl rfl)) ?_;clear F a;intro a F
   refine sLen Tryd.underlying22 F rfl rfl rfl ?_;clear F a;intro a F
   refine sBin F rfl rfl rfl rfl bNeq ?_;clear F a;intro a F
   refine sNil ?_
   refine hK26 _ _ ?_; clear hK26
   refine cIf F rfl (fun h143 => ?_) (fun h143 => ?_)
   ·
    replace h143 := bneT h143
    exact absurd (by omega) h143
   replace h143 := bneF h143
   refine wp_skip ?_
   refine hK17 _ _ ?_; clear hK17
   refine cReg ?_
   refine sMv F rfl rfl rfl ?_;clear F a;intro a F
   refine sBin F rfl rfl rfl rfl (bAddN (j := 1) ?_) ?_
   focus omega
   clear F a; intro a F
   refine sAs F rfl rfl rfl ?_;clear F a;intro a F
   refine sNil ?_
   exact ⟨_, by omega, _, ⟨t + 1, rfl, rfl, by omega, H.sel [0, 1, 2, 3] rfl rfl⟩, F.to (by repeat (first | exact trivial | refine Le.cons rfl ?_))⟩
  replace h93 := of_decide_eq_false h93
  refine wp_exit ?_
  refine hK13 _ _ ?_; clear hK13
  refine cSeq (fun K27 hK27 => ?_)
  refine cReg ?_
  refine sAs F rfl rfl rfl ?_;clear F a;intro a F
  refine sNil ?_
  refine hK27 _ _ ?_; clear hK27
  refine wp_ret ?_
  refine bRet Tryd.results4 F rfl ?_
  exact ⟨rfl, H.below⟩
theorem checkFolds_any (cs : List Value) (p : Prg) (w0 : World) (hp : ProgCap w0 cs p) (hN : NeedsAt w0) : Calls Tryd.prog 4 #[.agg cs.toArray] w0 fun e w' => e = .returned (.bool true) ∧ Below w0.heap.size w0 w' := by
  obtain ⟨LA, LC, IA, IC, TA, TC, h, ccs, hp⟩ := hp
  by_cases h0 : rightErr p = 0
  · exact checkFolds_ok cs p LA LC IA IC TA TC h ccs w0 hp hN h0
  · exact checkFolds_err cs p LA LC IA IC TA TC h ccs w0 hp hN h0
end Go.Proofs.YtmfdpnjgljlkbaaDoor
