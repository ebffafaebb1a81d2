/-
  WALK2. The law of chapter 07: CheckBack answers true. Conditions: what it is handed lies in memory; block 0 holds the table of needs.
-/
import Derived.Test.YtfcidfljidkcaaaDoorTuH
import Derived.Test.YtfcidfljidkcaaaDoorKtF
set_option linter.unusedSimpArgs false
set_option linter.unusedVariables false
namespace Go.Proofs.YtfcidfljidkcaaaDoor
open Go.RowKit
set_option maxRecDepth 100000
theorem rowCell {w0 w : World} {row : Option Nat} {rs : List Res} (H : Own w0 row w rs) (i : Nat) {e : TypeId} {n c bQ oQ t : Nat} {v : Value} {rows : List (List Value)} (hi : rs[i]? = some (.rws e 1 (.slice (some ⟨bQ, oQ, none⟩) n c) rows)) (hr1 : ∀ r ∈ rows, r.length = 1) (hr : rows[t]? = some [v]) : w.cell? ⟨bQ, oQ + t * 1, none⟩ = some v := by
  obtain ⟨b, o, he, hx⟩ := H.rowsAt i hi hr1 (by decide) t _ hr
  cases he
  exact hx 0 _ rfl
theorem fin_cut {f : By} {T L : List Int} {k : Nat} (hk : k < T.length) (h4 : T.length ≤ 4) : same 8 (cut (finT f T L) (k * 8)) (cut f (idxZ T k * 8)) = true := same_iff.2 fun i hi => by
  unfold cut finT
  rw [if_pos (by omega), show (k * 8 + i) / 8 = k by omega, if_pos hk, show (k * 8 + i) % 8 = i by omega]
set_option maxHeartbeats 16000000 in
theorem back_ok (cs : List Value) (p : Prg) (LA : Option Addr) (LC : Nat) (IA : Option Addr) (IC : Nat) (TA : Option Addr) (TC h : Nat) (ccs : List Value) (f : By) (A : Option Addr) (C : Nat) (T : List Int) (B : Option Addr) (D : Nat) (L : List Int) (nT nL : Nat) (w0 : World)
    (hp : ProgCapIn w0 cs p LA LC IA IC TA TC h ccs) (hN : NeedsAt w0) (hA : RowsAt w0 A 1 (intsZ T)) (hB : RowsAt w0 B 1 (intsZ L)) (hok : BackOk p T L) (hnT : nT = p.threads.length) (hnL : nL = p.locs.length) :
    Calls Tryd.prog 3 #[.agg cs.toArray, .agg (bs 38 f).toArray, .slice A nT C, .slice B nL D] w0 fun e w' => e = .returned (.bool true) ∧ Below w0.heap.size w0 w' := by
  subst hnT hnL
  obtain ⟨h0, hT, hL⟩ := hok
  have V := valid h0
  have h6 := V.locs6
  have h4 := V.thr4
  have hTn := hT.len
  have hLn := hL.len
  have hq0 : rightErr (turnPr h p T L) = 0 := right_turn h0 hT hL
  have hzp := sized_of h0 hp.prog.name hp.prog.locsS
  have hzq : Sized (turnPr h p T L) := sized_of hq0 hp.prog.name (locsS_turn hL hp.prog.locsS)
  have hg1 : FinGood T L := ⟨by omega, by omega, by rw [hTn]; exact hT, by rw [hLn]; exact hL⟩
  have h5 : condOk p.threads.length p.locs.length 20 p.cond = true := right_demand h0 5 (by omega)
  have htl : (turnPr h p T L).threads.length = p.threads.length := thr_lenT
  obtain ⟨l0, hl0⟩ : ∃ l, p.threads[0]? = some l := ⟨_, List.getElem?_eq_getElem (by have := V.thr1; omega)⟩
  obtain ⟨bT, oT, _, _, rfl, _⟩ := hp.threads 0 l0 hl0
  obtain ⟨a1, a2, a3, a4, a5, a6, a7, rfl⟩ := condShape hp.cond.at
  have hcs := hp.prog.cs
  simp only [List.cons_append, List.nil_append] at hcs
  subst hcs
  have H := Own.start w0 none
  refine enterF Tryd.func3 rfl Tryd.ntmps3 rfl (fun a F => ?_)
  refine cSeq (fun K1 hK1 => ?_)
  refine cReg ?_
  refine sBx H F rfl rfl rfl ?_
  clear F a H; intro b4 a w F H
  refine sBxB H F rfl rfl rfl ?_
  clear F a H; intro b5 a w F H
  refine sAs F rfl rfl rfl ?_;clear F a;intro a F
  refine sNil ?_
  refine hK1 _ _ ?_; clear hK1
  refine cSeq (fun K2 hK2 => ?_)
  refine cSeq (fun K3 hK3 => ?_)
  refine cReg ?_
  refine sCall Tryd.call4 F rfl rfl rfl (awake7_any _ (hN.own H)) ?_
  rintro e w ⟨rfl, hb⟩
  replace H := H.grow hb; clear hb
  refine ⟨_, rfl, ?_⟩
  clear F a; intro a F
  refine sNot F rfl rfl rfl ?_;clear F a;intro a F
  refine sNil ?_
  refine hK3 _ _ ?_; clear hK3
  refine cIf F rfl (fun h19 => ?_) (fun h19 => ?_)
  ·
   replace h19 := notT h19
   exact absurd h19 (by decide)
  replace h19 := notF h19
  refine wp_skip ?_
  refine hK2 _ _ ?_; clear hK2
  refine cSeq (fun K4 hK4 => ?_)
  refine cSeq (fun K5 hK5 => ?_)
  refine cReg ?_
  refine sLr Tryd.underlying29 rfl ?si F rfl rfl rfl (H.whole 1 rfl) ?_
  case si => exact info_size Tryd.sizeOf29
  clear F a; intro a F
  refine sCall Tryd.call5 F rfl rfl rfl (great_any _ p LA LC IA IC (some ⟨bT, oT, none⟩) TC h _ _ (hp.own H)) ?_
  rintro e w ⟨g21, rfl, hg21, hb⟩
  replace H := H.grow hb; clear hb
  refine ⟨_, rfl, ?_⟩
  clear F a; intro a F
  refine sMv F rfl rfl rfl ?_;clear F a;intro a F
  refine F.split 22 rfl ?_ ?_ <;> (clear F; intro h22 F)
  ·
   refine sSk F rfl rfl ?_;clear F a;intro a F
   refine sSk F rfl rfl ?_;clear F a;intro a F
   refine sSk F rfl rfl ?_;clear F a;intro a F
   refine sPk F rfl rfl rfl rfl ?_;clear F a;intro a F
   refine sMv F rfl rfl rfl ?_;clear F a;intro a F
   refine sSk F rfl rfl ?_;clear F a;intro a F
   refine sSk F rfl rfl ?_;clear F a;intro a F
   refine sSk F rfl rfl ?_;clear F a;intro a F
   refine sPk F rfl rfl rfl rfl ?_;clear F a;intro a F
   refine sNil ?_
   refine hK5 _ _ ?_; clear hK5
   refine cIfT F rfl ?_
   refine cSeq (fun K6 hK6 => ?_)
   refine cReg ?_
   refine sAs F rfl rfl rfl ?_;clear F a;intro a F
   refine sNil ?_
   refine hK6 _ _ ?_; clear hK6
   refine wp_ret ?_
   simp only [Exit.then]
   refine bRet Tryd.results3 F rfl ?_
   first
   | exact ⟨rfl, H.below⟩
   | (have e : holdsH (finT f T L) h (turnPr h p T L).cond = holdsH f h p.cond := holds_turn hT hL h4 h6 f h 20 p.cond h5
      rw [e, beq_self_eq_true]
      exact ⟨rfl, H.below⟩)
  have hsl := slimT_of hp.cond.at (hg21 h22 (small_of h0)) (by omega)
  refine sMv F rfl rfl rfl ?_;clear F a;intro a F
  refine sLen Tryd.underlying35 F rfl rfl rfl ?_;clear F a;intro a F
  refine sBin F rfl rfl rfl rfl bGtr ?_;clear F a;intro a F
  refine sPk F rfl rfl rfl rfl ?_;clear F a;intro a F
  refine sMv F rfl rfl rfl ?_;clear F a;intro a F
  refine F.split 27 rfl ?_ ?_ <;> (clear F; intro h27 F)
  ·
   replace h27 := of_decide_eq_true h27
   refine sSk F rfl rfl ?_;clear F a;intro a F
   refine sSk F rfl rfl ?_;clear F a;intro a F
   refine sSk F rfl rfl ?_;clear F a;intro a F
   refine sPk F rfl rfl rfl rfl ?_;clear F a;intro a F
   refine sNil ?_
   refine hK5 _ _ ?_; clear hK5
   refine cIfT F rfl ?_
   refine cSeq (fun K7 hK7 => ?_)
   refine cReg ?_
   refine sAs F rfl rfl rfl ?_;clear F a;intro a F
   refine sNil ?_
   refine hK7 _ _ ?_; clear hK7
   refine wp_ret ?_
   simp only [Exit.then]
   refine bRet Tryd.results3 F rfl ?_
   first
   | exact ⟨rfl, H.below⟩
   | (have e : holdsH (finT f T L) h (turnPr h p T L).cond = holdsH f h p.cond := holds_turn hT hL h4 h6 f h 20 p.cond h5
      rw [e, beq_self_eq_true]
      exact ⟨rfl, H.below⟩)
  replace h27 := of_decide_eq_false h27
  refine sMv F rfl rfl rfl ?_;clear F a;intro a F
  refine sLen Tryd.underlying35 F rfl rfl rfl ?_;clear F a;intro a F
  refine sBin F rfl rfl rfl rfl bGtr ?_;clear F a;intro a F
  refine sPk F rfl rfl rfl rfl ?_;clear F a;intro a F
  refine sNil ?_
  refine hK5 _ _ ?_; clear hK5
  refine cIf F rfl (fun h31 => ?_) (fun h31 => ?_)
  ·
   replace h31 := of_decide_eq_true h31
   refine cSeq (fun K8 hK8 => ?_)
   refine cReg ?_
   refine sAs F rfl rfl rfl ?_;clear F a;intro a F
   refine sNil ?_
   refine hK8 _ _ ?_; clear hK8
   refine wp_ret ?_
   simp only [Exit.then]
   refine bRet Tryd.results3 F rfl ?_
   first
   | exact ⟨rfl, H.below⟩
   | (have e : holdsH (finT f T L) h (turnPr h p T L).cond = holdsH f h p.cond := holds_turn hT hL h4 h6 f h 20 p.cond h5
      rw [e, beq_self_eq_true]
      exact ⟨rfl, H.below⟩)
  replace h31 := of_decide_eq_false h31
  refine wp_skip ?_
  refine hK4 _ _ ?_; clear hK4
  refine cSeq (fun K9 hK9 => ?_)
  refine cReg ?_
  refine sLr Tryd.underlying29 rfl ?si F rfl rfl rfl (H.whole 1 rfl) ?_
  case si => exact info_size Tryd.sizeOf29
  clear F a; intro a F
  refine sMv F rfl rfl rfl ?_;clear F a;intro a F
  refine sMv F rfl rfl rfl ?_;clear F a;intro a F
  refine sCall Tryd.call6 F rfl rfl rfl (turn_good _ p LA LC IA IC (some ⟨bT, oT, none⟩) TC h _ A C T B D L _ _ _ (hp.prog.own H) (hN.own H) h0 hsl (hA.own H) (hB.own H) hT hL rfl rfl) ?_
  rintro e w ⟨v36, rfl, h36⟩
  obtain ⟨LA2, LC2, IA2, IC2, TA2, TC2, rows, S3, ccs2, S4, rfl, hrl, hr1, H2⟩ := h36
  obtain ⟨d1, d2, d3, d4, A6, m6, C6, rfl⟩ := condShape (H2.pred 0 _ rfl : TreeIn S4 _ h ccs2 (turnPr h p T L).cond).at
  obtain ⟨r00, hr00⟩ : ∃ r, rows[0]? = some r := ⟨_, List.getElem?_eq_getElem (by have := V.thr1; omega)⟩
  obtain ⟨bQ, oQ, rfl, _⟩ := H2.rowsAt 1 rfl hr1 (by decide) 0 _ hr00
  replace H := H.join H2; clear H2
  refine ⟨_, rfl, ?_⟩
  clear F a; intro a F
  refine sMv F rfl rfl rfl ?_;clear F a;intro a F
  refine sExt F rfl rfl rfl rfl ?_;clear F a;intro a F
  refine sExt F rfl rfl rfl rfl ?_;clear F a;intro a F
  refine sAl H Tryd.zeroValue29 F rfl rfl ?_
  clear F a H; intro b9 a w F H
  refine sSr H 0 ?si F rfl rfl rfl ?s1 rfl rfl ?_
  case si => exact info_size Tryd.sizeOf29
  case s1 => first | rfl | (repeat (first | exact one_nil | (apply one_cons; · first | rfl | assumption | exact one_bif rfl rfl)))
  clear H; intro w H
  refine sAs F rfl rfl rfl ?_;clear F a;intro a F
  refine sNil ?_
  refine hK9 _ _ ?_; clear hK9
  refine cSeq (fun K10 hK10 => ?_)
  refine cReg ?_
  refine sLrB Tryd.underlying34 rfl Tryd.sizeOf34 F rfl rfl rfl (H.whole 6 rfl) ?_;clear F a;intro a F
  refine sMv F rfl rfl rfl ?_;clear F a;intro a F
  refine sMv F rfl rfl rfl ?_;clear F a;intro a F
  refine sCall Tryd.call7 F rfl rfl rfl (finalT_good f A C T B D L _ _ _ (hA.own H) (hB.own H) hTn.symm hLn.symm hg1) ?_
  rintro e w ⟨rfl, hb⟩
  replace H := H.grow hb; clear hb
  refine ⟨_, rfl, ?_⟩
  clear F a; intro a F
  refine sMv F rfl rfl rfl ?_;clear F a;intro a F
  refine sExt F rfl rfl rfl rfl ?_;clear F a;intro a F
  refine sExt F rfl rfl rfl rfl ?_;clear F a;intro a F
  refine sAlB H zB34 F rfl rfl ?_
  clear F a H; intro b11 a w F H
  refine sSrB H 0 Tryd.sizeOf34 F rfl rfl rfl rfl (by omega) ?_
  clear H; intro w H
  rw [lay_all] at H
  refine sAs F rfl rfl rfl ?_;clear F a;intro a F
  refine sNil ?_
  refine hK10 _ _ ?_; clear hK10
  refine cSeq (fun K11 hK11 => ?_)
  refine cSeq (fun K12 hK12 => ?_)
  refine cReg ?_
  refine sMv F rfl rfl rfl ?_;clear F a;intro a F
  refine sBin F rfl rfl rfl rfl bNeq ?_;clear F a;intro a F
  refine sNil ?_
  refine hK12 _ _ ?_; clear hK12
  refine cIf F rfl (fun h47 => ?_) (fun h47 => ?_)
  ·
   replace h47 := bneT h47
   exact absurd h47 (by decide)
  replace h47 := bneF h47
  refine wp_skip ?_
  refine hK11 _ _ ?_; clear hK11
  refine cSeq (fun K13 hK13 => ?_)
  refine cSeq (fun K14 hK14 => ?_)
  refine cReg ?_
  refine sMv F rfl rfl rfl ?_;clear F a;intro a F
  refine sBin F rfl rfl rfl rfl bNeq ?_;clear F a;intro a F
  refine sMv F rfl rfl rfl ?_;clear F a;intro a F
  refine F.split 50 rfl ?_ ?_ <;> (clear F; intro h50 F)
  ·
   replace h50 := bneT h50
   exact absurd h50 (by decide)
  replace h50 := bneF h50
  refine sLr Tryd.underlying29 rfl ?si F rfl rfl rfl (H.whole 1 rfl) ?_
  case si => exact info_size Tryd.sizeOf29
  clear F a; intro a F
  refine sCall Tryd.call8 F rfl rfl rfl (right_any' _ (turnPr h p T L) _ ⟨_, _, _, _, _, _, _, _, outIn (H.sel [2, 3, 4, 5, 6] rfl rfl) hrl hr1 hzq⟩ (hN.own H)) ?_
  rintro e w ⟨rfl, hb⟩
  replace H := H.grow hb; clear hb
  refine ⟨_, rfl, ?_⟩
  clear F a; intro a F
  refine sBin F rfl rfl rfl rfl bNeq ?_;clear F a;intro a F
  refine sPk F rfl rfl rfl rfl ?_;clear F a;intro a F
  refine sNil ?_
  refine hK14 _ _ ?_; clear hK14
  refine cIf F rfl (fun h54 => ?_) (fun h54 => ?_)
  ·
   replace h54 := bneT h54
   exact absurd hq0 h54
  replace h54 := bneF h54
  refine wp_skip ?_
  refine hK13 _ _ ?_; clear hK13
  refine cSeq (fun K15 hK15 => ?_)
  refine cRegRO (by kernel_rfl) H ?_
  replace H := H.drew
  refine eTake (k := 0) (i := 0) rfl (by kernel_rfl) F rfl rfl rfl rfl (fun w H => rLr Tryd.underlying29 rfl ?si F rfl (H.whole 1 rfl)) (H.sel [0, 1, 2, 3, 4, 5, 6, 7, 8] rfl rfl) (fun _ _ _ h => h) ?_
  case si => exact info_size Tryd.sizeOf29
  clear F a; intro a F
  refine eTakeF (k := 1) (i := 1) rfl (by kernel_rfl) F rfl rfl rfl (fun w => rMv F rfl) (H.sel [0, 1, 2, 3, 4, 5, 6, 7, 8] rfl rfl) (fun _ _ _ h => h) ?_;clear F a;intro a F
  refine eTakeF (k := 2) (i := 3) rfl (by kernel_rfl) F rfl rfl rfl (fun w => rMv F rfl) (H.sel [0, 1, 2, 3, 4, 5, 6, 7, 8] rfl rfl) (fun _ _ _ h => h) ?_;clear F a;intro a F
  refine eJoin F H [2, 3, 4, 5, 9, 11] 10 [true, true, true, true, true, true, true, true, true, true, false, false] (fun rs ups w => ∃ LA3 LC3 IA3 IC3 TA3 TC3 rows3 S33 e1 e2 e3 e4 A63 m63 C63 S43 b13, ups = [(62, .agg ([.string p.name, .slice LA3 p.locs.length LC3, .slice IA3 p.init.length IC3, .slice TA3 p.threads.length TC3, Go.Proofs.YtfcidfljidkcaaaDoor.b8 p.ask, Go.Proofs.YtfcidfljidkcaaaDoor.b8 e1, Go.Proofs.YtfcidfljidkcaaaDoor.b8 e2, Go.Proofs.YtfcidfljidkcaaaDoor.b8 e3, Go.Proofs.YtfcidfljidkcaaaDoor.b8 e4, .slice A63 m63 C63] : List Value).toArray), (63, .int .i64 0), (13, .pointer (some ⟨b13, 0, none⟩))] ∧ (rows3.length = p.threads.length ∧ (∀ r ∈ rows3, r.length = 1)) ∧ Own w0 none w ((.tree S43 h [Go.Proofs.YtfcidfljidkcaaaDoor.b8 e1, Go.Proofs.YtfcidfljidkcaaaDoor.b8 e2, Go.Proofs.YtfcidfljidkcaaaDoor.b8 e3, Go.Proofs.YtfcidfljidkcaaaDoor.b8 e4, .slice A63 m63 C63] p.cond) :: (.rws 46 1 (.slice TA3 p.threads.length TC3) rows3) :: (.grove S33 rows3 p.threads) :: (.rws 5 1 (.slice IA3 p.init.length IC3) (p.init.map fun x => [Go.Proofs.YtfcidfljidkcaaaDoor.b8 x])) :: (.rws 9 1 (.slice LA3 p.locs.length LC3) (p.locs.map fun s => [.string s])) :: (.blk b13 zeroPr 29) :: rs)) (by repeat (first | exact SubR.nil | (apply SubR.cons; · rfl))) ?_ (fun hJ => ?_)
  rotate_left
  ·
   refine eTwo (k := 3) (i := 2) (j := 9) (by kernel_rfl) F rfl rfl rfl rfl ?_ ?_
   ·
    refine oCall Tryd.call9 F rfl rfl (back_any A C T p.threads.length p.threads.length _ (hA.own H) (by omega) hT hTn.symm) ?_
    rintro e w ⟨b58, rfl, H2⟩
    replace H := H.join H2; clear H2
    refine ⟨_, rfl, ?_⟩
    clear F a; intro a F
    refine eKeep (H.sel [1, 2, 3, 4, 5, 6, 7, 8, 9] rfl rfl) ?_
    refine eTwo (k := 4) (i := 4) (j := 9) (by kernel_rfl) F rfl rfl rfl rfl ?_ ?_
    ·
     refine oCall Tryd.call9 F rfl rfl (back_any B D L p.locs.length p.locs.length _ (hB.own H) (by omega) hL hLn.symm) ?_
     rintro e w ⟨b60, rfl, H2⟩
     replace H := H.join H2; clear H2
     refine ⟨_, rfl, ?_⟩
     clear F a; intro a F
     refine eKeep (H.sel [2, 3, 4, 5, 6, 7, 8, 9, 10] rfl rfl) ?_
     refine eTwo (k := 5) (i := 5) (j := 9) (by kernel_rfl) F rfl rfl rfl rfl ?_ ?_
     ·
      refine oCall Tryd.call6 F rfl rfl (turn_goodB _ p LA2 LC2 IA2 IC2 (some ⟨bQ, oQ, none⟩) TC2 h _ _ _ T _ _ L _ (outIn (H.sel [4, 5, 6, 7, 8] rfl rfl) hrl hr1 hzq) (hN.own H) h0 hsl hT hL (ints_blk (H.whole 1 rfl)) (ints_blk (H.whole 0 rfl))) ?_
      rintro e w ⟨v61, rfl, h61⟩
      obtain ⟨LA3, LC3, IA3, IC3, TA3, TC3, rows3, S33, ccs3, S43, rfl, hrl3, hr13, H2⟩ := h61
      obtain ⟨e1, e2, e3, e4, A63, m63, C63, rfl⟩ := condShape (H2.pred 0 _ rfl : TreeIn S43 _ h ccs3 p.cond).at
      replace H := H.join H2; clear H2
      refine ⟨_, rfl, ?_⟩
      clear F a; intro a F
      refine eKeep (H.sel [7, 8, 9, 10, 11, 12, 13, 14, 15] rfl rfl) ?_
      refine eTakeF (k := 6) (i := 6) rfl (by kernel_rfl) F rfl rfl rfl (fun w => rMv F rfl) (H.sel [7, 8, 9, 10, 11, 12, 13, 14, 15] rfl rfl) (fun _ _ _ h => h) ?_;clear F a;intro a F
      refine eTakeF (k := 7) (i := 7) rfl (by kernel_rfl) F rfl rfl rfl (fun w => rExt F rfl rfl) (H.sel [7, 8, 9, 10, 11, 12, 13, 14, 15] rfl rfl) (fun _ _ _ h => h) ?_;clear F a;intro a F
      refine eTakeF (k := 8) (i := 8) rfl (by kernel_rfl) F rfl rfl rfl (fun w => rExt F rfl rfl) (H.sel [7, 8, 9, 10, 11, 12, 13, 14, 15] rfl rfl) (fun _ _ _ h => h) ?_;clear F a;intro a F
      refine eOne (k := 9) (i := 9) rfl (by kernel_rfl) F rfl (oAl H Tryd.zeroValue29 F rfl ?_)
      clear F a H; intro b13 a w F H
      refine eKeep (H.sel [8, 9, 10, 11, 12, 13, 14, 15, 16] rfl rfl) ?_
      exact eGo hJ (by kernel_rfl) _ ⟨LA3, LC3, IA3, IC3, TA3, TC3, rows3, S33, e1, e2, e3, e4, A63, m63, C63, S43, b13, rfl, ⟨by assumption, by assumption⟩, H.sel [1, 2, 3, 4, 5, 0, 8, 9, 10, 11, 12, 13, 14, 15, 16] rfl rfl⟩ (F.to (by repeat (first | exact trivial | refine Le.cons rfl ?_)))
     refine oAl H Tryd.zeroValue29 F rfl ?_
     clear F a H; intro b13 a w F H
     refine eKeep (H.sel [3, 4, 5, 6, 7, 8, 9, 10, 11] rfl rfl) ?_
     refine eOne (k := 6) (i := 5) rfl (by kernel_rfl) F rfl (oCall Tryd.call6 F rfl rfl (turn_goodB _ p LA2 LC2 IA2 IC2 (some ⟨bQ, oQ, none⟩) TC2 h _ _ _ T _ _ L _ (outIn (H.sel [5, 6, 7, 8, 9] rfl rfl) hrl hr1 hzq) (hN.own H) h0 hsl hT hL (ints_blk (H.whole 2 rfl)) (ints_blk (H.whole 1 rfl))) ?_)
     rintro e w ⟨v61, rfl, h61⟩
     obtain ⟨LA3, LC3, IA3, IC3, TA3, TC3, rows3, S33, ccs3, S43, rfl, hrl3, hr13, H2⟩ := h61
     obtain ⟨e1, e2, e3, e4, A63, m63, C63, rfl⟩ := condShape (H2.pred 0 _ rfl : TreeIn S43 _ h ccs3 p.cond).at
     replace H := H.join H2; clear H2
     refine ⟨_, rfl, ?_⟩
     clear F a; intro a F
     refine eKeep (H.sel [8, 9, 10, 11, 12, 13, 14, 15, 16] rfl rfl) ?_
     refine eTakeF (k := 7) (i := 6) rfl (by kernel_rfl) F rfl rfl rfl (fun w => rMv F rfl) (H.sel [8, 9, 10, 11, 12, 13, 14, 15, 16] rfl rfl) (fun _ _ _ h => h) ?_;clear F a;intro a F
     refine eTakeF (k := 8) (i := 7) rfl (by kernel_rfl) F rfl rfl rfl (fun w => rExt F rfl rfl) (H.sel [8, 9, 10, 11, 12, 13, 14, 15, 16] rfl rfl) (fun _ _ _ h => h) ?_;clear F a;intro a F
     refine eTakeF (k := 9) (i := 8) rfl (by kernel_rfl) F rfl rfl rfl (fun w => rExt F rfl rfl) (H.sel [8, 9, 10, 11, 12, 13, 14, 15, 16] rfl rfl) (fun _ _ _ h => h) ?_;clear F a;intro a F
     exact eGo hJ (by kernel_rfl) _ ⟨LA3, LC3, IA3, IC3, TA3, TC3, rows3, S33, e1, e2, e3, e4, A63, m63, C63, S43, b13, rfl, ⟨by assumption, by assumption⟩, H.sel [0, 1, 2, 3, 4, 5, 8, 9, 10, 11, 12, 13, 14, 15, 16] rfl rfl⟩ (F.to (by repeat (first | exact trivial | refine Le.cons rfl ?_)))
    refine oAl H Tryd.zeroValue29 F rfl ?_
    clear F a H; intro b13 a w F H
    refine eKeep (H.sel [2, 3, 4, 5, 6, 7, 8, 9, 10] rfl rfl) ?_
    refine eOne (k := 5) (i := 4) rfl (by kernel_rfl) F rfl (oCall Tryd.call9 F rfl rfl (back_any B D L p.locs.length p.locs.length _ (hB.own H) (by omega) hL hLn.symm) ?_)
    rintro e w ⟨b60, rfl, H2⟩
    replace H := H.join H2; clear H2
    refine ⟨_, rfl, ?_⟩
    clear F a; intro a F
    refine eKeep (H.sel [3, 4, 5, 6, 7, 8, 9, 10, 11] rfl rfl) ?_
    refine eOne (k := 6) (i := 5) rfl (by kernel_rfl) F rfl (oCall Tryd.call6 F rfl rfl (turn_goodB _ p LA2 LC2 IA2 IC2 (some ⟨bQ, oQ, none⟩) TC2 h _ _ _ T _ _ L _ (outIn (H.sel [5, 6, 7, 8, 9] rfl rfl) hrl hr1 hzq) (hN.own H) h0 hsl hT hL (ints_blk (H.whole 2 rfl)) (ints_blk (H.whole 0 rfl))) ?_)
    rintro e w ⟨v61, rfl, h61⟩
    obtain ⟨LA3, LC3, IA3, IC3, TA3, TC3, rows3, S33, ccs3, S43, rfl, hrl3, hr13, H2⟩ := h61
    obtain ⟨e1, e2, e3, e4, A63, m63, C63, rfl⟩ := condShape (H2.pred 0 _ rfl : TreeIn S43 _ h ccs3 p.cond).at
    replace H := H.join H2; clear H2
    refine ⟨_, rfl, ?_⟩
    clear F a; intro a F
    refine eKeep (H.sel [8, 9, 10, 11, 12, 13, 14, 15, 16] rfl rfl) ?_
    refine eTakeF (k := 7) (i := 6) rfl (by kernel_rfl) F rfl rfl rfl (fun w => rMv F rfl) (H.sel [8, 9, 10, 11, 12, 13, 14, 15, 16] rfl rfl) (fun _ _ _ h => h) ?_;clear F a;intro a F
    refine eTakeF (k := 8) (i := 7) rfl (by kernel_rfl) F rfl rfl rfl (fun w => rExt F rfl rfl) (H.sel [8, 9, 10, 11, 12, 13, 14, 15, 16] rfl rfl) (fun _ _ _ h => h) ?_;clear F a;intro a F
    refine eTakeF (k := 9) (i := 8) rfl (by kernel_rfl) F rfl rfl rfl (fun w => rExt F rfl rfl) (H.sel [8, 9, 10, 11, 12, 13, 14, 15, 16] rfl rfl) (fun _ _ _ h => h) ?_;clear F a;intro a F
    exact eGo hJ (by kernel_rfl) _ ⟨LA3, LC3, IA3, IC3, TA3, TC3, rows3, S33, e1, e2, e3, e4, A63, m63, C63, S43, b13, rfl, ⟨by assumption, by assumption⟩, H.sel [0, 1, 2, 3, 4, 6, 8, 9, 10, 11, 12, 13, 14, 15, 16] rfl rfl⟩ (F.to (by repeat (first | exact trivial | refine Le.cons rfl ?_)))
   refine oAl H Tryd.zeroValue29 F rfl ?_
   clear F a H; intro b13 a w F H
   refine eKeep (H.sel [1, 2, 3, 4, 5, 6, 7, 8, 9] rfl rfl) ?_
   refine eOne (k := 4) (i := 2) rfl (by kernel_rfl) F rfl (oCall Tryd.call9 F rfl rfl (back_any A C T p.threads.length p.threads.length _ (hA.own H) (by omega) hT hTn.symm) ?_)
   rintro e w ⟨b58, rfl, H2⟩
   replace H := H.join H2; clear H2
   refine ⟨_, rfl, ?_⟩
   clear F a; intro a F
   refine eKeep (H.sel [2, 3, 4, 5, 6, 7, 8, 9, 10] rfl rfl) ?_
   refine eOne (k := 5) (i := 4) rfl (by kernel_rfl) F rfl (oCall Tryd.call9 F rfl rfl (back_any B D L p.locs.length p.locs.length _ (hB.own H) (by omega) hL hLn.symm) ?_)
   rintro e w ⟨b60, rfl, H2⟩
   replace H := H.join H2; clear H2
   refine ⟨_, rfl, ?_⟩
   clear F a; intro a F
   refine eKeep (H.sel [3, 4, 5, 6, 7, 8, 9, 10, 11] rfl rfl) ?_
   refine eOne (k := 6) (i := 5) rfl (by kernel_rfl) F rfl (oCall Tryd.call6 F rfl rfl (turn_goodB _ p LA2 LC2 IA2 IC2 (some ⟨bQ, oQ, none⟩) TC2 h _ _ _ T _ _ L _ (outIn (H.sel [5, 6, 7, 8, 9] rfl rfl) hrl hr1 hzq) (hN.own H) h0 hsl hT hL (ints_blk (H.whole 1 rfl)) (ints_blk (H.whole 0 rfl))) ?_)
   rintro e w ⟨v61, rfl, h61⟩
   obtain ⟨LA3, LC3, IA3, IC3, TA3, TC3, rows3, S33, ccs3, S43, rfl, hrl3, hr13, H2⟩ := h61
   obtain ⟨e1, e2, e3, e4, A63, m63, C63, rfl⟩ := condShape (H2.pred 0 _ rfl : TreeIn S43 _ h ccs3 p.cond).at
   replace H := H.join H2; clear H2
   refine ⟨_, rfl, ?_⟩
   clear F a; intro a F
   refine eKeep (H.sel [8, 9, 10, 11, 12, 13, 14, 15, 16] rfl rfl) ?_
   refine eTakeF (k := 7) (i := 6) rfl (by kernel_rfl) F rfl rfl rfl (fun w => rMv F rfl) (H.sel [8, 9, 10, 11, 12, 13, 14, 15, 16] rfl rfl) (fun _ _ _ h => h) ?_;clear F a;intro a F
   refine eTakeF (k := 8) (i := 7) rfl (by kernel_rfl) F rfl rfl rfl (fun w => rExt F rfl rfl) (H.sel [8, 9, 10, 11, 12, 13, 14, 15, 16] rfl rfl) (fun _ _ _ h => h) ?_;clear F a;intro a F
   refine eTakeF (k := 9) (i := 8) rfl (by kernel_rfl) F rfl rfl rfl (fun w => rExt F rfl rfl) (H.sel [8, 9, 10, 11, 12, 13, 14, 15, 16] rfl rfl) (fun _ _ _ h => h) ?_;clear F a;intro a F
   exact eGo hJ (by kernel_rfl) _ ⟨LA3, LC3, IA3, IC3, TA3, TC3, rows3, S33, e1, e2, e3, e4, A63, m63, C63, S43, b13, rfl, ⟨by assumption, by assumption⟩, H.sel [0, 1, 2, 3, 4, 7, 8, 9, 10, 11, 12, 13, 14, 15, 16] rfl rfl⟩ (F.to (by repeat (first | exact trivial | refine Le.cons rfl ?_)))
  clear F H; intro ups a w hI F
  obtain ⟨LA3, LC3, IA3, IC3, TA3, TC3, rows3, S33, e1, e2, e3, e4, A63, m63, C63, S43, b13, rfl, hfl0, H⟩ := hI
  refine eOne (k := 10) (i := 10) rfl (by kernel_rfl) F rfl (oSr H 5 ?si F rfl rfl ?s1 rfl rfl ?_)
  case si => exact info_size Tryd.sizeOf29
  case s1 => first | rfl | (repeat (first | exact one_nil | (apply one_cons; · first | rfl | assumption | exact one_bif rfl rfl)))
  clear H; intro w H
  refine ePartO (by kernel_rfl) H ?_
  refine eTakeF (k := 11) (i := 11) rfl (by kernel_rfl) F rfl rfl rfl (fun w => rAs F rfl) (H.sel [0, 1, 2, 3, 4, 5, 6, 7, 8, 9, 10, 11, 12, 13, 14] rfl rfl) (fun _ _ _ h => h) ?_;clear F a;intro a F
  refine eNil (k := 12) (by kernel_rfl) ?_
  refine hK15 _ _ ?_; clear hK15
  refine cSeq (fun K16 hK16 => ?_)
  refine cRegRO (by kernel_rfl) H ?_
  replace H := H.drew
  refine eTake (k := 0) (i := 0) rfl (by kernel_rfl) F rfl rfl rfl rfl (fun w H => rLrB Tryd.underlying34 rfl Tryd.sizeOf34 F rfl (H.whole 6 rfl)) (H.sel [0, 1, 2, 3, 4, 5, 6, 7, 8, 9, 10, 11, 12, 13, 14] rfl rfl) (fun _ _ _ h => h) ?_;clear F a;intro a F
  refine eTakeF (k := 1) (i := 1) rfl (by kernel_rfl) F rfl rfl rfl (fun w => rMv F rfl) (H.sel [0, 1, 2, 3, 4, 5, 6, 7, 8, 9, 10, 11, 12, 13, 14] rfl rfl) (fun _ _ _ h => h) ?_;clear F a;intro a F
  refine eTakeF (k := 2) (i := 3) rfl (by kernel_rfl) F rfl rfl rfl (fun w => rMv F rfl) (H.sel [0, 1, 2, 3, 4, 5, 6, 7, 8, 9, 10, 11, 12, 13, 14] rfl rfl) (fun _ _ _ h => h) ?_;clear F a;intro a F
  refine eJoin F H [2, 4, 5, 9, 11, 13, 14] 10 [true, true, true, true, true, true, true, true, true, true, false, false] (fun rs ups w => ∃ b15, ups = [(71, .agg (bs 38 f).toArray), (72, .int .i64 0), (15, .pointer (some ⟨b15, 0, none⟩))] ∧ Own w0 none w ((.blk b15 (bs 38 zb) 34) :: rs)) (by repeat (first | exact SubR.nil | (apply SubR.cons; · rfl))) ?_ (fun hJ => ?_)
  rotate_left
  ·
   refine eTwo (k := 3) (i := 2) (j := 9) (by kernel_rfl) F rfl rfl rfl rfl ?_ ?_
   ·
    refine oCall Tryd.call9 F rfl rfl (back_any A C T p.threads.length p.threads.length _ (hA.own H) (by omega) hT hTn.symm) ?_
    rintro e w ⟨b67, rfl, H2⟩
    replace H := H.join H2; clear H2
    refine ⟨_, rfl, ?_⟩
    clear F a; intro a F
    refine eKeep (H.sel [1, 2, 3, 4, 5, 6, 7, 8, 9, 10, 11, 12, 13, 14, 15] rfl rfl) ?_
    refine eTwo (k := 4) (i := 4) (j := 9) (by kernel_rfl) F rfl rfl rfl rfl ?_ ?_
    ·
     refine oCall Tryd.call9 F rfl rfl (back_any B D L p.locs.length p.locs.length _ (hB.own H) (by omega) hL hLn.symm) ?_
     rintro e w ⟨b69, rfl, H2⟩
     replace H := H.join H2; clear H2
     refine ⟨_, rfl, ?_⟩
     clear F a; intro a F
     refine eKeep (H.sel [2, 3, 4, 5, 6, 7, 8, 9, 10, 11, 12, 13, 14, 15, 16] rfl rfl) ?_
     refine eTwo (k := 5) (i := 5) (j := 9) (by kernel_rfl) F rfl rfl rfl rfl ?_ ?_
     ·
      refine oCall Tryd.call7 F rfl rfl (finalT_back f _ _ T _ _ L _ (ints_blk (H.whole 1 rfl)) (ints_blk (H.whole 0 rfl)) hT hL h4 h6) ?_
      rintro e w ⟨rfl, hb⟩
      replace H := H.grow hb; clear hb
      refine ⟨_, rfl, ?_⟩
      clear F a; intro a F
      refine eKeep (H.sel [2, 3, 4, 5, 6, 7, 8, 9, 10, 11, 12, 13, 14, 15, 16] rfl rfl) ?_
      refine eTakeF (k := 6) (i := 6) rfl (by kernel_rfl) F rfl rfl rfl (fun w => rMv F rfl) (H.sel [2, 3, 4, 5, 6, 7, 8, 9, 10, 11, 12, 13, 14, 15, 16] rfl rfl) (fun _ _ _ h => h) ?_;clear F a;intro a F
      refine eTakeF (k := 7) (i := 7) rfl (by kernel_rfl) F rfl rfl rfl (fun w => rExt F rfl rfl) (H.sel [2, 3, 4, 5, 6, 7, 8, 9, 10, 11, 12, 13, 14, 15, 16] rfl rfl) (fun _ _ _ h => h) ?_;clear F a;intro a F
      refine eTakeF (k := 8) (i := 8) rfl (by kernel_rfl) F rfl rfl rfl (fun w => rExt F rfl rfl) (H.sel [2, 3, 4, 5, 6, 7, 8, 9, 10, 11, 12, 13, 14, 15, 16] rfl rfl) (fun _ _ _ h => h) ?_;clear F a;intro a F
      refine eOne (k := 9) (i := 9) rfl (by kernel_rfl) F rfl (oAlB H zB34 F rfl ?_)
      clear F a H; intro b15 a w F H
      refine eKeep (H.sel [3, 4, 5, 6, 7, 8, 9, 10, 11, 12, 13, 14, 15, 16, 17] rfl rfl) ?_
      exact eGo hJ (by kernel_rfl) _ ⟨b15, rfl, H.sel [0, 3, 4, 5, 6, 7, 8, 9, 10, 11, 12, 13, 14, 15, 16, 17] rfl rfl⟩ (F.to (by repeat (first | exact trivial | refine Le.cons rfl ?_)))
     refine oAlB H zB34 F rfl ?_
     clear F a H; intro b15 a w F H
     refine eKeep (H.sel [3, 4, 5, 6, 7, 8, 9, 10, 11, 12, 13, 14, 15, 16, 17] rfl rfl) ?_
     refine eOne (k := 6) (i := 5) rfl (by kernel_rfl) F rfl (oCall Tryd.call7 F rfl rfl (finalT_back f _ _ T _ _ L _ (ints_blk (H.whole 2 rfl)) (ints_blk (H.whole 1 rfl)) hT hL h4 h6) ?_)
     rintro e w ⟨rfl, hb⟩
     replace H := H.grow hb; clear hb
     refine ⟨_, rfl, ?_⟩
     clear F a; intro a F
     refine eKeep (H.sel [3, 4, 5, 6, 7, 8, 9, 10, 11, 12, 13, 14, 15, 16, 17] rfl rfl) ?_
     refine eTakeF (k := 7) (i := 6) rfl (by kernel_rfl) F rfl rfl rfl (fun w => rMv F rfl) (H.sel [3, 4, 5, 6, 7, 8, 9, 10, 11, 12, 13, 14, 15, 16, 17] rfl rfl) (fun _ _ _ h => h) ?_;clear F a;intro a F
     refine eTakeF (k := 8) (i := 7) rfl (by kernel_rfl) F rfl rfl rfl (fun w => rExt F rfl rfl) (H.sel [3, 4, 5, 6, 7, 8, 9, 10, 11, 12, 13, 14, 15, 16, 17] rfl rfl) (fun _ _ _ h => h) ?_;clear F a;intro a F
     refine eTakeF (k := 9) (i := 8) rfl (by kernel_rfl) F rfl rfl rfl (fun w => rExt F rfl rfl) (H.sel [3, 4, 5, 6, 7, 8, 9, 10, 11, 12, 13, 14, 15, 16, 17] rfl rfl) (fun _ _ _ h => h) ?_;clear F a;intro a F
     exact eGo hJ (by kernel_rfl) _ ⟨b15, rfl, H.sel [0, 3, 4, 5, 6, 7, 8, 9, 10, 11, 12, 13, 14, 15, 16, 17] rfl rfl⟩ (F.to (by repeat (first | exact trivial | refine Le.cons rfl ?_)))
    refine oAlB H zB34 F rfl ?_
    clear F a H; intro b15 a w F H
    refine eKeep (H.sel [2, 3, 4, 5, 6, 7, 8, 9, 10, 11, 12, 13, 14, 15, 16] rfl rfl) ?_
    refine eOne (k := 5) (i := 4) rfl (by kernel_rfl) F rfl (oCall Tryd.call9 F rfl rfl (back_any B D L p.locs.length p.locs.length _ (hB.own H) (by omega) hL hLn.symm) ?_)
    rintro e w ⟨b69, rfl, H2⟩
    replace H := H.join H2; clear H2
    refine ⟨_, rfl, ?_⟩
    clear F a; intro a F
    refine eKeep (H.sel [3, 4, 5, 6, 7, 8, 9, 10, 11, 12, 13, 14, 15, 16, 17] rfl rfl) ?_
    refine eOne (k := 6) (i := 5) rfl (by kernel_rfl) F rfl (oCall Tryd.call7 F rfl rfl (finalT_back f _ _ T _ _ L _ (ints_blk (H.whole 2 rfl)) (ints_blk (H.whole 0 rfl)) hT hL h4 h6) ?_)
    rintro e w ⟨rfl, hb⟩
    replace H := H.grow hb; clear hb
    refine ⟨_, rfl, ?_⟩
    clear F a; intro a F
    refine eKeep (H.sel [3, 4, 5, 6, 7, 8, 9, 10, 11, 12, 13, 14, 15, 16, 17] rfl rfl) ?_
    refine eTakeF (k := 7) (i := 6) rfl (by kernel_rfl) F rfl rfl rfl (fun w => rMv F rfl) (H.sel [3, 4, 5, 6, 7, 8, 9, 10, 11, 12, 13, 14, 15, 16, 17] rfl rfl) (fun _ _ _ h => h) ?_;clear F a;intro a F
    refine eTakeF (k := 8) (i := 7) rfl (by kernel_rfl) F rfl rfl rfl (fun w => rExt F rfl rfl) (H.sel [3, 4, 5, 6, 7, 8, 9, 10, 11, 12, 13, 14, 15, 16, 17] rfl rfl) (fun _ _ _ h => h) ?_;clear F a;intro a F
    refine eTakeF (k := 9) (i := 8) rfl (by kernel_rfl) F rfl rfl rfl (fun w => rExt F rfl rfl) (H.sel [3, 4, 5, 6, 7, 8, 9, 10, 11, 12, 13, 14, 15, 16, 17] rfl rfl) (fun _ _ _ h => h) ?_;clear F a;intro a F
    exact eGo hJ (by kernel_rfl) _ ⟨b15, rfl, H.sel [1, 3, 4, 5, 6, 7, 8, 9, 10, 11, 12, 13, 14, 15, 16, 17] rfl rfl⟩ (F.to (by repeat (first | exact trivial | refine Le.cons rfl ?_)))
   refine oAlB H zB34 F rfl ?_
   clear F a H; intro b15 a w F H
   refine eKeep (H.sel [1, 2, 3, 4, 5, 6, 7, 8, 9, 10, 11, 12, 13, 14, 15] rfl rfl) ?_
   refine eOne (k := 4) (i := 2) rfl (by kernel_rfl) F rfl (oCall Tryd.call9 F rfl rfl (back_any A C T p.threads.length p.threads.length _ (hA.own H) (by omega) hT hTn.symm) ?_)
   rintro e w ⟨b67, rfl, H2⟩
   replace H := H.join H2; clear H2
   refine ⟨_, rfl, ?_⟩
   clear F a; intro a F
   refine eKeep (H.sel [2, 3, 4, 5, 6, 7, 8, 9, 10, 11, 12, 13, 14, 15, 16] rfl rfl) ?_
   refine eOne (k := 5) (i := 4) rfl (by kernel_rfl) F rfl (oCall Tryd.call9 F rfl rfl (back_any B D L p.locs.length p.locs.length _ (hB.own H) (by omega) hL hLn.symm) ?_)
   rintro e w ⟨b69, rfl, H2⟩
   replace H := H.join H2; clear H2
   refine ⟨_, rfl, ?_⟩
   clear F a; intro a F
   refine eKeep (H.sel [3, 4, 5, 6, 7, 8, 9, 10, 11, 12, 13, 14, 15, 16, 17] rfl rfl) ?_
   refine eOne (k := 6) (i := 5) rfl (by kernel_rfl) F rfl (oCall Tryd.call7 F rfl rfl (finalT_back f _ _ T _ _ L _ (ints_blk (H.whole 1 rfl)) (ints_blk (H.whole 0 rfl)) hT hL h4 h6) ?_)
   rintro e w ⟨rfl, hb⟩
   replace H := H.grow hb; clear hb
   refine ⟨_, rfl, ?_⟩
   clear F a; intro a F
   refine eKeep (H.sel [3, 4, 5, 6, 7, 8, 9, 10, 11, 12, 13, 14, 15, 16, 17] rfl rfl) ?_
   refine eTakeF (k := 7) (i := 6) rfl (by kernel_rfl) F rfl rfl rfl (fun w => rMv F rfl) (H.sel [3, 4, 5, 6, 7, 8, 9, 10, 11, 12, 13, 14, 15, 16, 17] rfl rfl) (fun _ _ _ h => h) ?_;clear F a;intro a F
   refine eTakeF (k := 8) (i := 7) rfl (by kernel_rfl) F rfl rfl rfl (fun w => rExt F rfl rfl) (H.sel [3, 4, 5, 6, 7, 8, 9, 10, 11, 12, 13, 14, 15, 16, 17] rfl rfl) (fun _ _ _ h => h) ?_;clear F a;intro a F
   refine eTakeF (k := 9) (i := 8) rfl (by kernel_rfl) F rfl rfl rfl (fun w => rExt F rfl rfl) (H.sel [3, 4, 5, 6, 7, 8, 9, 10, 11, 12, 13, 14, 15, 16, 17] rfl rfl) (fun _ _ _ h => h) ?_;clear F a;intro a F
   exact eGo hJ (by kernel_rfl) _ ⟨b15, rfl, H.sel [2, 3, 4, 5, 6, 7, 8, 9, 10, 11, 12, 13, 14, 15, 16, 17] rfl rfl⟩ (F.to (by repeat (first | exact trivial | refine Le.cons rfl ?_)))
  clear F H; intro ups a w hI F
  obtain ⟨b15, rfl, H⟩ := hI
  refine eOne (k := 10) (i := 10) rfl (by kernel_rfl) F rfl (oSrB H 0 Tryd.sizeOf34 F rfl rfl rfl (by omega) ?_)
  clear H; intro w H
  rw [lay_all] at H
  refine ePartO (by kernel_rfl) H ?_
  refine eTakeF (k := 11) (i := 11) rfl (by kernel_rfl) F rfl rfl rfl (fun w => rAs F rfl) (H.sel [0, 1, 2, 3, 4, 5, 6, 7, 8, 9, 10, 11, 12, 13, 14, 15] rfl rfl) (fun _ _ _ h => h) ?_;clear F a;intro a F
  refine eNil (k := 12) (by kernel_rfl) ?_
  refine hK16 _ _ ?_; clear hK16
  refine cSeq (fun K17 hK17 => ?_)
  refine cSeq (fun K18 hK18 => ?_)
  refine cReg ?_
  refine sMv F rfl rfl rfl ?_;clear F a;intro a F
  refine sBin F rfl rfl rfl rfl bNeq ?_;clear F a;intro a F
  refine sMv F rfl rfl rfl ?_;clear F a;intro a F
  refine F.split 75 rfl ?_ ?_ <;> (clear F; intro h75 F)
  ·
   replace h75 := bneT h75
   exact absurd h75 (by decide)
  replace h75 := bneF h75
  refine sMv F rfl rfl rfl ?_;clear F a;intro a F
  refine sBin F rfl rfl rfl rfl bNeq ?_;clear F a;intro a F
  refine sPk F rfl rfl rfl rfl ?_;clear F a;intro a F
  refine sMv F rfl rfl rfl ?_;clear F a;intro a F
  refine F.split 79 rfl ?_ ?_ <;> (clear F; intro h79 F)
  ·
   replace h79 := bneT h79
   exact absurd h79 (by decide)
  replace h79 := bneF h79
  refine sLr Tryd.underlying29 rfl ?si F rfl rfl rfl (H.whole 15 rfl) ?_
  case si => exact info_size Tryd.sizeOf29
  clear F a; intro a F
  refine sLr Tryd.underlying29 rfl ?si F rfl rfl rfl (H.range 6 rfl _ 10) ?_
  case si => exact info_size Tryd.sizeOf29
  clear F a; intro a F
  refine sCall Tryd.call10 F rfl rfl rfl (sameProg_any _ _ p LA LC IA IC (some ⟨bT, oT, none⟩) TC h _ LA3 LC3 IA3 IC3 TA3 TC3 h _ _ (hp.prog.own H) (outIn (H.sel [1, 2, 3, 4, 5] rfl rfl) hfl0.1 hfl0.2 hzp)) ?_
  rintro e w ⟨rfl, hb⟩
  replace H := H.grow hb; clear hb
  refine ⟨_, rfl, ?_⟩
  clear F a; intro a F
  refine sNot F rfl rfl rfl ?_;clear F a;intro a F
  refine sPk F rfl rfl rfl rfl ?_;clear F a;intro a F
  refine sMv F rfl rfl rfl ?_;clear F a;intro a F
  refine F.split 85 rfl ?_ ?_ <;> (clear F; intro h85 F)
  ·
   replace h85 := notT h85
   exact absurd h85 (by decide)
  replace h85 := notF h85
  refine sLrB Tryd.underlying34 rfl Tryd.sizeOf34 F rfl rfl rfl (H.whole 0 rfl) ?_;clear F a;intro a F
  refine sLrB Tryd.underlying34 rfl Tryd.sizeOf34 F rfl rfl rfl (H.whole 14 rfl) ?_;clear F a;intro a F
  refine sBin F rfl rfl rfl rfl (bNeY eT34 gT34 rfl) ?_;clear F a;intro a F
  refine sPk F rfl rfl rfl rfl ?_;clear F a;intro a F
  refine sNil ?_
  refine hK18 _ _ ?_; clear hK18
  refine cIf F rfl (fun h89 => ?_) (fun h89 => ?_)
  ·
   replace h89 := notT h89
   rw [same_iff.2 (fun i _ => rfl)] at h89; cases h89
  replace h89 := notF h89
  refine wp_skip ?_
  refine hK17 _ _ ?_; clear hK17
  refine cSeq (fun K19 hK19 => ?_)
  refine cSeq (fun K20 hK20 => ?_)
  refine cReg ?_
  refine sAs F rfl rfl rfl ?_;clear F a;intro a F
  refine sNil ?_
  refine hK20 _ _ ?_; clear hK20
  refine wp_block ?_
  refine cLoopR [2, 4, 5, 9, 11] (fun m ups w => ∃ t : Nat, m = p.threads.length - t ∧ ups = [(17, .int .i64 ((t : Nat) : Int))] ∧ t ≤ p.threads.length ∧ Own w0 none w [.blk b11 (bs 38 (finT f T L)) 34, .blk b9 ([.string p.name, .slice LA2 (turnPr h p T L).locs.length LC2, .slice IA2 (turnPr h p T L).init.length IC2, .slice (some ⟨bQ, oQ, none⟩) (turnPr h p T L).threads.length TC2, Go.Proofs.YtfcidfljidkcaaaDoor.b8 p.ask, Go.Proofs.YtfcidfljidkcaaaDoor.b8 d1, Go.Proofs.YtfcidfljidkcaaaDoor.b8 d2, Go.Proofs.YtfcidfljidkcaaaDoor.b8 d3, Go.Proofs.YtfcidfljidkcaaaDoor.b8 d4, .slice A6 m6 C6]) 29, .tree S4 h [Go.Proofs.YtfcidfljidkcaaaDoor.b8 d1, Go.Proofs.YtfcidfljidkcaaaDoor.b8 d2, Go.Proofs.YtfcidfljidkcaaaDoor.b8 d3, Go.Proofs.YtfcidfljidkcaaaDoor.b8 d4, .slice A6 m6 C6] (turnPr h p T L).cond, .rws 46 1 (.slice (some ⟨bQ, oQ, none⟩) (turnPr h p T L).threads.length TC2) rows, .grove S3 rows (turnPr h p T L).threads, .blk b5 (bs 38 f) 34, .blk b4 ([.string p.name, .slice LA p.locs.length LC, .slice IA p.init.length IC, .slice (some ⟨bT, oT, none⟩) p.threads.length TC, Go.Proofs.YtfcidfljidkcaaaDoor.b8 p.ask, Go.Proofs.YtfcidfljidkcaaaDoor.b8 a1, Go.Proofs.YtfcidfljidkcaaaDoor.b8 a2, Go.Proofs.YtfcidfljidkcaaaDoor.b8 a3, Go.Proofs.YtfcidfljidkcaaaDoor.b8 a4, .slice a5 a6 a7]) 29]) F (p.threads.length) [(17, .int .i64 ((0 : Nat) : Int))] (by repeat (first | exact SubR.nil | (apply SubR.cons; · rfl))) ?_ ?_ ?_
  · exact ⟨0, rfl, rfl, by omega, H.sel [7, 8, 9, 10, 11, 14, 15] rfl rfl⟩
  · repeat (first | exact trivial | refine Le.cons rfl ?_)
  clear F
  clear H
  intro m ups a w hI F
  obtain ⟨t, rfl, rfl, ht, H⟩ := hI
  refine cSeq (fun K21 hK21 => ?_)
  refine cSeq (fun K22 hK22 => ?_)
  refine cReg ?_
  refine sMv F rfl rfl rfl ?_;clear F a;intro a F
  refine sMv F rfl rfl rfl ?_;clear F a;intro a F
  refine sLen Tryd.underlying35 F rfl rfl rfl ?_;clear F a;intro a F
  refine sBin F rfl rfl rfl rfl bLss ?_;clear F a;intro a F
  refine sNil ?_
  refine hK22 _ _ ?_; clear hK22
  refine cIf F rfl (fun h93 => ?_) (fun h93 => ?_)
  ·
   replace h93 := of_decide_eq_true h93
   have htl2 : t < p.threads.length := by omega
   obtain ⟨hx, hxn⟩ := idx_at hT htl2
   obtain ⟨bA, oA, rfl, hAx⟩ := intsZ_at hA hx
   obtain ⟨l, hl⟩ : ∃ l, p.threads[idxZ T t]? = some l := ⟨_, List.getElem?_eq_getElem hxn⟩
   obtain ⟨_, _, XT, XC, he, hTx, hTr, htl3, htc⟩ := hp.threads _ l hl
   cases he
   obtain ⟨r, hr⟩ : ∃ r, rows[t]? = some r := ⟨_, List.getElem?_eq_getElem (by omega)⟩
   have hlq : (turnPr h p T L).threads[t]? = some (l.map (turnI L)) := by rw [thr_atT hT htl2, hl]; rfl
   obtain ⟨BB, CC, rfl, _⟩ := (H.pred 4 _ rfl : groveP S3 _ rows (turnPr h p T L).threads) t r _ hr hlq
   refine wp_skip ?_
   refine hK21 _ _ ?_; clear hK21
   refine cSeq (fun K23 hK23 => ?_)
   refine wp_block ?_
   refine cSeq (fun K24 hK24 => ?_)
   refine cRegRO (by kernel_rfl) H ?_
   replace H := H.drew
   refine eTakeF (k := 0) (i := 0) rfl (by kernel_rfl) F rfl rfl rfl (fun w => rFa (f := 3) (k := 3) Tryd.underlying29 rfl Tryd.sizeOf24 rfl rfl F rfl) (H.sel [0, 1, 2, 3, 4, 5, 6] rfl rfl) (fun _ _ _ h => h) ?_;clear F a;intro a F
   refine eTake (k := 1) (i := 1) rfl (by kernel_rfl) F rfl rfl rfl rfl (fun w H => rLd Tryd.isAgg24 F rfl (H.cell 1 rfl rfl)) (H.sel [0, 1, 2, 3, 4, 5, 6] rfl rfl) (fun _ _ _ h => h) ?_;clear F a;intro a F
   refine eTakeF (k := 2) (i := 2) rfl (by kernel_rfl) F rfl rfl rfl (fun w => rMv F rfl) (H.sel [0, 1, 2, 3, 4, 5, 6] rfl rfl) (fun _ _ _ h => h) ?_;clear F a;intro a F
   refine eTakeF (k := 3) (i := 3) rfl (by kernel_rfl) F rfl rfl rfl (fun w => rIx Tryd.underlying24 Tryd.sizeOf46 F rfl rfl ?_) (H.sel [0, 1, 2, 3, 4, 5, 6] rfl rfl) (fun _ _ _ h => h) ?_
   focus (first | omega | decide | (simp; omega))
   clear F a; intro a F
   refine eTake (k := 4) (i := 4) rfl (by kernel_rfl) F rfl rfl rfl rfl (fun w H => rLd Tryd.isAgg46 F rfl (rowCell H 3 rfl hr1 hr)) (H.sel [0, 1, 2, 3, 4, 5, 6] rfl rfl) (fun _ _ _ h => h) ?_;clear F a;intro a F
   refine eTake (k := 5) (i := 5) rfl (by kernel_rfl) F rfl rfl rfl rfl (fun w H => rLen Tryd.underlying46 F rfl) (H.sel [0, 1, 2, 3, 4, 5, 6] rfl rfl) (fun _ _ _ h => h) ?_;clear F a;intro a F
   refine eTakeF (k := 6) (i := 6) rfl (by kernel_rfl) F rfl rfl rfl (fun w => rFa (f := 3) (k := 3) Tryd.underlying29 rfl Tryd.sizeOf24 rfl rfl F rfl) (H.sel [0, 1, 2, 3, 4, 5, 6] rfl rfl) (fun _ _ _ h => h) ?_;clear F a;intro a F
   refine eTake (k := 7) (i := 7) rfl (by kernel_rfl) F rfl rfl rfl rfl (fun w H => rLd Tryd.isAgg24 F rfl (H.cell 6 rfl rfl)) (H.sel [0, 1, 2, 3, 4, 5, 6] rfl rfl) (fun _ _ _ h => h) ?_;clear F a;intro a F
   refine eTakeF (k := 8) (i := 8) rfl (by kernel_rfl) F rfl rfl rfl (fun w => rMv F rfl) (H.sel [0, 1, 2, 3, 4, 5, 6] rfl rfl) (fun _ _ _ h => h) ?_;clear F a;intro a F
   refine eTakeF (k := 9) (i := 9) rfl (by kernel_rfl) F rfl rfl rfl (fun w => rMv F rfl) (H.sel [0, 1, 2, 3, 4, 5, 6] rfl rfl) (fun _ _ _ h => h) ?_;clear F a;intro a F
   refine eTakeF (k := 10) (i := 10) rfl (by kernel_rfl) F rfl rfl rfl (fun w => rIx Tryd.underlying35 Tryd.sizeOf3 F rfl rfl ?_) (H.sel [0, 1, 2, 3, 4, 5, 6] rfl rfl) (fun _ _ _ h => h) ?_
   focus (first | omega | decide | (simp; omega))
   clear F a; intro a F
   refine eTake (k := 11) (i := 11) rfl (by kernel_rfl) F rfl rfl rfl rfl (fun w H => rLd Tryd.isAgg3 F rfl (H.arg hAx)) (H.sel [0, 1, 2, 3, 4, 5, 6] rfl rfl) (fun _ _ _ h => h) ?_;clear F a;intro a F
   refine eTakeF (k := 12) (i := 12) rfl (by kernel_rfl) F rfl rfl rfl (fun w => rIx Tryd.underlying24 Tryd.sizeOf46 F rfl rfl ?_) (H.sel [0, 1, 2, 3, 4, 5, 6] rfl rfl) (fun _ _ _ h => h) ?_
   focus (first | omega | decide | (simp; omega))
   clear F a; intro a F
   refine eTake (k := 13) (i := 13) rfl (by kernel_rfl) F rfl rfl rfl rfl (fun w H => rLd Tryd.isAgg46 F rfl (H.arg hTx)) (H.sel [0, 1, 2, 3, 4, 5, 6] rfl rfl) (fun _ _ _ h => h) ?_;clear F a;intro a F
   refine eTake (k := 14) (i := 14) rfl (by kernel_rfl) F rfl rfl rfl rfl (fun w H => rLen Tryd.underlying46 F rfl) (H.sel [0, 1, 2, 3, 4, 5, 6] rfl rfl) (fun _ _ _ h => h) ?_;clear F a;intro a F
   refine eTakeF (k := 15) (i := 15) rfl (by kernel_rfl) F rfl rfl rfl (fun w => rBin F rfl rfl bNeq) (H.sel [0, 1, 2, 3, 4, 5, 6] rfl rfl) (fun _ _ _ h => h) ?_;clear F a;intro a F
   refine eTakeF (k := 16) (i := 16) rfl (by kernel_rfl) F rfl rfl rfl (fun w => rMv F rfl) (H.sel [0, 1, 2, 3, 4, 5, 6] rfl rfl) (fun _ _ _ h => h) ?_;clear F a;intro a F
   refine F.split 112 rfl ?_ ?_ <;> (clear F; intro h112 F)
   ·
    replace h112 := bneT h112
    exact absurd (by rw [List.length_map]) h112
   replace h112 := bneF h112
   refine eTakeF (k := 17) (i := 17) rfl (by kernel_rfl) F rfl rfl rfl (fun w => rMv F rfl) (H.sel [0, 1, 2, 3, 4, 5, 6] rfl rfl) (fun _ _ _ h => h) ?_;clear F a;intro a F
   refine eTakeF (k := 18) (i := 18) rfl (by kernel_rfl) F rfl rfl rfl (fun w => rFa (f := 0) (k := 0) Tryd.underlying34 rfl Tryd.sizeOf31 rfl rfl F rfl) (H.sel [0, 1, 2, 3, 4, 5, 6] rfl rfl) (fun _ _ _ h => h) ?_;clear F a;intro a F
   refine eTakeF (k := 19) (i := 19) rfl (by kernel_rfl) F rfl rfl rfl (fun w => rIaZ Tryd.underlying31 Tryd.sizeOf30 F rfl rfl ?_) (H.sel [0, 1, 2, 3, 4, 5, 6] rfl rfl) (fun _ _ _ h => h) ?_
   focus (first | omega | decide | (simp; omega))
   clear F a; intro a F
   refine eTake (k := 20) (i := 20) rfl (by kernel_rfl) F rfl rfl rfl rfl (fun w H => rLrB Tryd.underlying30 rfl Tryd.sizeOf30 F rfl (H.rangeB 0 _ 8 rfl (by omega))) (H.sel [0, 1, 2, 3, 4, 5, 6] rfl rfl) (fun _ _ _ h => h) ?_;clear F a;intro a F
   refine eTakeF (k := 21) (i := 21) rfl (by kernel_rfl) F rfl rfl rfl (fun w => rMv F rfl) (H.sel [0, 1, 2, 3, 4, 5, 6] rfl rfl) (fun _ _ _ h => h) ?_;clear F a;intro a F
   refine eTakeF (k := 22) (i := 22) rfl (by kernel_rfl) F rfl rfl rfl (fun w => rMv F rfl) (H.sel [0, 1, 2, 3, 4, 5, 6] rfl rfl) (fun _ _ _ h => h) ?_;clear F a;intro a F
   refine eTakeF (k := 23) (i := 23) rfl (by kernel_rfl) F rfl rfl rfl (fun w => rIx Tryd.underlying35 Tryd.sizeOf3 F rfl rfl ?_) (H.sel [0, 1, 2, 3, 4, 5, 6] rfl rfl) (fun _ _ _ h => h) ?_
   focus (first | omega | decide | (simp; omega))
   clear F a; intro a F
   refine eTake (k := 24) (i := 24) rfl (by kernel_rfl) F rfl rfl rfl rfl (fun w H => rLd Tryd.isAgg3 F rfl (H.arg hAx)) (H.sel [0, 1, 2, 3, 4, 5, 6] rfl rfl) (fun _ _ _ h => h) ?_;clear F a;intro a F
   refine eTakeF (k := 25) (i := 25) rfl (by kernel_rfl) F rfl rfl rfl (fun w => rFa (f := 0) (k := 0) Tryd.underlying34 rfl Tryd.sizeOf31 rfl rfl F rfl) (H.sel [0, 1, 2, 3, 4, 5, 6] rfl rfl) (fun _ _ _ h => h) ?_;clear F a;intro a F
   refine eTakeF (k := 26) (i := 26) rfl (by kernel_rfl) F rfl rfl rfl (fun w => rIaZ Tryd.underlying31 Tryd.sizeOf30 F rfl rfl ?_) (H.sel [0, 1, 2, 3, 4, 5, 6] rfl rfl) (fun _ _ _ h => h) ?_
   focus (first | omega | decide | (simp; omega))
   clear F a; intro a F
   refine eTake (k := 27) (i := 27) rfl (by kernel_rfl) F rfl rfl rfl rfl (fun w H => rLrB Tryd.underlying30 rfl Tryd.sizeOf30 F rfl (H.rangeB 5 _ 8 rfl (by omega))) (H.sel [0, 1, 2, 3, 4, 5, 6] rfl rfl) (fun _ _ _ h => h) ?_;clear F a;intro a F
   refine eTakeF (k := 28) (i := 28) rfl (by kernel_rfl) F rfl rfl rfl (fun w => rBin F rfl rfl (bNeY eT30 gT30 rfl)) (H.sel [0, 1, 2, 3, 4, 5, 6] rfl rfl) (fun _ _ _ h => h) ?_;clear F a;intro a F
   refine eTakeF (k := 29) (i := 29) rfl (by kernel_rfl) F rfl rfl rfl (fun w => rPk F rfl rfl) (H.sel [0, 1, 2, 3, 4, 5, 6] rfl rfl) (fun _ _ _ h => h) ?_;clear F a;intro a F
   refine eNil (k := 30) (by kernel_rfl) ?_
   refine hK24 _ _ ?_; clear hK24
   refine cIf F rfl (fun h125 => ?_) (fun h125 => ?_)
   ·
    replace h125 := notT h125
    rw [fin_cut (by omega) (by omega)] at h125; cases h125
   replace h125 := notF h125
   refine wp_skip ?_
   refine hK23 _ _ ?_; clear hK23
   refine cReg ?_
   refine sMv F rfl rfl rfl ?_;clear F a;intro a F
   refine sBin F rfl rfl rfl rfl (bAddN (j := 1) ?_) ?_
   focus omega
   clear F a; intro a F
   refine sAs F rfl rfl rfl ?_;clear F a;intro a F
   refine sNil ?_
   exact ⟨_, by omega, _, ⟨t + 1, rfl, rfl, by omega, H.sel [0, 1, 2, 3, 4, 5, 6] rfl rfl⟩, F.to (by repeat (first | exact trivial | refine Le.cons rfl ?_))⟩
  replace h93 := of_decide_eq_false h93
  refine wp_exit ?_
  refine hK19 _ _ ?_; clear hK19
  refine cSeq (fun K25 hK25 => ?_)
  refine cRegRO (by kernel_rfl) H ?_
  replace H := H.drew
  refine eTakeF (k := 0) (i := 0) rfl (by kernel_rfl) F rfl rfl rfl (fun w => rFa (f := 5) (k := 5) Tryd.underlying29 rfl Tryd.sizeOf27 rfl rfl F rfl) (H.sel [0, 1, 2, 3, 4, 5, 6] rfl rfl) (fun _ _ _ h => h) ?_;clear F a;intro a F
  refine eTake (k := 1) (i := 1) rfl (by kernel_rfl) F rfl rfl rfl rfl (fun w H => rLr Tryd.underlying27 rfl ?si F rfl (H.range 6 rfl _ 5)) (H.sel [0, 1, 2, 3, 4, 5, 6] rfl rfl) (fun _ _ _ h => h) ?_
  case si => exact info_size Tryd.sizeOf27
  clear F a; intro a F
  refine eTake (k := 2) (i := 2) rfl (by kernel_rfl) F rfl rfl rfl rfl (fun w H => rLrB Tryd.underlying34 rfl Tryd.sizeOf34 F rfl (H.whole 5 rfl)) (H.sel [0, 1, 2, 3, 4, 5, 6] rfl rfl) (fun _ _ _ h => h) ?_;clear F a;intro a F
  refine eTakeF (k := 3) (i := 4) rfl (by kernel_rfl) F rfl rfl rfl (fun w => rFa (f := 5) (k := 5) Tryd.underlying29 rfl Tryd.sizeOf27 rfl rfl F rfl) (H.sel [0, 1, 2, 3, 4, 5, 6] rfl rfl) (fun _ _ _ h => h) ?_;clear F a;intro a F
  refine eTake (k := 4) (i := 5) rfl (by kernel_rfl) F rfl rfl rfl rfl (fun w H => rLr Tryd.underlying27 rfl ?si F rfl (H.range 1 rfl _ 5)) (H.sel [0, 1, 2, 3, 4, 5, 6] rfl rfl) (fun _ _ _ h => h) ?_
  case si => exact info_size Tryd.sizeOf27
  clear F a; intro a F
  refine eTake (k := 5) (i := 6) rfl (by kernel_rfl) F rfl rfl rfl rfl (fun w H => rLrB Tryd.underlying34 rfl Tryd.sizeOf34 F rfl (H.whole 0 rfl)) (H.sel [0, 1, 2, 3, 4, 5, 6] rfl rfl) (fun _ _ _ h => h) ?_;clear F a;intro a F
  refine eOne (k := 6) (i := 3) rfl (by kernel_rfl) F rfl (oCall Tryd.call11 F rfl rfl (holds7_any f h _ p.cond _ (CondAt.grown H.grown rfl _ _ _ hp.cond.at)) ?_)
  rintro e w ⟨rfl, hb⟩
  replace H := H.grow hb; clear hb
  refine ⟨_, rfl, ?_⟩
  clear F a; intro a F
  refine eKeep (H.sel [0, 1, 2, 3, 4, 5, 6] rfl rfl) ?_
  refine eOne (k := 7) (i := 7) rfl (by kernel_rfl) F rfl (oCall Tryd.call11 F rfl rfl (holds7_any (finT f T L) h _ (turnPr h p T L).cond _ (H.pred 2 _ rfl : TreeIn S4 _ h _ (turnPr h p T L).cond).at) ?_)
  rintro e w ⟨rfl, hb⟩
  replace H := H.grow hb; clear hb
  refine ⟨_, rfl, ?_⟩
  clear F a; intro a F
  refine ePartO (by kernel_rfl) H ?_
  refine eTakeF (k := 8) (i := 8) rfl (by kernel_rfl) F rfl rfl rfl (fun w => rBin F rfl rfl (bBoolEq Tryd.underlying4)) (H.sel [0, 1, 2, 3, 4, 5, 6] rfl rfl) (fun _ _ _ h => h) ?_;clear F a;intro a F
  refine eTakeF (k := 9) (i := 9) rfl (by kernel_rfl) F rfl rfl rfl (fun w => rAs F rfl) (H.sel [0, 1, 2, 3, 4, 5, 6] rfl rfl) (fun _ _ _ h => h) ?_;clear F a;intro a F
  refine eNil (k := 10) (by kernel_rfl) ?_
  refine hK25 _ _ ?_; clear hK25
  refine wp_ret ?_
  refine bRet Tryd.results3 F rfl ?_
  first
  | exact ⟨rfl, H.below⟩
  | (have e : holdsH (finT f T L) h (turnPr h p T L).cond = holdsH f h p.cond := holds_turn hT hL h4 h6 f h 20 p.cond h5
     rw [e, beq_self_eq_true]
     exact ⟨rfl, H.below⟩)
theorem checkBack_any (cs : List Value) (p : Prg) (f : By) (A : Option Addr) (C : Nat) (T : List Int) (B : Option Addr) (D : Nat) (L : List Int) (w0 : World) (hp : ProgCap w0 cs p) (hN : NeedsAt w0) (hA : RowsAt w0 A 1 (intsZ T)) (hTl : T.length ≤ 9223372036854775807) (hB : RowsAt w0 B 1 (intsZ L)) (hLl : L.length ≤ 9223372036854775807) :
    Calls Tryd.prog 3 #[.agg cs.toArray, .agg (bs 38 f).toArray, .slice A T.length C, .slice B L.length D] w0 fun e w' => e = .returned (.bool true) ∧ Below w0.heap.size w0 w' := by
  obtain ⟨LA, LC, IA, IC, TA, TC, h, ccs, hp⟩ := hp
  by_cases hok : BackOk p T L
  · exact back_ok cs p LA LC IA IC TA TC h ccs f A C T B D L _ _ w0 hp hN hA hB hok hok.2.1.len hok.2.2.len
  · exact back_no cs p LA LC IA IC TA TC h ccs f A C T B D L w0 hp hN hA hB hTl hLl hok
end Go.Proofs.YtfcidfljidkcaaaDoor
