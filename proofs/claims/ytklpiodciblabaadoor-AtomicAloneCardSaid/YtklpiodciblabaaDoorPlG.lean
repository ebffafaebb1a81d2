/-
  WALK2. The law AtomicAlone: any program reduced to one of its threads. Conditions: the program and the two tables lie in memory.
-/
import Derived.Test.YtklpiodciblabaaDoorPlF
set_option linter.unusedSimpArgs false
set_option linter.unusedVariables false
namespace Go.Proofs.YtklpiodciblabaaDoor
open Go.RowKit
set_option maxRecDepth 100000
set_option maxHeartbeats 4000000 in
theorem atomicAlone_any (cs : List Value) (p : Prg) (w0 : World) (hP : ProgAt w0 cs p) (hN : NeedsAt w0) (hT : TabAt w0) (u : UInt8) :
    Calls Tryd.prog 3 #[.agg cs.toArray, Go.Proofs.YtklpiodciblabaaDoor.b8 u] w0 fun e w' => e = .returned (.bool true) ∧ Below w0.heap.size w0 w' := by
  have H := Own.start w0 none
  have hP0 := hP
  obtain ⟨LA, LC, IA, IC, TA, TC, h, ccs, hp⟩ := hP
  obtain ⟨c1, c2, c3, c4, c5, rfl⟩ := len5 (condAt_len hp.cond)
  have hcs := hp.cs
  subst hcs
  refine enterF Tryd.func3 rfl Tryd.ntmps3 rfl (fun a F => ?_)
  refine cSeq (fun K1 hK1 => ?_)
  refine cReg ?_
  refine sBx H F rfl rfl rfl ?_
  clear F a H; intro b2 a w F H
  refine sAs F rfl rfl rfl ?_;clear F a;intro a F
  refine sNil ?_
  refine hK1 _ _ ?_; clear hK1
  refine cSeq (fun K2 hK2 => ?_)
  refine cSeq (fun K3 hK3 => ?_)
  refine cReg ?_
  refine sLr Tryd.underlying29 rfl ?si F rfl rfl rfl (H.whole 0 rfl) ?_
  case si => exact info_size Tryd.sizeOf29
  clear F a; intro a F
  refine sCall Tryd.call4 F rfl rfl rfl (right_any' _ p _ (hP0.own H) (hN.own H)) ?_
  rintro e w ⟨rfl, hb⟩
  replace H := H.grow hb; clear hb
  refine ⟨_, rfl, ?_⟩
  clear F a; intro a F
  refine sBin F rfl rfl rfl rfl bNeq ?_;clear F a;intro a F
  refine sNil ?_
  refine hK3 _ _ ?_; clear hK3
  refine cIf F rfl (fun h21 => ?_) (fun h21 => ?_)
  ·
   replace h21 := bneT h21
   refine cSeq (fun K4 hK4 => ?_)
   refine cReg ?_
   refine sCall Tryd.call5 F rfl rfl rfl (awake_any _ (hN.own H)) ?_
   rintro e w ⟨rfl, hb⟩
   replace H := H.grow hb; clear hb
   refine ⟨_, rfl, ?_⟩
   clear F a; intro a F
   refine sAs F rfl rfl rfl ?_;clear F a;intro a F
   refine sNil ?_
   refine hK4 _ _ ?_; clear hK4
   refine wp_ret ?_
   simp only [Exit.then]
   refine bRet Tryd.results3 F rfl ?_
   exact ⟨rfl, H.below⟩
  replace h21 := bneF h21
  have hv : rightErr p = 0 := by omega
  have hV := valid hv
  have hV4 := hV.thr4
  have hV1 := hV.thr1
  obtain ⟨k, hk⟩ : ∃ k, k = u.toNat % p.threads.length := ⟨_, rfl⟩
  have hkl : k < p.threads.length := by rw [hk]; exact Nat.mod_lt _ (by omega)
  obtain ⟨l, hl⟩ : ∃ l, p.threads[k]? = some l := ⟨_, List.getElem?_eq_getElem hkl⟩
  obtain ⟨bT, oT, BT, CT, rfl, hT1, hT2, hT3⟩ := hp.threads k l hl
  have hvq := one_right hv hl
  have hok := thread_six hv hl
  have hl12 := thr_len hok
  obtain ⟨vs, z, hAl⟩ := alone_r hv hl
  have hvl := hAl.run.len
  have hvl2 : vs.length ≤ 12 := by omega
  refine wp_skip ?_
  refine hK2 _ _ ?_; clear hK2
  refine cSeq (fun K5 hK5 => ?_)
  refine cRegRO (by kernel_rfl) H ?_
  replace H := H.drew
  refine eTakeF (k := 0) (i := 0) rfl (by kernel_rfl) F rfl rfl rfl (fun w => rFa (f := 3) (k := 3) Tryd.underlying29 rfl Tryd.sizeOf24 rfl rfl F rfl) (H.sel [0] rfl rfl) (fun _ _ _ h => h) ?_;clear F a;intro a F
  refine eTake (k := 1) (i := 1) rfl (by kernel_rfl) F rfl rfl rfl rfl (fun w H => rLd Tryd.isAgg24 F rfl (H.cell 0 rfl rfl)) (H.sel [0] rfl rfl) (fun _ _ _ h => h) ?_;clear F a;intro a F
  refine eTakeF (k := 2) (i := 2) rfl (by kernel_rfl) F rfl rfl rfl (fun w => rMv F rfl) (H.sel [0] rfl rfl) (fun _ _ _ h => h) ?_;clear F a;intro a F
  refine eTakeF (k := 3) (i := 3) rfl (by kernel_rfl) F rfl rfl rfl (fun w => rCv Tryd.underlying5 Tryd.underlying3 F rfl (wrapB _)) (H.sel [0] rfl rfl) (fun _ _ _ h => h) ?_;clear F a;intro a F
  refine eTakeF (k := 4) (i := 4) rfl (by kernel_rfl) F rfl rfl rfl (fun w => rFa (f := 3) (k := 3) Tryd.underlying29 rfl Tryd.sizeOf24 rfl rfl F rfl) (H.sel [0] rfl rfl) (fun _ _ _ h => h) ?_;clear F a;intro a F
  refine eTake (k := 5) (i := 5) rfl (by kernel_rfl) F rfl rfl rfl rfl (fun w H => rLd Tryd.isAgg24 F rfl (H.cell 0 rfl rfl)) (H.sel [0] rfl rfl) (fun _ _ _ h => h) ?_;clear F a;intro a F
  refine eTake (k := 6) (i := 6) rfl (by kernel_rfl) F rfl rfl rfl rfl (fun w H => rLen Tryd.underlying24 F rfl) (H.sel [0] rfl rfl) (fun _ _ _ h => h) ?_;clear F a;intro a F
  refine eTakeF (k := 7) (i := 7) rfl (by kernel_rfl) F rfl rfl rfl (fun w => rBin F rfl rfl (bRemN ?_)) (H.sel [0] rfl rfl) (fun _ _ _ h => h) ?_
  focus omega
  clear F a; intro a F
  refine eTakeF (k := 8) (i := 8) rfl (by kernel_rfl) F rfl rfl rfl (fun w => rIx Tryd.underlying24 Tryd.sizeOf33 F rfl rfl ?_) (H.sel [0] rfl rfl) (fun _ _ _ h => h) ?_
  focus (rw [← hk]; exact hkl)
  clear F a; intro a F
  refine eTake (k := 9) (i := 9) rfl (by kernel_rfl) F rfl rfl rfl rfl (fun w H => rLd Tryd.isAgg33 F rfl (by rw [← hk]; exact H.arg hT1)) (H.sel [0] rfl rfl) (fun _ _ _ h => h) ?_;clear F a;intro a F
  refine eOne (k := 10) (i := 10) rfl (by kernel_rfl) F rfl (oBs1 H Tryd.underlying24 Tryd.sizeOf33 Tryd.zeroValue33 rfl F rfl rfl rfl ?_)
  clear F a H; intro b33 a w F H
  refine ePartO (by kernel_rfl) H ?_
  refine eTakeF (k := 11) (i := 11) rfl (by kernel_rfl) F rfl rfl rfl (fun w => rFa (f := 3) (k := 3) Tryd.underlying29 rfl Tryd.sizeOf24 rfl rfl F rfl) (H.sel [0, 1] rfl rfl) (fun _ _ _ h => h) ?_;clear F a;intro a F
  refine eOne (k := 12) (i := 12) rfl (by kernel_rfl) F rfl (oSt H 1 Tryd.sizeOf24 F rfl rfl rfl rfl rfl ?_)
  clear H; intro w H
  refine ePartO (by kernel_rfl) H ?_
  refine eNil (k := 13) (by kernel_rfl) ?_
  refine hK5 _ _ ?_; clear hK5
  refine cSeq (fun K6 hK6 => ?_)
  refine cReg ?_
  refine sBd (cs := [Go.Proofs.YtklpiodciblabaaDoor.b8 0, Go.Proofs.YtklpiodciblabaaDoor.b8 0, Go.Proofs.YtklpiodciblabaaDoor.b8 0, Go.Proofs.YtklpiodciblabaaDoor.b8 0, .slice none 0 0]) (places := [(0, 1), (1, 1), (2, 1), (3, 1), (4, 1)]) Tryd.zeroValue27 Tryd.underlying27 (by kernel_rfl) F rfl rfl rfl rfl ?_;clear F a;intro a F
  refine sFa (f := 5) (k := 5) Tryd.underlying29 rfl Tryd.sizeOf27 rfl rfl F rfl rfl rfl ?_;clear F a;intro a F
  refine sSr H 1 ?si F rfl rfl rfl ?s1 rfl rfl ?_
  case si => exact info_size Tryd.sizeOf27
  case s1 => first | rfl | (repeat (first | exact one_nil | (apply one_cons; · first | rfl | assumption | exact one_bif rfl rfl)))
  clear H; intro w H
  refine sNil ?_
  refine hK6 _ _ ?_; clear hK6
  refine cSeq (fun K7 hK7 => ?_)
  refine cReg ?_
  refine sLr Tryd.underlying29 rfl ?si F rfl rfl rfl (H.whole 1 rfl) ?_
  case si => exact info_size Tryd.sizeOf29
  clear F a; intro a F
  refine sCall Tryd.call6 F rfl rfl rfl (play_any _ (oneT p l) _ (one_at H 0 rfl hp hT2 hT3) (hN.own H) none 0 [] (fun j c h => by simp at h) (by decide)) ?_
  rintro e w ⟨AO, cO, rfl, H2⟩
  replace H := H.join H2; clear H2
  refine ⟨_, rfl, ?_⟩
  clear F a; intro a F
  refine sMv F rfl rfl rfl ?_;clear F a;intro a F
  refine sExt F rfl rfl rfl rfl ?_;clear F a;intro a F
  refine sExt F rfl rfl rfl rfl ?_;clear F a;intro a F
  refine sExt F rfl rfl rfl rfl ?_;clear F a;intro a F
  refine sAlB H zB38 F rfl rfl ?_
  clear F a H; intro b5 a w F H
  refine sSrB H 0 Tryd.sizeOf38 F rfl rfl rfl rfl (by omega) ?_
  clear H; intro w H
  rw [lay_all] at H
  refine sAs F rfl rfl rfl ?_;clear F a;intro a F
  refine sAs F rfl rfl rfl ?_;clear F a;intro a F
  refine sNil ?_
  refine hK7 _ _ ?_; clear hK7
  refine cSeq (fun K8 hK8 => ?_)
  refine cSeq (fun K9 hK9 => ?_)
  refine cReg ?_
  refine sMv F rfl rfl rfl ?_;clear F a;intro a F
  refine sBin F rfl rfl rfl rfl bNeq ?_;clear F a;intro a F
  refine sMv F rfl rfl rfl ?_;clear F a;intro a F
  refine F.split 45 rfl ?_ ?_ <;> (clear F; intro h45 F)
  ·
   replace h45 := bneT h45
   exact absurd (show startE (oneT p l) = 0 from if_pos hvq) h45
  replace h45 := bneF h45
  refine sMv F rfl rfl rfl ?_;clear F a;intro a F
  refine sLen Tryd.underlying39 F rfl rfl rfl ?_;clear F a;intro a F
  refine sFa (f := 3) (k := 3) Tryd.underlying29 rfl Tryd.sizeOf24 rfl rfl F rfl rfl rfl ?_;clear F a;intro a F
  refine sLd Tryd.isAgg24 F rfl rfl rfl (H.cell 3 rfl rfl) ?_;clear F a;intro a F
  refine sIx (j := 0) Tryd.underlying24 Tryd.sizeOf33 F rfl rfl rfl rfl ?_ ?_
  focus (first | omega | decide | (simp; omega))
  clear F a; intro a F
  refine sLd Tryd.isAgg33 F rfl rfl rfl (H.cell 2 rfl rfl) ?_;clear F a;intro a F
  refine sLen Tryd.underlying33 F rfl rfl rfl ?_;clear F a;intro a F
  refine sBin F rfl rfl rfl rfl bGtr ?_;clear F a;intro a F
  refine sPk F rfl rfl rfl rfl ?_;clear F a;intro a F
  refine sNil ?_
  refine hK9 _ _ ?_; clear hK9
  refine cIf F rfl (fun h54 => ?_) (fun h54 => ?_)
  ·
   replace h54 := of_decide_eq_true h54
   (have := hAl.order; omega)
  replace h54 := of_decide_eq_false h54
  refine wp_skip ?_
  refine hK8 _ _ ?_; clear hK8
  refine cSeq (fun K10 hK10 => ?_)
  refine cReg ?_
  refine sAlB H zB36 F rfl rfl ?_
  clear F a H; intro b8 a w F H
  refine sNil ?_
  refine hK10 _ _ ?_; clear hK10
  refine cSeq (fun K11 hK11 => ?_)
  refine cRegRO (by kernel_rfl) H ?_
  replace H := H.drew
  refine eTake (k := 0) (i := 0) rfl (by kernel_rfl) F rfl rfl rfl rfl (fun w H => rSlA Tryd.underlying36 Tryd.sizeOf5 F rfl) (H.sel [0, 1, 2, 3, 4] rfl rfl) (fun _ _ _ h => h) ?_;clear F a;intro a F
  refine eTakeF (k := 1) (i := 1) rfl (by kernel_rfl) F rfl rfl rfl (fun w => rFa (f := 2) (k := 2) Tryd.underlying29 rfl Tryd.sizeOf23 rfl rfl F rfl) (H.sel [0, 1, 2, 3, 4] rfl rfl) (fun _ _ _ h => h) ?_;clear F a;intro a F
  refine eTake (k := 2) (i := 2) rfl (by kernel_rfl) F rfl rfl rfl rfl (fun w H => rLd Tryd.isAgg23 F rfl (H.cell 4 rfl rfl)) (H.sel [0, 1, 2, 3, 4] rfl rfl) (fun _ _ _ h => h) ?_;clear F a;intro a F
  refine eOne (k := 3) (i := 3) rfl (by kernel_rfl) F rfl (oCpB H 0 Tryd.underlying23 Tryd.sizeOf5 F rfl rfl rfl rfl (RowsAt.own hp.init H) rfl (by omega) ?_)
  clear F a H; intro a w F H
  refine ePartO (by kernel_rfl) H ?_
  refine eNil (k := 4) (by kernel_rfl) ?_
  refine hK11 _ _ ?_; clear hK11
  refine cSeq (fun K12 hK12 => ?_)
  refine cReg ?_
  refine sAs F rfl rfl rfl ?_;clear F a;intro a F
  replace H := H.nilRws 5 1
  refine sNil ?_
  refine hK12 _ _ ?_; clear hK12
  refine cSeq (fun K13 hK13 => ?_)
  refine cSeq (fun K14 hK14 => ?_)
  refine cReg ?_
  refine sMv F rfl rfl rfl ?_;clear F a;intro a F
  refine sNil ?_
  refine hK14 _ _ ?_; clear hK14
  refine wp_block ?_
  refine cLoopR [2, 5, 8] (fun m ups w => ∃ (j : Nat) (rows : List (List Value)) (A9 : Option Addr) (c9 : Nat), m = 30 - j ∧ ups = [(9, .slice A9 rows.length c9), (59, .int .i64 ((j : Nat) : Int))] ∧ rows = (vs.take j).map (fun x => [Go.Proofs.YtklpiodciblabaaDoor.b8 x]) ∧ j ≤ vs.length ∧ Own w0 none w [.rws 5 1 (.slice A9 rows.length c9) rows, .blk b8 (bs 6 (memOf p)) 36, .blk b5 (bs 38 (playF (oneT p l) [])) 38, .blk b33 [.slice BT l.length CT] 33, .blk b2 [.string p.name, .slice LA p.locs.length LC, .slice IA p.init.length IC, .slice (some ⟨b33, 0, none⟩) 1 1, Go.Proofs.YtklpiodciblabaaDoor.b8 p.ask, Go.Proofs.YtklpiodciblabaaDoor.b8 0, Go.Proofs.YtklpiodciblabaaDoor.b8 0, Go.Proofs.YtklpiodciblabaaDoor.b8 0, Go.Proofs.YtklpiodciblabaaDoor.b8 0, .slice none 0 0] 29]) F (30) [(9, .slice none 0 0), (59, .int .i64 ((0 : Nat) : Int))] (by repeat (first | exact SubR.nil | (apply SubR.cons; · rfl))) ?_ ?_ ?_
  · exact ⟨0, [], none, 0, rfl, rfl, rfl, Nat.zero_le _, H.sel [0, 1, 2, 4, 5] rfl rfl⟩
  · repeat (first | exact trivial | refine Le.cons rfl ?_)
  clear F
  clear H
  intro m ups a w hI F
  obtain ⟨j, rows, A9, c9, rfl, rfl, hrows, hj, H⟩ := hI
  have hrl : rows.length = (vs.take j).length := by rw [hrows, List.length_map]
  have hrj : (vs.take j).length = j := by rw [List.length_take]; omega
  have hro : ∀ r ∈ rows, r.length = 1 := by rw [hrows]; exact bytes_rows _
  have hfv := follow_v hok hAl.run j hj
  have hmo := qv_more vs.length z j
  have herr := qv_err vs.length z j
  refine cSeq (fun K15 hK15 => ?_)
  refine cReg ?_
  refine sBin F rfl rfl rfl rfl bLss ?_;clear F a;intro a F
  refine sNil ?_
  refine hK15 _ _ ?_; clear hK15
  refine cSeq (fun K16 hK16 => ?_)
  refine cIf F rfl (fun h60 => ?_) (fun h60 => ?_)
  ·
   replace h60 := of_decide_eq_true h60
   refine wp_skip ?_
   refine hK16 _ _ ?_; clear hK16
   refine cSeq (fun K17 hK17 => ?_)
   refine wp_block ?_
   refine cSeq (fun K18 hK18 => ?_)
   refine cReg ?_
   refine sFa (f := 3) (k := 3) Tryd.underlying29 rfl Tryd.sizeOf24 rfl rfl F rfl rfl rfl ?_;clear F a;intro a F
   refine sLd Tryd.isAgg24 F rfl rfl rfl (H.cell 4 rfl rfl) ?_;clear F a;intro a F
   refine sIx (j := 0) Tryd.underlying24 Tryd.sizeOf33 F rfl rfl rfl rfl ?_ ?_
   focus (first | omega | decide | (simp; omega))
   clear F a; intro a F
   refine sLd Tryd.isAgg33 F rfl rfl rfl (H.cell 3 rfl rfl) ?_;clear F a;intro a F
   refine sMv F rfl rfl rfl ?_;clear F a;intro a F
   refine sCall Tryd.call7 F rfl rfl rfl (Follow_n BT CT _ l A9 c9 _ (vs.take j) _ (RowsAt.own hT2 H) hT3 rfl (show RowsAt _ _ 1 _ by rw [← hrows]; exact H.rowsAt 0 rfl hro (by decide)) (by omega) hrl (hN.own H) (hT.own H)) ?_
   rintro e w hf
   (rw [hfv] at hf; obtain ⟨A1, c1, A2, c2, A3, c3, A4, c4, rfl, H2⟩ := hf; replace H := H.join H2; clear H2)
   refine ⟨_, rfl, ?_⟩
   clear F a; intro a F
   refine sMv F rfl rfl rfl ?_;clear F a;intro a F
   refine sExt F rfl rfl rfl rfl ?_;clear F a;intro a F
   refine sExt F rfl rfl rfl rfl ?_;clear F a;intro a F
   refine sExt F rfl rfl rfl rfl ?_;clear F a;intro a F
   refine sAl H Tryd.zeroValue45 F rfl rfl ?_
   clear F a H; intro b10 a w F H
   refine sSr H 0 ?si F rfl rfl rfl ?s1 rfl rfl ?_
   case si => exact info_size Tryd.sizeOf45
   case s1 => first | rfl | (repeat (first | exact one_nil | (apply one_cons; · first | rfl | assumption | exact one_bif rfl rfl)))
   clear H; intro w H
   refine sAs F rfl rfl rfl ?_;clear F a;intro a F
   refine sAs F rfl rfl rfl ?_;clear F a;intro a F
   refine sNil ?_
   refine hK18 _ _ ?_; clear hK18
   refine cSeq (fun K19 hK19 => ?_)
   refine cSeq (fun K20 hK20 => ?_)
   refine cReg ?_
   refine sMv F rfl rfl rfl ?_;clear F a;intro a F
   refine sBin F rfl rfl rfl rfl bNeq ?_;clear F a;intro a F
   refine sNil ?_
   refine hK20 _ _ ?_; clear hK20
   refine cIf F rfl (fun h72 => ?_) (fun h72 => ?_)
   ·
    replace h72 := bneT h72
    omega
   replace h72 := bneF h72
   refine wp_skip ?_
   refine hK19 _ _ ?_; clear hK19
   refine cSeq (fun K21 hK21 => ?_)
   refine cSeq (fun K22 hK22 => ?_)
   refine cReg ?_
   refine sMv F rfl rfl rfl ?_;clear F a;intro a F
   refine sNot F rfl rfl rfl ?_;clear F a;intro a F
   refine sNil ?_
   refine hK22 _ _ ?_; clear hK22
   refine cIf F rfl (fun h74 => ?_) (fun h74 => ?_)
   ·
    replace h74 := notT h74
    have hje : ¬ j < vs.length := of_decide_eq_false (hmo.symm.trans h74)
    have hjv : j = vs.length := by omega
    rw [qv_end hje] at F H
    obtain ⟨hgd, hrd⟩ := hAl.run.good (fun i e he _ => by have he : ([] : List Ev)[i]? = some e := he; simp at he)
    have hrd : rdL (evsP z) = vs := hrd
    have htv : vs.take j = vs := List.take_of_length_le (by omega)
    have hloc := hAl.run.loc hok (fun e he => by have he : e ∈ ([] : List Ev) := he; cases he)
    refine cSeq (fun K23 hK23 => ?_)
    refine cReg ?_
    refine sLrB Tryd.underlying36 rfl Tryd.sizeOf36 F rfl rfl rfl (H.whole 6 rfl) ?_;clear F a;intro a F
    refine sAlB H zB36 F rfl rfl ?_
    clear F a H; intro b13 a w F H
    refine sSrB H 0 Tryd.sizeOf36 F rfl rfl rfl rfl (by omega) ?_
    clear H; intro w H
    rw [lay_all] at H
    refine sNil ?_
    refine hK23 _ _ ?_; clear hK23
    refine cSeq (fun K24 hK24 => ?_)
    refine cReg ?_
    refine sAs F rfl rfl rfl ?_;clear F a;intro a F
    refine sNil ?_
    refine hK24 _ _ ?_; clear hK24
    refine cSeq (fun K25 hK25 => ?_)
    refine cSeq (fun K26 hK26 => ?_)
    refine cReg ?_
    refine sFa (f := 0) (k := 0) Tryd.underlying45 rfl Tryd.sizeOf42 rfl rfl F rfl rfl rfl ?_;clear F a;intro a F
    refine sLd Tryd.isAgg42 F rfl rfl rfl (H.cell 1 rfl rfl) ?_;clear F a;intro a F
    refine sLen Tryd.underlying42 F rfl rfl rfl ?_;clear F a;intro a F
    refine sMv F rfl rfl rfl ?_;clear F a;intro a F
    refine sNil ?_
    refine hK26 _ _ ?_; clear hK26
    refine wp_block ?_
    refine cLoopR [5, 9, 10, 13, 77, 78] (fun m ups w => ∃ (i c : Nat), m = (evsP z).length - i ∧ ups = [(14, .int .i64 ((c : Nat) : Int)), (79, .int .i64 ((i : Nat) : Int))] ∧ c = (rdL ((evsP z).take i)).length ∧ i ≤ (evsP z).length ∧ Own w0 none w [.rws 49 7 (.slice A1 (evsP z).length c1) ((evsP z).map Ev.cells), .blk b13 (bs 6 (memL (memOf p) ((evsP z).take i))) 36, .blk b10 ((runPath z).cells A1 c1 A2 c2 A3 c3 A4 c4) 45, .rws 5 1 (.slice A9 rows.length c9) rows, .blk b5 (bs 38 (playF (oneT p l) [])) 38]) F ((evsP z).length) [(14, .int .i64 ((0 : Nat) : Int)), (79, .int .i64 ((0 : Nat) : Int))] (by repeat (first | exact SubR.nil | (apply SubR.cons; · rfl))) ?_ ?_ ?_
    · exact ⟨0, 0, rfl, rfl, rfl, Nat.zero_le _, H.sel [2, 0, 1, 6, 8] rfl rfl⟩
    · repeat (first | exact trivial | refine Le.cons rfl ?_)
    clear F
    clear H
    intro m ups a w hI F
    obtain ⟨i, c, rfl, rfl, hc, hi, H⟩ := hI
    have hml := H.rwsLen 0 rfl
    simp only [maxLen] at hml
    have hat := rdL_take_le (evsP z) i
    rw [← hc, hrd] at hat
    refine cSeq (fun K27 hK27 => ?_)
    refine cReg ?_
    refine sBin F rfl rfl rfl rfl bLss ?_;clear F a;intro a F
    refine sNil ?_
    refine hK27 _ _ ?_; clear hK27
    refine cSeq (fun K28 hK28 => ?_)
    refine cIf F rfl (fun h80 => ?_) (fun h80 => ?_)
    ·
     replace h80 := of_decide_eq_true h80
     have hil : i < (evsP z).length := by have h80' : ((i : Nat) : Int) < (((evsP z).length : Nat) : Int) := h80; omega
     obtain ⟨e, he⟩ : ∃ e, (evsP z)[i]? = some e := ⟨_, List.getElem?_eq_getElem hil⟩
     obtain ⟨be, oe, rfl, hRow⟩ := H.rowsAt 0 rfl (ev_rows _) (by decide) i e.cells (by rw [List.getElem?_map, he]; rfl)
     have hl6 := hloc e (List.mem_of_getElem? he)
     have hsn := take_snoc he
     refine wp_skip ?_
     refine hK28 _ _ ?_; clear hK28
     refine cSeq (fun K29 hK29 => ?_)
     refine wp_block ?_
     refine cSeq (fun K30 hK30 => ?_)
     refine cReg ?_
     refine sIx Tryd.underlying42 Tryd.sizeOf49 F rfl rfl rfl rfl ?_ ?_
     focus (first | omega | decide | (simp; omega))
     clear F a; intro a F
     refine sLr Tryd.underlying49 rfl ?si F rfl rfl rfl hRow ?_
     case si => exact info_size Tryd.sizeOf49
     clear F a; intro a F
     refine sAl H Tryd.zeroValue49 F rfl rfl ?_
     clear F a H; intro b16 a w F H
     refine sSr H 0 ?si F rfl rfl rfl ?s1 rfl rfl ?_
     case si => exact info_size Tryd.sizeOf49
     case s1 => first | rfl | (repeat (first | exact one_nil | (apply one_cons; · first | rfl | assumption | exact one_bif rfl rfl)))
     clear H; intro w H
     refine sNil ?_
     refine hK30 _ _ ?_; clear hK30
     refine cSeq (fun K31 hK31 => ?_)
     refine cReg ?_
     refine sFa (f := 1) (k := 1) Tryd.underlying49 rfl Tryd.sizeOf5 rfl rfl F rfl rfl rfl ?_;clear F a;intro a F
     refine sLd Tryd.isAgg5 F rfl rfl rfl (H.cell 0 rfl rfl) ?_;clear F a;intro a F
     refine sNil ?_
     refine hK31 _ _ ?_; clear hK31
     refine wp_block ?_
     refine cSeq (fun K32 hK32 => ?_)
     refine cReg ?_
     refine sBin F rfl rfl rfl rfl (bEqlB (y := 1)) ?_;clear F a;intro a F
     refine sAs F rfl rfl rfl ?_;clear F a;intro a F
     refine sNil ?_
     refine hK32 _ _ ?_; clear hK32
     refine cIf F rfl (fun h85 => ?_) (fun h85 => ?_)
     ·
      replace h85 := beqT h85
      have hk1 : e.kind = 1 := h85
      have hgv := hgd i e he hk1
      have hr2 : rdL ((evsP z).take (i + 1)) = rdL ((evsP z).take i) ++ [e.val] := by rw [hsn, rdL_snoc, if_pos hk1]
      have hvc : vs[c]? = some e.val := by
       have h1 : vs = rdL ((evsP z).take (i + 1)) ++ rdL ((evsP z).drop (i + 1)) := by rw [← rdL_append, List.take_append_drop, hrd]
       rw [h1, hr2, List.append_assoc, hc, List.getElem?_append_right (Nat.le_refl _), Nat.sub_self]
       rfl
      have hrow : rows[c]? = some [Go.Proofs.YtklpiodciblabaaDoor.b8 e.val] := by rw [hrows, htv, List.getElem?_map, hvc]; rfl
      have hcl : c < rows.length := (List.getElem?_eq_some_iff.1 hrow).1
      obtain ⟨b9, o9, rfl, _⟩ := H.rowsAt 4 rfl hro (by decide) c _ hrow
      have hm2 : memL (memOf p) ((evsP z).take (i + 1)) = memL (memOf p) ((evsP z).take i) := by rw [hsn, memL_snoc]; unfold wrEv; rw [if_neg (by rw [hk1]; decide)]
      refine cSeq (fun K33 hK33 => ?_)
      refine cSeq (fun K34 hK34 => ?_)
      refine cRegRO (by kernel_rfl) H ?_
      replace H := H.drew
      refine eTakeF (k := 0) (i := 0) rfl (by kernel_rfl) F rfl rfl rfl (fun w => rFa (f := 3) (k := 3) Tryd.underlying49 rfl Tryd.sizeOf5 rfl rfl F rfl) (H.sel [0, 1, 2, 3, 4, 5] rfl rfl) (fun _ _ _ h => h) ?_;clear F a;intro a F
      refine eTake (k := 1) (i := 1) rfl (by kernel_rfl) F rfl rfl rfl rfl (fun w H => rLd Tryd.isAgg5 F rfl (H.cell 0 rfl rfl)) (H.sel [0, 1, 2, 3, 4, 5] rfl rfl) (fun _ _ _ h => h) ?_;clear F a;intro a F
      refine eTakeF (k := 2) (i := 2) rfl (by kernel_rfl) F rfl rfl rfl (fun w => rFa (f := 2) (k := 2) Tryd.underlying49 rfl Tryd.sizeOf5 rfl rfl F rfl) (H.sel [0, 1, 2, 3, 4, 5] rfl rfl) (fun _ _ _ h => h) ?_;clear F a;intro a F
      refine eTake (k := 3) (i := 3) rfl (by kernel_rfl) F rfl rfl rfl rfl (fun w H => rLd Tryd.isAgg5 F rfl (H.cell 0 rfl rfl)) (H.sel [0, 1, 2, 3, 4, 5] rfl rfl) (fun _ _ _ h => h) ?_;clear F a;intro a F
      refine eTakeF (k := 4) (i := 4) rfl (by kernel_rfl) F rfl rfl rfl (fun w => rIaZ1 Tryd.underlying36 Tryd.sizeOf5 F rfl rfl ?_) (H.sel [0, 1, 2, 3, 4, 5] rfl rfl) (fun _ _ _ h => h) ?_
      focus exact hl6
      clear F a; intro a F
      refine eTake (k := 5) (i := 5) rfl (by kernel_rfl) F rfl rfl rfl rfl (fun w H => rLd Tryd.isAgg5 F rfl (H.cellB 2 rfl (by omega))) (H.sel [0, 1, 2, 3, 4, 5] rfl rfl) (fun _ _ _ h => h) ?_;clear F a;intro a F
      refine eTakeF (k := 6) (i := 6) rfl (by kernel_rfl) F rfl rfl rfl (fun w => rBin F rfl rfl bNeqB) (H.sel [0, 1, 2, 3, 4, 5] rfl rfl) (fun _ _ _ h => h) ?_;clear F a;intro a F
      refine eTakeF (k := 7) (i := 7) rfl (by kernel_rfl) F rfl rfl rfl (fun w => rMv F rfl) (H.sel [0, 1, 2, 3, 4, 5] rfl rfl) (fun _ _ _ h => h) ?_;clear F a;intro a F
      refine F.split 94 rfl ?_ ?_ <;> (clear F; intro h94 F)
      ·
       replace h94 := bneT h94
       exact absurd hgv h94
      replace h94 := bneF h94
      refine eTakeF (k := 8) (i := 8) rfl (by kernel_rfl) F rfl rfl rfl (fun w => rFa (f := 3) (k := 3) Tryd.underlying49 rfl Tryd.sizeOf5 rfl rfl F rfl) (H.sel [0, 1, 2, 3, 4, 5] rfl rfl) (fun _ _ _ h => h) ?_;clear F a;intro a F
      refine eTake (k := 9) (i := 9) rfl (by kernel_rfl) F rfl rfl rfl rfl (fun w H => rLd Tryd.isAgg5 F rfl (H.cell 0 rfl rfl)) (H.sel [0, 1, 2, 3, 4, 5] rfl rfl) (fun _ _ _ h => h) ?_;clear F a;intro a F
      refine eTakeF (k := 10) (i := 10) rfl (by kernel_rfl) F rfl rfl rfl (fun w => rMv F rfl) (H.sel [0, 1, 2, 3, 4, 5] rfl rfl) (fun _ _ _ h => h) ?_;clear F a;intro a F
      refine eTakeF (k := 11) (i := 11) rfl (by kernel_rfl) F rfl rfl rfl (fun w => rMv F rfl) (H.sel [0, 1, 2, 3, 4, 5] rfl rfl) (fun _ _ _ h => h) ?_;clear F a;intro a F
      refine eTakeF (k := 12) (i := 12) rfl (by kernel_rfl) F rfl rfl rfl (fun w => rIx Tryd.underlying23 Tryd.sizeOf5 F rfl rfl ?_) (H.sel [0, 1, 2, 3, 4, 5] rfl rfl) (fun _ _ _ h => h) ?_
      focus exact hcl
      clear F a; intro a F
      refine eTake (k := 13) (i := 13) rfl (by kernel_rfl) F rfl rfl rfl rfl (fun w H => rLd Tryd.isAgg5 F rfl (by obtain ⟨b', o', he', hR'⟩ := H.rowsAt 4 rfl hro (by decide) c _ hrow; cases he'; exact hR' 0 _ rfl)) (H.sel [0, 1, 2, 3, 4, 5] rfl rfl) (fun _ _ _ h => h) ?_;clear F a;intro a F
      refine eTakeF (k := 14) (i := 14) rfl (by kernel_rfl) F rfl rfl rfl (fun w => rBin F rfl rfl bNeqB) (H.sel [0, 1, 2, 3, 4, 5] rfl rfl) (fun _ _ _ h => h) ?_;clear F a;intro a F
      refine eTakeF (k := 15) (i := 15) rfl (by kernel_rfl) F rfl rfl rfl (fun w => rPk F rfl rfl) (H.sel [0, 1, 2, 3, 4, 5] rfl rfl) (fun _ _ _ h => h) ?_;clear F a;intro a F
      refine eNil (k := 16) (by kernel_rfl) ?_
      refine hK34 _ _ ?_; clear hK34
      refine cIf F rfl (fun h102 => ?_) (fun h102 => ?_)
      ·
       replace h102 := bneT h102
       exact absurd rfl h102
      replace h102 := bneF h102
      refine wp_skip ?_
      refine hK33 _ _ ?_; clear hK33
      refine cReg ?_
      refine sMv F rfl rfl rfl ?_;clear F a;intro a F
      refine sBin F rfl rfl rfl rfl (bAddN (j := 1) ?_) ?_
      focus omega
      clear F a; intro a F
      refine sAs F rfl rfl rfl ?_;clear F a;intro a F
      refine sNil ?_
      refine hK29 _ _ ?_; clear hK29
      refine cReg ?_
      refine sBin F rfl rfl rfl rfl (bAddN (j := 1) ?_) ?_
      focus omega
      clear F a; intro a F
      refine sMv F rfl rfl rfl ?_;clear F a;intro a F
      refine sNil ?_
      (refine ⟨_, ?_, _, ⟨i + 1, _, rfl, rfl, ?_, hil, ?_⟩, F.to (by repeat (first | exact trivial | refine Le.cons rfl ?_))⟩
       · omega
       · first
         | (rw [hr2, List.length_append, hc]; rfl)
         | (rw [hsn, rdL_snoc, if_neg hk1]; exact hc)
       · first
         | (rw [hm2]; exact H.sel [1, 2, 3, 4, 5] rfl rfl)
         | (have hw : memL (memOf p) ((evsP z).take (i + 1)) = put (memL (memOf p) ((evsP z).take i)) e.loc.toNat e.val := by rw [hsn, memL_snoc]; unfold wrEv; rw [if_pos hk2]
            rw [hw]; exact H.sel [1, 2, 3, 4, 5] rfl rfl)
         | (have hw : memL (memOf p) ((evsP z).take (i + 1)) = memL (memOf p) ((evsP z).take i) := by rw [hsn, memL_snoc]; unfold wrEv; rw [if_neg hk2]
            rw [hw]; exact H.sel [1, 2, 3, 4, 5] rfl rfl))
     replace h85 := beqF h85
     have hk1 : ¬ e.kind = 1 := h85
     refine cSeq (fun K35 hK35 => ?_)
     refine cReg ?_
     refine sBin F rfl rfl rfl rfl (bEqlB (y := 2)) ?_;clear F a;intro a F
     refine sAs F rfl rfl rfl ?_;clear F a;intro a F
     refine sNil ?_
     refine hK35 _ _ ?_; clear hK35
     refine cIf F rfl (fun h105 => ?_) (fun h105 => ?_)
     ·
      replace h105 := beqT h105
      have hk2 : e.kind = 2 := h105
      refine cReg ?_
      refine sFa (f := 2) (k := 2) Tryd.underlying49 rfl Tryd.sizeOf5 rfl rfl F rfl rfl rfl ?_;clear F a;intro a F
      refine sLd Tryd.isAgg5 F rfl rfl rfl (H.cell 0 rfl rfl) ?_;clear F a;intro a F
      refine sFa (f := 3) (k := 3) Tryd.underlying49 rfl Tryd.sizeOf5 rfl rfl F rfl rfl rfl ?_;clear F a;intro a F
      refine sLd Tryd.isAgg5 F rfl rfl rfl (H.cell 0 rfl rfl) ?_;clear F a;intro a F
      refine sIaZ1 Tryd.underlying36 Tryd.sizeOf5 F rfl rfl rfl rfl ?_ ?_
      focus exact hl6
      clear F a; intro a F
      refine sStB H 2 Tryd.sizeOf5 F rfl rfl rfl rfl (by omega) ?_
      clear H; intro w H
      refine sNil ?_
      refine hK29 _ _ ?_; clear hK29
      refine cReg ?_
      refine sBin F rfl rfl rfl rfl (bAddN (j := 1) ?_) ?_
      focus omega
      clear F a; intro a F
      refine sMv F rfl rfl rfl ?_;clear F a;intro a F
      refine sNil ?_
      (refine ⟨_, ?_, _, ⟨i + 1, _, rfl, rfl, ?_, hil, ?_⟩, F.to (by repeat (first | exact trivial | refine Le.cons rfl ?_))⟩
       · omega
       · first
         | (rw [hr2, List.length_append, hc]; rfl)
         | (rw [hsn, rdL_snoc, if_neg hk1]; exact hc)
       · first
         | (rw [hm2]; exact H.sel [1, 2, 3, 4, 5] rfl rfl)
         | (have hw : memL (memOf p) ((evsP z).take (i + 1)) = put (memL (memOf p) ((evsP z).take i)) e.loc.toNat e.val := by rw [hsn, memL_snoc]; unfold wrEv; rw [if_pos hk2]
            rw [hw]; exact H.sel [1, 2, 3, 4, 5] rfl rfl)
         | (have hw : memL (memOf p) ((evsP z).take (i + 1)) = memL (memOf p) ((evsP z).take i) := by rw [hsn, memL_snoc]; unfold wrEv; rw [if_neg hk2]
            rw [hw]; exact H.sel [1, 2, 3, 4, 5] rfl rfl))
     replace h105 := beqF h105
     have hk2 : ¬ e.kind = 2 := h105
     refine wp_skip ?_
     refine hK29 _ _ ?_; clear hK29
     refine cReg ?_
     refine sBin F rfl rfl rfl rfl (bAddN (j := 1) ?_) ?_
     focus omega
     clear F a; intro a F
     refine sMv F rfl rfl rfl ?_;clear F a;intro a F
     refine sNil ?_
     (refine ⟨_, ?_, _, ⟨i + 1, _, rfl, rfl, ?_, hil, ?_⟩, F.to (by repeat (first | exact trivial | refine Le.cons rfl ?_))⟩
      · omega
      · first
        | (rw [hr2, List.length_append, hc]; rfl)
        | (rw [hsn, rdL_snoc, if_neg hk1]; exact hc)
      · first
        | (rw [hm2]; exact H.sel [1, 2, 3, 4, 5] rfl rfl)
        | (have hw : memL (memOf p) ((evsP z).take (i + 1)) = put (memL (memOf p) ((evsP z).take i)) e.loc.toNat e.val := by rw [hsn, memL_snoc]; unfold wrEv; rw [if_pos hk2]
           rw [hw]; exact H.sel [1, 2, 3, 4, 5] rfl rfl)
        | (have hw : memL (memOf p) ((evsP z).take (i + 1)) = memL (memOf p) ((evsP z).take i) := by rw [hsn, memL_snoc]; unfold wrEv; rw [if_neg hk2]
           rw [hw]; exact H.sel [1, 2, 3, 4, 5] rfl rfl))
    replace h80 := of_decide_eq_false h80
    have hie : (evsP z).take i = evsP z := List.take_of_length_le (by have h80' : ¬ ((i : Nat) : Int) < (((evsP z).length : Nat) : Int) := h80; omega)
    refine wp_exit ?_
    refine hK25 _ _ ?_; clear hK25
    refine cSeq (fun K36 hK36 => ?_)
    refine cReg ?_
    refine sLrB Tryd.underlying36 rfl Tryd.sizeOf36 F rfl rfl rfl (H.whole 1 rfl) ?_;clear F a;intro a F
    refine sFa (f := 1) (k := 32) Tryd.underlying38 rfl Tryd.sizeOf36 rfl rfl F rfl rfl rfl ?_;clear F a;intro a F
    refine sLrB Tryd.underlying36 rfl Tryd.sizeOf36 F rfl rfl rfl (H.rangeB 4 _ 6 rfl (by omega)) ?_;clear F a;intro a F
    refine sBin F rfl rfl rfl rfl (bEqY eT36 gT36 rfl) ?_;clear F a;intro a F
    refine sMv F rfl rfl rfl ?_;clear F a;intro a F
    refine F.split 117 rfl ?_ ?_ <;> (clear F; intro h117 F)
    ·
     refine sFa (f := 4) (k := 4) Tryd.underlying45 rfl Tryd.sizeOf34 rfl rfl F rfl rfl rfl ?_;clear F a;intro a F
     refine sLrB Tryd.underlying34 rfl Tryd.sizeOf34 F rfl rfl rfl (show World.rangeAt _ _ _ (bs 8 z.regs) from H.range 2 rfl 4 8) ?_;clear F a;intro a F
     refine sFa (f := 0) (k := 0) Tryd.underlying38 rfl Tryd.sizeOf35 rfl rfl F rfl rfl rfl ?_;clear F a;intro a F
     refine sIa (j := 0) Tryd.underlying35 Tryd.sizeOf34 F rfl rfl rfl rfl ?_ ?_
     focus (first | omega | decide | (simp; omega))
     clear F a; intro a F
     refine sLrB Tryd.underlying34 rfl Tryd.sizeOf34 F rfl rfl rfl (H.rangeB0 4 8 rfl (by omega)) ?_;clear F a;intro a F
     refine sBin F rfl rfl rfl rfl (bEqY eT34 gT34 rfl) ?_;clear F a;intro a F
     refine sPk F rfl rfl rfl rfl ?_;clear F a;intro a F
     refine sMv F rfl rfl rfl ?_;clear F a;intro a F
     refine F.split 125 rfl ?_ ?_ <;> (clear F; intro h125 F)
     ·
      refine sCall Tryd.call5 F rfl rfl rfl (awake_any _ (hN.own H)) ?_
      rintro e w ⟨rfl, hb⟩
      replace H := H.grow hb; clear hb
      refine ⟨_, rfl, ?_⟩
      clear F a; intro a F
      refine sPk F rfl rfl rfl rfl ?_;clear F a;intro a F
      refine sAs F rfl rfl rfl ?_;clear F a;intro a F
      refine sNil ?_
      refine hK36 _ _ ?_; clear hK36
      refine wp_ret ?_
      simp only [Exit.inBlock, Exit.then]
      refine bRet Tryd.results3 F rfl ?_
      exact ⟨rfl, H.below⟩
     exact notEq (same_true fun q hq => hAl.regs q hq) h125
    exact notEq (same_true fun q hq => by rw [hie]; exact hAl.mem q hq) h117
   replace h74 := notF h74
   have hje : j < vs.length := of_decide_eq_true (hmo.symm.trans h74)
   obtain ⟨N, zz, pre, e1, rest, hnx⟩ := next_read hok hAl.run hje
   refine wp_skip ?_
   refine hK21 _ _ ?_; clear hK21
   refine cSeq (fun K37 hK37 => ?_)
   refine cRegRO (by kernel_rfl) H ?_
   replace H := H.drew
   refine eTakeF (k := 0) (i := 0) rfl (by kernel_rfl) F rfl rfl rfl (fun w => rFa (f := 3) (k := 3) Tryd.underlying29 rfl Tryd.sizeOf24 rfl rfl F rfl) (H.sel [0, 1, 2, 3, 4, 5, 6, 7, 8, 9] rfl rfl) (fun _ _ _ h => h) ?_;clear F a;intro a F
   refine eTake (k := 1) (i := 1) rfl (by kernel_rfl) F rfl rfl rfl rfl (fun w H => rLd Tryd.isAgg24 F rfl (H.cell 9 rfl rfl)) (H.sel [0, 1, 2, 3, 4, 5, 6, 7, 8, 9] rfl rfl) (fun _ _ _ h => h) ?_;clear F a;intro a F
   refine eTakeF (k := 2) (i := 2) rfl (by kernel_rfl) F rfl rfl rfl (fun w => rIx (j := 0) Tryd.underlying24 Tryd.sizeOf33 F rfl rfl ?_) (H.sel [0, 1, 2, 3, 4, 5, 6, 7, 8, 9] rfl rfl) (fun _ _ _ h => h) ?_
   focus (first | omega | decide | (simp; omega))
   clear F a; intro a F
   refine eTake (k := 3) (i := 3) rfl (by kernel_rfl) F rfl rfl rfl rfl (fun w H => rLd Tryd.isAgg33 F rfl (H.cell 8 rfl rfl)) (H.sel [0, 1, 2, 3, 4, 5, 6, 7, 8, 9] rfl rfl) (fun _ _ _ h => h) ?_;clear F a;intro a F
   refine eTakeF (k := 4) (i := 4) rfl (by kernel_rfl) F rfl rfl rfl (fun w => rMv F rfl) (H.sel [0, 1, 2, 3, 4, 5, 6, 7, 8, 9] rfl rfl) (fun _ _ _ h => h) ?_;clear F a;intro a F
   refine eTake (k := 5) (i := 5) rfl (by kernel_rfl) F rfl rfl rfl rfl (fun w H => rLrB Tryd.underlying36 rfl Tryd.sizeOf36 F rfl (H.whole 6 rfl)) (H.sel [0, 1, 2, 3, 4, 5, 6, 7, 8, 9] rfl rfl) (fun _ _ _ h => h) ?_;clear F a;intro a F
   refine eOne (k := 6) (i := 6) rfl (by kernel_rfl) F rfl (oCall Tryd.call8 F rfl rfl (read_any BT CT l A9 c9 _ (vs.take j) (memOf p) (vs.getD j 0) N zz pre e1 rest _ hnx (RowsAt.own hT2 H) hT3 (show RowsAt _ _ 1 _ by rw [← hrows]; exact H.rowsAt 5 rfl hro (by decide)) hrl (by omega) (hN.own H) (hT.own H)) ?_)
   rintro e w ⟨rfl, hb⟩
   replace H := H.grow hb; clear hb
   refine ⟨_, rfl, ?_⟩
   clear F a; intro a F
   refine ePartO (by kernel_rfl) H ?_
   refine eTakeF (k := 7) (i := 7) rfl (by kernel_rfl) F rfl rfl rfl (fun w => rMv F rfl) (H.sel [0, 1, 2, 3, 4, 5, 6, 7, 8, 9] rfl rfl) (fun _ _ _ h => h) ?_;clear F a;intro a F
   refine eTakeF (k := 8) (i := 8) rfl (by kernel_rfl) F rfl rfl rfl (fun w => rExt F rfl rfl) (H.sel [0, 1, 2, 3, 4, 5, 6, 7, 8, 9] rfl rfl) (fun _ _ _ h => h) ?_;clear F a;intro a F
   refine eTakeF (k := 9) (i := 9) rfl (by kernel_rfl) F rfl rfl rfl (fun w => rExt F rfl rfl) (H.sel [0, 1, 2, 3, 4, 5, 6, 7, 8, 9] rfl rfl) (fun _ _ _ h => h) ?_;clear F a;intro a F
   refine eTakeF (k := 10) (i := 10) rfl (by kernel_rfl) F rfl rfl rfl (fun w => rAs F rfl) (H.sel [0, 1, 2, 3, 4, 5, 6, 7, 8, 9] rfl rfl) (fun _ _ _ h => h) ?_;clear F a;intro a F
   refine eTakeF (k := 11) (i := 11) rfl (by kernel_rfl) F rfl rfl rfl (fun w => rAs F rfl) (H.sel [0, 1, 2, 3, 4, 5, 6, 7, 8, 9] rfl rfl) (fun _ _ _ h => h) ?_;clear F a;intro a F
   refine eNil (k := 12) (by kernel_rfl) ?_
   refine hK37 _ _ ?_; clear hK37
   refine cSeq (fun K38 hK38 => ?_)
   refine cSeq (fun K39 hK39 => ?_)
   refine cReg ?_
   refine sMv F rfl rfl rfl ?_;clear F a;intro a F
   refine sNot F rfl rfl rfl ?_;clear F a;intro a F
   refine sNil ?_
   refine hK39 _ _ ?_; clear hK39
   refine cIf F rfl (fun h139 => ?_) (fun h139 => ?_)
   ·
    replace h139 := notT h139
    exact Bool.noConfusion h139
   replace h139 := notF h139
   refine wp_skip ?_
   refine hK38 _ _ ?_; clear hK38
   refine cReg ?_
   refine sMv F rfl rfl rfl ?_;clear F a;intro a F
   refine sMv F rfl rfl rfl ?_;clear F a;intro a F
   refine sBs1 H Tryd.underlying23 Tryd.sizeOf5 Tryd.zeroValue5 rfl F rfl rfl rfl rfl ?_
   clear F a H; intro b142 a w F H
   refine sApp1 (bytes := 1) H 6 Tryd.underlying23 Tryd.typeInfo5 rfl rfl rfl rfl rfl rfl F rfl rfl rfl rfl rfl (H.whole 0 rfl) rfl ?s1 ?s2 ?_
   case s1 => first | rfl | (repeat (first | exact one_nil | (apply one_cons; · first | rfl | assumption | exact one_bif rfl rfl)))
   case s2 => omega
   clear F a H; intro A143 c143 a w F H
   refine sAs F rfl rfl rfl ?_;clear F a;intro a F
   refine sNil ?_
   refine hK17 _ _ ?_; clear hK17
   refine cReg ?_
   refine sBin F rfl rfl rfl rfl (bAddN (j := 1) ?_) ?_
   focus omega
   clear F a; intro a F
   refine sMv F rfl rfl rfl ?_;clear F a;intro a F
   refine sNil ?_
   (refine ⟨_, ?_, _, ⟨j + 1, _, A143, c143, rfl, rfl, ?_, hje, H.sel [6, 7, 8, 9, 10] rfl rfl⟩, F.to (by repeat (first | exact trivial | refine Le.cons rfl ?_))⟩
    · omega
    · rw [take_snoc (show vs[j]? = some (vs.getD j 0) by rw [List.getD_eq_getElem?_getD, List.getElem?_eq_getElem hje]; rfl), List.map_append, ← hrows]; rfl)
  replace h60 := of_decide_eq_false h60
  omega
end Go.Proofs.YtklpiodciblabaaDoor
