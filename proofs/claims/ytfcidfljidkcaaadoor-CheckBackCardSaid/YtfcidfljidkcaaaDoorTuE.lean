/-
  WALK2. Package check: Turn. Conditions: the program and the numbers lie in memory; block 0 holds the table of needs; sizes.
-/
import Derived.Test.YtfcidfljidkcaaaDoorTuD
import Derived.Test.YtfcidfljidkcaaaDoorTuQ
set_option linter.unusedSimpArgs false
set_option linter.unusedVariables false
namespace Go.Proofs.YtfcidfljidkcaaaDoor
open Go.RowKit
set_option maxRecDepth 100000
/-- What Turn has made of a valid program and two permutations. -/
def TurnOut (p : Prg) (T L : List Int) (w0 w : World) (h : Nat) (v : Value) : Prop :=
  ∃ LA LC IA IC TA TC rows S3 ccs S4, v = .agg ([.string p.name, .slice LA p.locs.length LC, .slice IA p.locs.length IC, .slice TA p.threads.length TC, Go.Proofs.YtfcidfljidkcaaaDoor.b8 p.ask] ++ ccs).toArray ∧ rows.length = p.threads.length ∧ (∀ r ∈ rows, r.length = 1) ∧
    Own w0 none w [.tree S4 h ccs (turnH T L h p.cond), .rws 46 1 (.slice TA p.threads.length TC) rows, .grove S3 rows (turnPr h p T L).threads, .rws 5 1 (.slice IA p.locs.length IC) ((turnPr h p T L).init.map fun x => [Go.Proofs.YtfcidfljidkcaaaDoor.b8 x]), .rws 9 1 (.slice LA p.locs.length LC) ((turnPr h p T L).locs.map fun s => [.string s])]
theorem rows_take {α : Type} {g : α → List Value} {l : List α} {k : Nat} {x : α} (h : l[k]? = some x) : (l.take k).map g ++ [g x] = (l.take (k + 1)).map g := by
  rw [List.take_add_one, h, List.map_append]; rfl
set_option maxHeartbeats 16000000 in
theorem Turn_any (cs : List Value) (p : Prg) (LA : Option Addr) (LC : Nat) (IA : Option Addr) (IC : Nat) (TA : Option Addr) (TC h : Nat) (ccs : List Value) (A : Option Addr) (C : Nat) (T : List Int) (B : Option Addr) (D : Nat) (L : List Int) (nT nL : Nat) (w0 : World)
    (hp : ProgIn w0 cs p LA LC IA IC TA TC h ccs) (hN : NeedsAt w0) (hs : rightErr p = 0 → Slim h p.cond) (hA : RowsAt w0 A 1 (intsZ T)) (hB : RowsAt w0 B 1 (intsZ L)) (hnT : nT = T.length) (hnL : nL = L.length) (hTl : T.length ≤ 9223372036854775807) (hLl : L.length ≤ 9223372036854775807) :
    Calls Tryd.prog 6 #[.agg cs.toArray, .slice A nT C, .slice B nL D] w0 fun e w' =>
      (rightErr p ≠ 0 ∧ e = .returned (.tuple #[.agg zeroPr.toArray, .int .i64 (rightErr p)]) ∧ Below w0.heap.size w0 w') ∨ (rightErr p = 0 ∧ ¬ (IsPerm p.threads.length T ∧ IsPerm p.locs.length L) ∧ e = .returned (.tuple #[.agg zeroPr.toArray, .int .i64 2]) ∧ Below w0.heap.size w0 w') ∨ (rightErr p = 0 ∧ IsPerm p.threads.length T ∧ IsPerm p.locs.length L ∧ ∃ v, e = .returned (.tuple #[v, .int .i64 0]) ∧ TurnOut p T L w0 w' h v) := by
  subst hnT hnL
  have hP : ProgAt w0 cs p := ⟨_, _, _, _, _, _, _, _, hp⟩
  obtain ⟨c1, c2, c3, c4, A5, m5, C5, rfl⟩ := condShape hp.cond
  have hcs := hp.cs
  simp only [List.cons_append, List.nil_append] at hcs
  subst hcs
  have H := Own.start w0 none
  refine enterF Tryd.func6 rfl Tryd.ntmps6 rfl (fun a F => ?_)
  refine cSeq (fun K1 hK1 => ?_)
  refine cReg ?_
  refine sBx H F rfl rfl rfl ?_
  clear F a H; intro b3 a w F H
  refine sAl H Tryd.zeroValue29 F rfl rfl ?_
  clear F a H; intro b6 a w F H
  refine sAs F rfl rfl rfl ?_;clear F a;intro a F
  refine sNil ?_
  refine hK1 _ _ ?_; clear hK1
  refine cSeq (fun K2 hK2 => ?_)
  refine cSeq (fun K3 hK3 => ?_)
  refine cReg ?_
  refine sLr Tryd.underlying29 rfl ?si F rfl rfl rfl (H.whole 1 rfl) ?_
  case si => exact info_size Tryd.sizeOf29
  clear F a; intro a F
  refine sCall Tryd.call8 F rfl rfl rfl (right_any' _ p _ (hP.own H) (hN.own H)) ?_
  rintro e w ⟨rfl, hb⟩
  replace H := H.grow hb; clear hb
  refine ⟨_, rfl, ?_⟩
  clear F a; intro a F
  refine sAs F rfl rfl rfl ?_;clear F a;intro a F
  refine sNil ?_
  refine hK3 _ _ ?_; clear hK3
  refine cSeq (fun K4 hK4 => ?_)
  refine cReg ?_
  refine sMv F rfl rfl rfl ?_;clear F a;intro a F
  refine sBin F rfl rfl rfl rfl bNeq ?_;clear F a;intro a F
  refine sNil ?_
  refine hK4 _ _ ?_; clear hK4
  refine cIf F rfl (fun h22 => ?_) (fun h22 => ?_)
  ·
   replace h22 := bneT h22
   refine cSeq (fun K5 hK5 => ?_)
   refine cReg ?_
   refine sBd (places := [(0, 1), (1, 1), (2, 1), (3, 1), (4, 1), (5, 5)]) Tryd.zeroValue29 Tryd.underlying29 (by kernel_rfl) F rfl rfl rfl rfl ?_;clear F a;intro a F
   refine sMv F rfl rfl rfl ?_;clear F a;intro a F
   refine sSr H 0 ?si F rfl rfl rfl ?s1 rfl rfl ?_
   case si => exact info_size Tryd.sizeOf29
   case s1 => first | rfl | (repeat (first | exact one_nil | (apply one_cons; · first | rfl | assumption | exact one_bif rfl rfl)))
   clear H; intro w H
   refine sAs F rfl rfl rfl ?_;clear F a;intro a F
   refine sNil ?_
   refine hK5 _ _ ?_; clear hK5
   refine wp_ret ?_
   simp only [Exit.then]
   refine bRetC1 Tryd.results6 F rfl rfl Tryd.underlying29 rfl H 0 rfl Tryd.sizeOf29 rfl ?_
   first
     | exact .inl ⟨h22, rfl, H.below⟩
     | (have hno : o30 = false := h34
        exact .inr (.inl ⟨h0, fun hh => hT0 hno hh.1, rfl, H.below⟩))
     | (have hno : o41 = false := h45
        exact .inr (.inl ⟨h0, fun hh => hL0 hno hh.2, rfl, H.below⟩))
     | (refine .inr (.inr ⟨h0, hpT, hpL, _, rfl, ?_⟩)
        subst hrj
        subst hq1 hq2
        rw [hj1, hj2, hjl] at H
        rw [hj1, hj2, hjl]
        exact ⟨A1, k1, A2, k2, A3, k3, rows, S, _, S9, rfl, hjl, hr1, H.sel [0, 0, 0, 0, 0] rfl rfl⟩)
  replace h22 := bneF h22
  have h0 : rightErr p = 0 := by omega
  replace hs := hs h0
  have V := valid h0
  have h6 := V.locs6
  have h4 := V.thr4
  have hil := V.init
  have h5 : condOk p.threads.length p.locs.length 20 p.cond = true := right_demand h0 5 (by omega)
  refine wp_skip ?_
  refine hK2 _ _ ?_; clear hK2
  refine cSeq (fun K6 hK6 => ?_)
  refine cReg ?_
  refine sMv F rfl rfl rfl ?_;clear F a;intro a F
  refine sFa (f := 3) (k := 3) Tryd.underlying29 rfl Tryd.sizeOf24 rfl rfl F rfl rfl rfl ?_;clear F a;intro a F
  refine sLd Tryd.isAgg24 F rfl rfl rfl (H.cell 1 rfl rfl) ?_;clear F a;intro a F
  refine sLen Tryd.underlying24 F rfl rfl rfl ?_;clear F a;intro a F
  refine sCall Tryd.call17 F rfl rfl rfl (inverse_two A C T p.threads.length _ (hA.own H) (by omega) hTl) ?_
  rintro e w ⟨A30, n30, k30, o30, R30, rfl, hT1, hT0, H2⟩
  replace H := H.join H2; clear H2
  refine ⟨_, rfl, ?_⟩
  clear F a; intro a F
  refine sMv F rfl rfl rfl ?_;clear F a;intro a F
  refine sExt F rfl rfl rfl rfl ?_;clear F a;intro a F
  refine sExt F rfl rfl rfl rfl ?_;clear F a;intro a F
  refine sAl H Tryd.zeroValue23 F rfl rfl ?_
  clear F a H; intro b9 a w F H
  refine sSt H 0 Tryd.sizeOf23 F rfl rfl rfl rfl rfl rfl ?_
  clear H; intro w H
  refine sAs F rfl rfl rfl ?_;clear F a;intro a F
  refine sNil ?_
  refine hK6 _ _ ?_; clear hK6
  refine cSeq (fun K7 hK7 => ?_)
  refine cSeq (fun K8 hK8 => ?_)
  refine cReg ?_
  refine sMv F rfl rfl rfl ?_;clear F a;intro a F
  refine sNot F rfl rfl rfl ?_;clear F a;intro a F
  refine sNil ?_
  refine hK8 _ _ ?_; clear hK8
  refine cIf F rfl (fun h34 => ?_) (fun h34 => ?_)
  ·
   replace h34 := notT h34
   refine cSeq (fun K9 hK9 => ?_)
   refine cReg ?_
   refine sBd (places := [(0, 1), (1, 1), (2, 1), (3, 1), (4, 1), (5, 5)]) Tryd.zeroValue29 Tryd.underlying29 (by kernel_rfl) F rfl rfl rfl rfl ?_;clear F a;intro a F
   refine sSr H 2 ?si F rfl rfl rfl ?s1 rfl rfl ?_
   case si => exact info_size Tryd.sizeOf29
   case s1 => first | rfl | (repeat (first | exact one_nil | (apply one_cons; · first | rfl | assumption | exact one_bif rfl rfl)))
   clear H; intro w H
   refine sAs F rfl rfl rfl ?_;clear F a;intro a F
   refine sNil ?_
   refine hK9 _ _ ?_; clear hK9
   refine wp_ret ?_
   simp only [Exit.then]
   refine bRetC1 Tryd.results6 F rfl rfl Tryd.underlying29 rfl H 2 rfl Tryd.sizeOf29 rfl ?_
   first
     | exact .inl ⟨h22, rfl, H.below⟩
     | (have hno : o30 = false := h34
        exact .inr (.inl ⟨h0, fun hh => hT0 hno hh.1, rfl, H.below⟩))
     | (have hno : o41 = false := h45
        exact .inr (.inl ⟨h0, fun hh => hL0 hno hh.2, rfl, H.below⟩))
     | (refine .inr (.inr ⟨h0, hpT, hpL, _, rfl, ?_⟩)
        subst hrj
        subst hq1 hq2
        rw [hj1, hj2, hjl] at H
        rw [hj1, hj2, hjl]
        exact ⟨A1, k1, A2, k2, A3, k3, rows, S, _, S9, rfl, hjl, hr1, H.sel [0, 0, 0, 0, 0] rfl rfl⟩)
  replace h34 := notF h34
  obtain ⟨hpT, bt, ct, rfl, rfl, rfl, hct, rfl⟩ := hT1 h34
  refine wp_skip ?_
  refine hK7 _ _ ?_; clear hK7
  refine cSeq (fun K10 hK10 => ?_)
  refine cReg ?_
  refine sMv F rfl rfl rfl ?_;clear F a;intro a F
  refine sFa (f := 1) (k := 1) Tryd.underlying29 rfl Tryd.sizeOf22 rfl rfl F rfl rfl rfl ?_;clear F a;intro a F
  refine sLd Tryd.isAgg22 F rfl rfl rfl (H.cell 3 rfl rfl) ?_;clear F a;intro a F
  refine sLen Tryd.underlying22 F rfl rfl rfl ?_;clear F a;intro a F
  refine sCall Tryd.call17 F rfl rfl rfl (inverse_two B D L p.locs.length _ (hB.own H) (by omega) hLl) ?_
  rintro e w ⟨A41, n41, k41, o41, R41, rfl, hL1, hL0, H2⟩
  replace H := H.join H2; clear H2
  refine ⟨_, rfl, ?_⟩
  clear F a; intro a F
  refine sMv F rfl rfl rfl ?_;clear F a;intro a F
  refine sExt F rfl rfl rfl rfl ?_;clear F a;intro a F
  refine sExt F rfl rfl rfl rfl ?_;clear F a;intro a F
  refine sAl H Tryd.zeroValue23 F rfl rfl ?_
  clear F a H; intro b11 a w F H
  refine sSt H 0 Tryd.sizeOf23 F rfl rfl rfl rfl rfl rfl ?_
  clear H; intro w H
  refine sAs F rfl rfl rfl ?_;clear F a;intro a F
  refine sNil ?_
  refine hK10 _ _ ?_; clear hK10
  refine cSeq (fun K11 hK11 => ?_)
  refine cSeq (fun K12 hK12 => ?_)
  refine cReg ?_
  refine sMv F rfl rfl rfl ?_;clear F a;intro a F
  refine sNot F rfl rfl rfl ?_;clear F a;intro a F
  refine sNil ?_
  refine hK12 _ _ ?_; clear hK12
  refine cIf F rfl (fun h45 => ?_) (fun h45 => ?_)
  ·
   replace h45 := notT h45
   refine cSeq (fun K13 hK13 => ?_)
   refine cReg ?_
   refine sBd (places := [(0, 1), (1, 1), (2, 1), (3, 1), (4, 1), (5, 5)]) Tryd.zeroValue29 Tryd.underlying29 (by kernel_rfl) F rfl rfl rfl rfl ?_;clear F a;intro a F
   refine sSr H 4 ?si F rfl rfl rfl ?s1 rfl rfl ?_
   case si => exact info_size Tryd.sizeOf29
   case s1 => first | rfl | (repeat (first | exact one_nil | (apply one_cons; · first | rfl | assumption | exact one_bif rfl rfl)))
   clear H; intro w H
   refine sAs F rfl rfl rfl ?_;clear F a;intro a F
   refine sNil ?_
   refine hK13 _ _ ?_; clear hK13
   refine wp_ret ?_
   simp only [Exit.then]
   refine bRetC1 Tryd.results6 F rfl rfl Tryd.underlying29 rfl H 4 rfl Tryd.sizeOf29 rfl ?_
   first
     | exact .inl ⟨h22, rfl, H.below⟩
     | (have hno : o30 = false := h34
        exact .inr (.inl ⟨h0, fun hh => hT0 hno hh.1, rfl, H.below⟩))
     | (have hno : o41 = false := h45
        exact .inr (.inl ⟨h0, fun hh => hL0 hno hh.2, rfl, H.below⟩))
     | (refine .inr (.inr ⟨h0, hpT, hpL, _, rfl, ?_⟩)
        subst hrj
        subst hq1 hq2
        rw [hj1, hj2, hjl] at H
        rw [hj1, hj2, hjl]
        exact ⟨A1, k1, A2, k2, A3, k3, rows, S, _, S9, rfl, hjl, hr1, H.sel [0, 0, 0, 0, 0] rfl rfl⟩)
  replace h45 := notF h45
  obtain ⟨hpL, bl, cl, rfl, rfl, rfl, hcl, rfl⟩ := hL1 h45
  refine wp_skip ?_
  refine hK11 _ _ ?_; clear hK11
  refine cSeq (fun K14 hK14 => ?_)
  refine cReg ?_
  refine sFa (f := 0) (k := 0) Tryd.underlying29 rfl Tryd.sizeOf9 rfl rfl F rfl rfl rfl ?_;clear F a;intro a F
  refine sLd Tryd.isAgg9 F rfl rfl rfl (H.cell 5 rfl rfl) ?_;clear F a;intro a F
  refine sFa (f := 4) (k := 4) Tryd.underlying29 rfl Tryd.sizeOf5 rfl rfl F rfl rfl rfl ?_;clear F a;intro a F
  refine sLd Tryd.isAgg5 F rfl rfl rfl (H.cell 5 rfl rfl) ?_;clear F a;intro a F
  refine sBd (places := [(0, 1), (1, 1), (2, 1), (3, 1), (4, 1), (5, 5)]) Tryd.zeroValue29 Tryd.underlying29 (by kernel_rfl) F rfl rfl rfl rfl ?_;clear F a;intro a F
  refine sAl H Tryd.zeroValue29 F rfl rfl ?_
  clear F a H; intro b12 a w F H
  refine sSr H 0 ?si F rfl rfl rfl ?s1 rfl rfl ?_
  case si => exact info_size Tryd.sizeOf29
  case s1 => first | rfl | (repeat (first | exact one_nil | (apply one_cons; · first | rfl | assumption | exact one_bif rfl rfl)))
  clear H; intro w H
  refine sNil ?_
  refine hK14 _ _ ?_; clear hK14
  refine cSeq (fun K15 hK15 => ?_)
  refine cSeq (fun K16 hK16 => ?_)
  refine cReg ?_
  refine sMv F rfl rfl rfl ?_;clear F a;intro a F
  refine sLen Tryd.underlying35 F rfl rfl rfl ?_;clear F a;intro a F
  refine sMv F rfl rfl rfl ?_;clear F a;intro a F
  refine sNil ?_
  refine hK16 _ _ ?_; clear hK16
  refine wp_block ?_
  refine cLoopR [1, 3, 6, 9, 11, 12, 52, 53] (fun m ups w => ∃ (j : Nat) (A1 : Option Addr) (k1 : Nat) (A2 : Option Addr) (k2 : Nat) (rows1 rows2 : List (List Value)), m = L.length - j ∧ ups = [(54, .int .i64 ((j : Nat) : Int))] ∧ j ≤ p.locs.length ∧ rows1.length = j ∧ rows2.length = j ∧ rows1 = ((turnPr h p T L).locs.take j).map (fun s => [.string s]) ∧ rows2 = ((turnPr h p T L).init.take j).map (fun x => [Go.Proofs.YtfcidfljidkcaaaDoor.b8 x]) ∧ Own w0 none w [.rws 5 1 (.slice A2 rows2.length k2) rows2, .rws 9 1 (.slice A1 rows1.length k1) rows1, .blk b12 [.string p.name, .slice A1 rows1.length k1, .slice A2 rows2.length k2, .slice none 0 0, Go.Proofs.YtfcidfljidkcaaaDoor.b8 p.ask, .int .u8 0, .int .u8 0, .int .u8 0, .int .u8 0, .slice none 0 0] 29, .blk b11 [.slice (some ⟨bl, 0, none⟩) p.locs.length p.locs.length] 23, .blk bl cl 5, .blk b9 [.slice (some ⟨bt, 0, none⟩) p.threads.length p.threads.length] 23, .blk bt ct 5, .blk b6 zeroPr 29, .blk b3 [.string p.name, .slice LA p.locs.length LC, .slice IA p.init.length IC, .slice TA p.threads.length TC, Go.Proofs.YtfcidfljidkcaaaDoor.b8 p.ask, Go.Proofs.YtfcidfljidkcaaaDoor.b8 c1, Go.Proofs.YtfcidfljidkcaaaDoor.b8 c2, Go.Proofs.YtfcidfljidkcaaaDoor.b8 c3, Go.Proofs.YtfcidfljidkcaaaDoor.b8 c4, .slice A5 m5 C5] 29]) F (L.length) [(54, .int .i64 ((0 : Nat) : Int))] (by repeat (first | exact SubR.nil | (apply SubR.cons; · rfl))) ?_ ?_ ?_
  · exact ⟨0, none, 0, none, 0, [], [], rfl, rfl, Nat.zero_le _, rfl, rfl, rfl, rfl, ((H.sel [0, 1, 2, 3, 4, 5, 6] rfl rfl).nilRws 9 1).nilRws 5 1⟩
  · repeat (first | exact trivial | refine Le.cons rfl ?_)
  clear F
  clear H
  intro m ups a w hI F
  obtain ⟨j, A1, k1, A2, k2, rows1, rows2, rfl, rfl, hj, hj1, hj2, hr1, hr2, H⟩ := hI
  refine cSeq (fun K17 hK17 => ?_)
  refine cReg ?_
  refine sBin F rfl rfl rfl rfl bLss ?_;clear F a;intro a F
  refine sNil ?_
  refine hK17 _ _ ?_; clear hK17
  refine cSeq (fun K18 hK18 => ?_)
  refine cIf F rfl (fun h55 => ?_) (fun h55 => ?_)
  ·
   replace h55 := of_decide_eq_true h55
   have hjl : j < p.locs.length := by have := hpL.len; omega
   obtain ⟨hx, hxn⟩ := idx_at hpL hjl
   obtain ⟨bB, oB, rfl, hBx⟩ := intsZ_at hB hx
   obtain ⟨s, hsx⟩ : ∃ s, p.locs[idxZ L j]? = some s := ⟨_, List.getElem?_eq_getElem hxn⟩
   obtain ⟨v, hvx⟩ : ∃ s, p.init[idxZ L j]? = some s := ⟨_, List.getElem?_eq_getElem (by omega)⟩
   obtain ⟨b1, o1, rfl, hL5⟩ := hp.locs.get hsx
   obtain ⟨b2, o2, rfl, hI5⟩ := hp.init (idxZ L j) [Go.Proofs.YtfcidfljidkcaaaDoor.b8 v] (by rw [List.getElem?_map, hvx]; rfl)
   have hI6 := hI5 0 _ rfl
   rw [Nat.add_zero] at hI6
   have hs1 : (turnPr h p T L).locs[j]? = some s := by rw [locs_at hpL hjl]; exact hsx
   have hs2 : (turnPr h p T L).init[j]? = some v := by rw [init_at hil hpL hjl]; exact hvx
   refine wp_skip ?_
   refine hK18 _ _ ?_; clear hK18
   refine cSeq (fun K19 hK19 => ?_)
   refine wp_block ?_
   refine cSeq (fun K20 hK20 => ?_)
   refine cReg ?_
   refine sIx Tryd.underlying35 Tryd.sizeOf3 F rfl rfl rfl rfl ?_ ?_
   focus (first | omega | decide | (simp; omega))
   clear F a; intro a F
   refine sLd Tryd.isAgg3 F rfl rfl rfl (H.arg hBx) ?_;clear F a;intro a F
   refine sAs F rfl rfl rfl ?_;clear F a;intro a F
   refine sNil ?_
   refine hK20 _ _ ?_; clear hK20
   refine cSeq (fun K21 hK21 => ?_)
   refine cRegRO (by kernel_rfl) H ?_
   replace H := H.drew
   refine eTakeF (k := 0) (i := 0) rfl (by kernel_rfl) F rfl rfl rfl (fun w => rFa (f := 1) (k := 1) Tryd.underlying29 rfl Tryd.sizeOf22 rfl rfl F rfl) (H.sel [0, 1, 2, 3, 4, 5, 6, 7, 8] rfl rfl) (fun _ _ _ h => h) ?_;clear F a;intro a F
   refine eTake (k := 1) (i := 1) rfl (by kernel_rfl) F rfl rfl rfl rfl (fun w H => rLd Tryd.isAgg22 F rfl (H.cell 2 rfl rfl)) (H.sel [0, 1, 2, 3, 4, 5, 6, 7, 8] rfl rfl) (fun _ _ _ h => h) ?_;clear F a;intro a F
   refine eTakeF (k := 2) (i := 2) rfl (by kernel_rfl) F rfl rfl rfl (fun w => rFa (f := 1) (k := 1) Tryd.underlying29 rfl Tryd.sizeOf22 rfl rfl F rfl) (H.sel [0, 1, 2, 3, 4, 5, 6, 7, 8] rfl rfl) (fun _ _ _ h => h) ?_;clear F a;intro a F
   refine eTake (k := 3) (i := 3) rfl (by kernel_rfl) F rfl rfl rfl rfl (fun w H => rLd Tryd.isAgg22 F rfl (H.cell 8 rfl rfl)) (H.sel [0, 1, 2, 3, 4, 5, 6, 7, 8] rfl rfl) (fun _ _ _ h => h) ?_;clear F a;intro a F
   refine eTakeF (k := 4) (i := 4) rfl (by kernel_rfl) F rfl rfl rfl (fun w => rMv F rfl) (H.sel [0, 1, 2, 3, 4, 5, 6, 7, 8] rfl rfl) (fun _ _ _ h => h) ?_;clear F a;intro a F
   refine eTakeF (k := 5) (i := 5) rfl (by kernel_rfl) F rfl rfl rfl (fun w => rIx Tryd.underlying22 Tryd.sizeOf9 F rfl rfl ?_) (H.sel [0, 1, 2, 3, 4, 5, 6, 7, 8] rfl rfl) (fun _ _ _ h => h) ?_
   focus omega
   clear F a; intro a F
   refine eTake (k := 6) (i := 6) rfl (by kernel_rfl) F rfl rfl rfl rfl (fun w H => rLd Tryd.isAgg9 F rfl (H.arg hL5)) (H.sel [0, 1, 2, 3, 4, 5, 6, 7, 8] rfl rfl) (fun _ _ _ h => h) ?_;clear F a;intro a F
   refine eOne (k := 7) (i := 7) rfl (by kernel_rfl) F rfl (oBs1 H Tryd.underlying22 Tryd.sizeOf9 Tryd.zeroValue9 rfl F rfl rfl rfl ?_)
   clear F a H; intro b65 a w F H
   refine eKeep (H.sel [1, 2, 3, 4, 5, 6, 7, 8, 9] rfl rfl) ?_
   refine eOne (k := 8) (i := 8) rfl (by kernel_rfl) F rfl (oApp1 (bytes := 16) H 2 Tryd.underlying22 Tryd.typeInfo9 rfl rfl rfl rfl rfl rfl F rfl rfl rfl rfl (H.whole 0 rfl) rfl ?s1 ?s2 ?_)
   case s1 => first | rfl | (repeat (first | exact one_nil | (apply one_cons; · first | rfl | assumption | exact one_bif rfl rfl)))
   case s2 => omega
   clear F a H; intro A66 c66 a w F H
   refine ePartO (by kernel_rfl) H ?_
   refine eTakeF (k := 9) (i := 9) rfl (by kernel_rfl) F rfl rfl rfl (fun w => rFa (f := 1) (k := 1) Tryd.underlying29 rfl Tryd.sizeOf22 rfl rfl F rfl) (H.sel [0, 1, 2, 3, 4, 5, 6, 7, 8, 9] rfl rfl) (fun _ _ _ h => h) ?_;clear F a;intro a F
   refine eOne (k := 10) (i := 10) rfl (by kernel_rfl) F rfl (oSt H 3 Tryd.sizeOf22 F rfl rfl rfl rfl rfl ?_)
   clear H; intro w H
   refine ePartO (by kernel_rfl) H ?_
   refine eNil (k := 11) (by kernel_rfl) ?_
   refine hK21 _ _ ?_; clear hK21
   refine cRegRO (by kernel_rfl) H ?_
   replace H := H.drew
   refine eTakeF (k := 0) (i := 0) rfl (by kernel_rfl) F rfl rfl rfl (fun w => rFa (f := 2) (k := 2) Tryd.underlying29 rfl Tryd.sizeOf23 rfl rfl F rfl) (H.sel [0, 1, 2, 3, 4, 5, 6, 7, 8, 9] rfl rfl) (fun _ _ _ h => h) ?_;clear F a;intro a F
   refine eTake (k := 1) (i := 1) rfl (by kernel_rfl) F rfl rfl rfl rfl (fun w H => rLd Tryd.isAgg23 F rfl (H.cell 3 rfl rfl)) (H.sel [0, 1, 2, 3, 4, 5, 6, 7, 8, 9] rfl rfl) (fun _ _ _ h => h) ?_;clear F a;intro a F
   refine eTakeF (k := 2) (i := 2) rfl (by kernel_rfl) F rfl rfl rfl (fun w => rFa (f := 2) (k := 2) Tryd.underlying29 rfl Tryd.sizeOf23 rfl rfl F rfl) (H.sel [0, 1, 2, 3, 4, 5, 6, 7, 8, 9] rfl rfl) (fun _ _ _ h => h) ?_;clear F a;intro a F
   refine eTake (k := 3) (i := 3) rfl (by kernel_rfl) F rfl rfl rfl rfl (fun w H => rLd Tryd.isAgg23 F rfl (H.cell 9 rfl rfl)) (H.sel [0, 1, 2, 3, 4, 5, 6, 7, 8, 9] rfl rfl) (fun _ _ _ h => h) ?_;clear F a;intro a F
   refine eTakeF (k := 4) (i := 4) rfl (by kernel_rfl) F rfl rfl rfl (fun w => rMv F rfl) (H.sel [0, 1, 2, 3, 4, 5, 6, 7, 8, 9] rfl rfl) (fun _ _ _ h => h) ?_;clear F a;intro a F
   refine eTakeF (k := 5) (i := 5) rfl (by kernel_rfl) F rfl rfl rfl (fun w => rIx Tryd.underlying23 Tryd.sizeOf5 F rfl rfl ?_) (H.sel [0, 1, 2, 3, 4, 5, 6, 7, 8, 9] rfl rfl) (fun _ _ _ h => h) ?_
   focus omega
   clear F a; intro a F
   refine eTake (k := 6) (i := 6) rfl (by kernel_rfl) F rfl rfl rfl rfl (fun w H => rLd Tryd.isAgg5 F rfl (H.arg hI6)) (H.sel [0, 1, 2, 3, 4, 5, 6, 7, 8, 9] rfl rfl) (fun _ _ _ h => h) ?_;clear F a;intro a F
   refine eOne (k := 7) (i := 7) rfl (by kernel_rfl) F rfl (oBs1 H Tryd.underlying23 Tryd.sizeOf5 Tryd.zeroValue5 rfl F rfl rfl rfl ?_)
   clear F a H; intro b75 a w F H
   refine eKeep (H.sel [1, 2, 3, 4, 5, 6, 7, 8, 9, 10] rfl rfl) ?_
   refine eOne (k := 8) (i := 8) rfl (by kernel_rfl) F rfl (oApp1 (bytes := 1) H 2 Tryd.underlying23 Tryd.typeInfo5 rfl rfl rfl rfl rfl rfl F rfl rfl rfl rfl (H.whole 0 rfl) rfl ?s1 ?s2 ?_)
   case s1 => first | rfl | (repeat (first | exact one_nil | (apply one_cons; · first | rfl | assumption | exact one_bif rfl rfl)))
   case s2 => omega
   clear F a H; intro A76 c76 a w F H
   refine ePartO (by kernel_rfl) H ?_
   refine eTakeF (k := 9) (i := 9) rfl (by kernel_rfl) F rfl rfl rfl (fun w => rFa (f := 2) (k := 2) Tryd.underlying29 rfl Tryd.sizeOf23 rfl rfl F rfl) (H.sel [0, 1, 2, 3, 4, 5, 6, 7, 8, 9, 10] rfl rfl) (fun _ _ _ h => h) ?_;clear F a;intro a F
   refine eOne (k := 10) (i := 10) rfl (by kernel_rfl) F rfl (oSt H 4 Tryd.sizeOf23 F rfl rfl rfl rfl rfl ?_)
   clear H; intro w H
   refine ePartO (by kernel_rfl) H ?_
   refine eNil (k := 11) (by kernel_rfl) ?_
   refine hK19 _ _ ?_; clear hK19
   refine cReg ?_
   refine sBin F rfl rfl rfl rfl (bAddN (j := 1) ?_) ?_
   focus omega
   clear F a; intro a F
   refine sMv F rfl rfl rfl ?_;clear F a;intro a F
   refine sNil ?_
   (refine ⟨_, ?_, _, ⟨j + 1, A66, c66, A76, c76, _, _, rfl, rfl, hjl, ?_, ?_, ?_, ?_, H.sel [2, 3, 4, 5, 6, 7, 8, 9, 10] rfl rfl⟩, F.to (by repeat (first | exact trivial | refine Le.cons rfl ?_))⟩
    · have := hpL.len; omega
    · simp; omega
    · simp; omega
    · rw [hr1]; exact rows_take hs1
    · rw [hr2]; exact rows_take hs2)
  replace h55 := of_decide_eq_false h55
  have hjl : j = p.locs.length := by have := hpL.len; omega
  subst hjl
  have hq1 : rows1 = (turnPr h p T L).locs.map (fun s => [.string s]) := by rw [hr1, List.take_of_length_le (by rw [locs_len]; exact Nat.le_refl _)]
  have hq2 : rows2 = (turnPr h p T L).init.map (fun x => [Go.Proofs.YtfcidfljidkcaaaDoor.b8 x]) := by rw [hr2, List.take_of_length_le (by rw [init_len]; exact Nat.le_refl _)]
  clear hr1 hr2
  refine wp_exit ?_
  refine hK15 _ _ ?_; clear hK15
  refine cSeq (fun K22 hK22 => ?_)
  refine cSeq (fun K23 hK23 => ?_)
  refine cReg ?_
  refine sMv F rfl rfl rfl ?_;clear F a;intro a F
  refine sLen Tryd.underlying35 F rfl rfl rfl ?_;clear F a;intro a F
  refine sMv F rfl rfl rfl ?_;clear F a;intro a F
  refine sNil ?_
  refine hK23 _ _ ?_; clear hK23
  refine wp_block ?_
  refine cLoopR [3, 6, 9, 11, 12, 79, 80] (fun m ups w => ∃ (j : Nat) (A3 : Option Addr) (k3 : Nat) (S : Nat → Prop) (rows : List (List Value)), m = T.length - j ∧ ups = [(81, .int .i64 ((j : Nat) : Int))] ∧ rows.length = j ∧ j ≤ p.threads.length ∧ (∀ r ∈ rows, r.length = 1) ∧ Own w0 none w [.grove S rows (turnPr h p T L).threads, .rws 46 1 (.slice A3 rows.length k3) rows, .rws 5 1 (.slice A2 rows2.length k2) rows2, .rws 9 1 (.slice A1 rows1.length k1) rows1, .blk b12 [.string p.name, .slice A1 rows1.length k1, .slice A2 rows2.length k2, .slice A3 rows.length k3, Go.Proofs.YtfcidfljidkcaaaDoor.b8 p.ask, .int .u8 0, .int .u8 0, .int .u8 0, .int .u8 0, .slice none 0 0] 29, .blk b11 [.slice (some ⟨bl, 0, none⟩) p.locs.length p.locs.length] 23, .blk bl cl 5, .blk b9 [.slice (some ⟨bt, 0, none⟩) p.threads.length p.threads.length] 23, .blk bt ct 5, .blk b6 zeroPr 29, .blk b3 [.string p.name, .slice LA p.locs.length LC, .slice IA p.init.length IC, .slice TA p.threads.length TC, Go.Proofs.YtfcidfljidkcaaaDoor.b8 p.ask, Go.Proofs.YtfcidfljidkcaaaDoor.b8 c1, Go.Proofs.YtfcidfljidkcaaaDoor.b8 c2, Go.Proofs.YtfcidfljidkcaaaDoor.b8 c3, Go.Proofs.YtfcidfljidkcaaaDoor.b8 c4, .slice A5 m5 C5] 29]) F (T.length) [(81, .int .i64 ((0 : Nat) : Int))] (by repeat (first | exact SubR.nil | (apply SubR.cons; · rfl))) ?_ ?_ ?_
  · exact ⟨0, none, 0, fun _ => False, [], rfl, rfl, rfl, Nat.zero_le _, (by simp), ((H.sel [0, 1, 2, 3, 4, 5, 6, 7, 8] rfl rfl).nilRws 46 1).void (.grove (fun _ => False) [] (turnPr h p T L).threads) (show groveP (fun _ => False) _ [] (turnPr h p T L).threads from fun j r t h1 => by simp at h1) (fun _ hb => hb)⟩
  · repeat (first | exact trivial | refine Le.cons rfl ?_)
  clear F
  clear H
  intro m ups a w hI F
  obtain ⟨j, A3, k3, S, rows, rfl, rfl, hrj, hj, hr1, H⟩ := hI
  refine cSeq (fun K24 hK24 => ?_)
  refine cReg ?_
  refine sBin F rfl rfl rfl rfl bLss ?_;clear F a;intro a F
  refine sNil ?_
  refine hK24 _ _ ?_; clear hK24
  refine cSeq (fun K25 hK25 => ?_)
  refine cIf F rfl (fun h82 => ?_) (fun h82 => ?_)
  ·
   replace h82 := of_decide_eq_true h82
   have hjl : j < p.threads.length := by have := hpT.len; omega
   obtain ⟨hx, hxn⟩ := idx_at hpT hjl
   obtain ⟨bA, oA, rfl, hAx⟩ := intsZ_at hA hx
   obtain ⟨t, htx⟩ : ∃ x, p.threads[idxZ T j]? = some x := ⟨_, List.getElem?_eq_getElem hxn⟩
   obtain ⟨b', off', B', C', rfl, hB', hR', hN'⟩ := hp.threads _ t htx
   have ht12 := V.long _ t htx
   have hti := V.ins _ t htx
   have hfj : (turnPr h p T L).threads[rows.length]? = some (t.map (turnI L)) := by rw [hrj, thr_atT hpT hjl, htx]; rfl
   refine wp_skip ?_
   refine hK25 _ _ ?_; clear hK25
   refine cSeq (fun K26 hK26 => ?_)
   refine wp_block ?_
   refine cSeq (fun K27 hK27 => ?_)
   refine cReg ?_
   refine sIx Tryd.underlying35 Tryd.sizeOf3 F rfl rfl rfl rfl ?_ ?_
   focus (first | omega | decide | (simp; omega))
   clear F a; intro a F
   refine sLd Tryd.isAgg3 F rfl rfl rfl (H.arg hAx) ?_;clear F a;intro a F
   refine sAs F rfl rfl rfl ?_;clear F a;intro a F
   refine sNil ?_
   refine hK27 _ _ ?_; clear hK27
   refine cSeq (fun K28 hK28 => ?_)
   refine cReg ?_
   refine sFa (f := 3) (k := 3) Tryd.underlying29 rfl Tryd.sizeOf24 rfl rfl F rfl rfl rfl ?_;clear F a;intro a F
   refine sLd Tryd.isAgg24 F rfl rfl rfl (H.cell 10 rfl rfl) ?_;clear F a;intro a F
   refine sMv F rfl rfl rfl ?_;clear F a;intro a F
   refine sIx Tryd.underlying24 Tryd.sizeOf46 F rfl rfl rfl rfl ?_ ?_
   focus omega
   clear F a; intro a F
   refine sLd Tryd.isAgg46 F rfl rfl rfl (H.arg hB') ?_;clear F a;intro a F
   refine sCall Tryd.call18 F rfl rfl rfl ((by have := cloneI_any B' C' (t.map Ins.cells) _ (hR'.own H) (by simp [Ins.cells]) (by simp [Ins.cells, Go.Proofs.YtfcidfljidkcaaaDoor.b8, Value.oneCell']) (by simp; omega); simp only [List.length_map] at this; exact this)) ?_
   rintro e w ⟨A90, k90, rfl, H2⟩
   replace H := H.join H2; clear H2; rw [← halfI_zero (f := turnI L)] at H
   refine ⟨_, rfl, ?_⟩
   clear F a; intro a F
   refine sAs F rfl rfl rfl ?_;clear F a;intro a F
   refine sNil ?_
   refine hK28 _ _ ?_; clear hK28
   refine cSeq (fun K29 hK29 => ?_)
   refine cSeq (fun K30 hK30 => ?_)
   refine cReg ?_
   refine sMv F rfl rfl rfl ?_;clear F a;intro a F
   refine sLen Tryd.underlying46 F rfl rfl rfl ?_;clear F a;intro a F
   refine sMv F rfl rfl rfl ?_;clear F a;intro a F
   refine sNil ?_
   refine hK30 _ _ ?_; clear hK30
   refine wp_block ?_
   refine cLoopR [3, 6, 9, 11, 12, 17, 79, 80, 81, 92] (fun m ups w => ∃ (k : Nat), m = t.length - k ∧ ups = [(93, .int .i64 ((k : Nat) : Int))] ∧ k ≤ t.length ∧ Own w0 none w [.rws 53 10 (.slice A90 t.length k90) (halfI (turnI L) t k), .grove S rows (turnPr h p T L).threads, .rws 46 1 (.slice A3 rows.length k3) rows, .rws 5 1 (.slice A2 rows2.length k2) rows2, .rws 9 1 (.slice A1 rows1.length k1) rows1, .blk b12 [.string p.name, .slice A1 rows1.length k1, .slice A2 rows2.length k2, .slice A3 rows.length k3, Go.Proofs.YtfcidfljidkcaaaDoor.b8 p.ask, .int .u8 0, .int .u8 0, .int .u8 0, .int .u8 0, .slice none 0 0] 29, .blk b11 [.slice (some ⟨bl, 0, none⟩) p.locs.length p.locs.length] 23, .blk bl cl 5, .blk b9 [.slice (some ⟨bt, 0, none⟩) p.threads.length p.threads.length] 23, .blk bt ct 5, .blk b6 zeroPr 29, .blk b3 [.string p.name, .slice LA p.locs.length LC, .slice IA p.init.length IC, .slice (some ⟨b', off', none⟩) p.threads.length TC, Go.Proofs.YtfcidfljidkcaaaDoor.b8 p.ask, Go.Proofs.YtfcidfljidkcaaaDoor.b8 c1, Go.Proofs.YtfcidfljidkcaaaDoor.b8 c2, Go.Proofs.YtfcidfljidkcaaaDoor.b8 c3, Go.Proofs.YtfcidfljidkcaaaDoor.b8 c4, .slice A5 m5 C5] 29]) F (t.length) [(93, .int .i64 ((0 : Nat) : Int))] (by repeat (first | exact SubR.nil | (apply SubR.cons; · rfl))) ?_ ?_ ?_
   · exact ⟨0, rfl, rfl, by omega, H.sel [0, 1, 2, 3, 4, 5, 6, 7, 8, 9, 10, 11] rfl rfl⟩
   · repeat (first | exact trivial | refine Le.cons rfl ?_)
   clear F
   clear H
   intro m ups a w hI F
   obtain ⟨k, rfl, rfl, hk2, H⟩ := hI
   refine cSeq (fun K31 hK31 => ?_)
   refine cReg ?_
   refine sBin F rfl rfl rfl rfl bLss ?_;clear F a;intro a F
   refine sNil ?_
   refine hK31 _ _ ?_; clear hK31
   refine cSeq (fun K32 hK32 => ?_)
   refine cIf F rfl (fun h94 => ?_) (fun h94 => ?_)
   ·
    replace h94 := of_decide_eq_true h94
    have hkl : k < t.length := by omega
    obtain ⟨x, hx2⟩ : ∃ x, t[k]? = some x := ⟨_, List.getElem?_eq_getElem hkl⟩
    have hlr : 0 < (halfI (turnI L) t k).length := by rw [halfI_len]; omega
    obtain ⟨gF, rfl⟩ := H.rwsAddr 0 rfl hlr
    have hio := inses_at hti hx2
    have hop : x.op ≤ 8 := by
     have c0 : (decide (1 ≤ x.op) && decide (x.op ≤ 8)) = true := ins_cond hio 0 (by decide)
     rw [Bool.and_eq_true, decide_eq_true_eq, decide_eq_true_eq] at c0
     exact c0.2
    have hop9 : x.op < 9 := by
     have : x.op.toNat ≤ 8 := hop
     exact (show x.op.toNat < 9 by omega)
    refine wp_skip ?_
    refine hK32 _ _ ?_; clear hK32
    refine cSeq (fun K33 hK33 => ?_)
    refine wp_block ?_
    refine cSeq (fun K34 hK34 => ?_)
    refine cReg ?_
    refine sMv F rfl rfl rfl ?_;clear F a;intro a F
    refine sAs F rfl rfl rfl ?_;clear F a;intro a F
    refine sNil ?_
    refine hK34 _ _ ?_; clear hK34
    refine cSeq (fun K35 hK35 => ?_)
    refine cReg ?_
    refine sMv F rfl rfl rfl ?_;clear F a;intro a F
    refine sMv F rfl rfl rfl ?_;clear F a;intro a F
    refine sIx Tryd.underlying46 Tryd.sizeOf53 F rfl rfl rfl rfl ?_ ?_
    focus (first | omega | decide | (simp; omega))
    clear F a; intro a F
    refine sFaZ (f := 0) Tryd.underlying53 rfl Tryd.sizeOf5 rfl rfl F rfl rfl rfl ?_;clear F a;intro a F
    refine sLd Tryd.isAgg5 F rfl rfl rfl (by simpa using H.rwsCell 0 (k := 0) rfl (halfI_rows t k) (by decide) (halfI_at hx2) rfl) ?_;clear F a;intro a F
    refine sIa Tryd.underlying61 Tryd.sizeOf5 F rfl rfl rfl rfl ?_ ?_
    focus exact hop9
    clear F a; intro a F
    refine sLd Tryd.isAgg5 F rfl rfl rfl (H.arg (hN.at _ hop9)) ?_;clear F a;intro a F
    refine sBin F rfl rfl rfl rfl (bAndB (y := 2)) ?_;clear F a;intro a F
    refine sBin F rfl rfl rfl rfl (bNeqB (y := 0)) ?_;clear F a;intro a F
    refine sNil ?_
    refine hK35 _ _ ?_; clear hK35
    refine cIf F rfl (fun h104 => ?_) (fun h104 => ?_)
    ·
     replace h104 := bneT h104
     have hb : hasB x.op 2 = true := by unfold hasB; exact bne_iff_ne.2 h104
     have hlm := loc_in hio hb
     have hset : x.cells.set 2 (Go.Proofs.YtfcidfljidkcaaaDoor.b8 (UInt8.ofNat (posZ L x.loc.toNat))) = (turnI L x).cells := by unfold turnI; rw [if_pos hb]; rfl
     refine cRegRO (by kernel_rfl) H ?_
     replace H := H.drew
     refine eTakeF (k := 0) (i := 0) rfl (by kernel_rfl) F rfl rfl rfl (fun w => rMv F rfl) (H.sel [0, 1, 2, 3, 4, 5, 6, 7, 8, 9, 10, 11] rfl rfl) (fun _ _ _ h => h) ?_;clear F a;intro a F
     refine eTakeF (k := 1) (i := 1) rfl (by kernel_rfl) F rfl rfl rfl (fun w => rMv F rfl) (H.sel [0, 1, 2, 3, 4, 5, 6, 7, 8, 9, 10, 11] rfl rfl) (fun _ _ _ h => h) ?_;clear F a;intro a F
     refine eTake (k := 2) (i := 2) rfl (by kernel_rfl) F rfl rfl rfl rfl (fun w H => rLd Tryd.isAgg23 F rfl (H.cell 6 rfl rfl)) (H.sel [0, 1, 2, 3, 4, 5, 6, 7, 8, 9, 10, 11] rfl rfl) (fun _ _ _ h => h) ?_;clear F a;intro a F
     refine eTakeF (k := 3) (i := 3) rfl (by kernel_rfl) F rfl rfl rfl (fun w => rMv F rfl) (H.sel [0, 1, 2, 3, 4, 5, 6, 7, 8, 9, 10, 11] rfl rfl) (fun _ _ _ h => h) ?_;clear F a;intro a F
     refine eTakeF (k := 4) (i := 4) rfl (by kernel_rfl) F rfl rfl rfl (fun w => rMv F rfl) (H.sel [0, 1, 2, 3, 4, 5, 6, 7, 8, 9, 10, 11] rfl rfl) (fun _ _ _ h => h) ?_;clear F a;intro a F
     refine eTakeF (k := 5) (i := 5) rfl (by kernel_rfl) F rfl rfl rfl (fun w => rIx Tryd.underlying46 Tryd.sizeOf53 F rfl rfl ?_) (H.sel [0, 1, 2, 3, 4, 5, 6, 7, 8, 9, 10, 11] rfl rfl) (fun _ _ _ h => h) ?_
     focus (first | omega | decide | (simp; omega))
     clear F a; intro a F
     refine eTakeF (k := 6) (i := 6) rfl (by kernel_rfl) F rfl rfl rfl (fun w => rFa (f := 2) (k := _ + 2) Tryd.underlying53 rfl Tryd.sizeOf5 rfl rfl F rfl) (H.sel [0, 1, 2, 3, 4, 5, 6, 7, 8, 9, 10, 11] rfl rfl) (fun _ _ _ h => h) ?_;clear F a;intro a F
     refine eTake (k := 7) (i := 7) rfl (by kernel_rfl) F rfl rfl rfl rfl (fun w H => rLd Tryd.isAgg5 F rfl (by simpa using H.rwsCell 0 (k := 2) rfl (halfI_rows t k) (by decide) (halfI_at hx2) rfl)) (H.sel [0, 1, 2, 3, 4, 5, 6, 7, 8, 9, 10, 11] rfl rfl) (fun _ _ _ h => h) ?_;clear F a;intro a F
     refine eTakeF (k := 8) (i := 8) rfl (by kernel_rfl) F rfl rfl rfl (fun w => rIx Tryd.underlying23 Tryd.sizeOf5 F rfl rfl ?_) (H.sel [0, 1, 2, 3, 4, 5, 6, 7, 8, 9, 10, 11] rfl rfl) (fun _ _ _ h => h) ?_
     focus omega
     clear F a; intro a F
     refine eTake (k := 9) (i := 9) rfl (by kernel_rfl) F rfl rfl rfl rfl (fun w H => rLd Tryd.isAgg5 F rfl (H.cell 7 rfl (by simpa using hcl.at' x.loc.toNat (by omega)))) (H.sel [0, 1, 2, 3, 4, 5, 6, 7, 8, 9, 10, 11] rfl rfl) (fun _ _ _ h => h) ?_;clear F a;intro a F
     refine eTakeF (k := 10) (i := 10) rfl (by kernel_rfl) F rfl rfl rfl (fun w => rIx Tryd.underlying46 Tryd.sizeOf53 F rfl rfl ?_) (H.sel [0, 1, 2, 3, 4, 5, 6, 7, 8, 9, 10, 11] rfl rfl) (fun _ _ _ h => h) ?_
     focus (first | omega | decide | (simp; omega))
     clear F a; intro a F
     refine eTakeF (k := 11) (i := 11) rfl (by kernel_rfl) F rfl rfl rfl (fun w => rFa (f := 2) (k := _ + 2) Tryd.underlying53 rfl Tryd.sizeOf5 rfl rfl F rfl) (H.sel [0, 1, 2, 3, 4, 5, 6, 7, 8, 9, 10, 11] rfl rfl) (fun _ _ _ h => h) ?_;clear F a;intro a F
     refine eOne (k := 12) (i := 12) rfl (by kernel_rfl) F rfl (oStW H 0 Tryd.sizeOf5 F rfl rfl rfl rfl (halfI_rows t k) (halfI_at hx2) ((by decide : 2 < 10)) (by omega) ?_)
     clear H; intro w H
     rw [hset, halfI_set hx2] at H
     refine ePartO (by kernel_rfl) H ?_
     refine eNil (k := 13) (by kernel_rfl) ?_
     refine hK33 _ _ ?_; clear hK33
     refine cReg ?_
     refine sBin F rfl rfl rfl rfl (bAddN (j := 1) ?_) ?_
     focus omega
     clear F a; intro a F
     refine sMv F rfl rfl rfl ?_;clear F a;intro a F
     refine sNil ?_
     first
     | exact ⟨_, by omega, _, ⟨k + 1, rfl, rfl, by omega, H.sel [0, 1, 2, 3, 4, 5, 6, 7, 8, 9, 10, 11] rfl rfl⟩, F.to (by repeat (first | exact trivial | refine Le.cons rfl ?_))⟩
     | (have hnb : ¬ hasB x.op 2 = true := by unfold hasB; rw [h104]; decide
        have hkeep : turnI L x = x := by unfold turnI; rw [if_neg hnb]
        rw [halfI_keep hx2 hkeep] at H
        exact ⟨_, by omega, _, ⟨k + 1, rfl, rfl, by omega, H.sel [0, 1, 2, 3, 4, 5, 6, 7, 8, 9, 10, 11] rfl rfl⟩, F.to (by repeat (first | exact trivial | refine Le.cons rfl ?_))⟩)
    replace h104 := bneF h104
    refine wp_skip ?_
    refine hK33 _ _ ?_; clear hK33
    refine cReg ?_
    refine sBin F rfl rfl rfl rfl (bAddN (j := 1) ?_) ?_
    focus omega
    clear F a; intro a F
    refine sMv F rfl rfl rfl ?_;clear F a;intro a F
    refine sNil ?_
    first
    | exact ⟨_, by omega, _, ⟨k + 1, rfl, rfl, by omega, H.sel [0, 1, 2, 3, 4, 5, 6, 7, 8, 9, 10, 11] rfl rfl⟩, F.to (by repeat (first | exact trivial | refine Le.cons rfl ?_))⟩
    | (have hnb : ¬ hasB x.op 2 = true := by unfold hasB; rw [h104]; decide
       have hkeep : turnI L x = x := by unfold turnI; rw [if_neg hnb]
       rw [halfI_keep hx2 hkeep] at H
       exact ⟨_, by omega, _, ⟨k + 1, rfl, rfl, by omega, H.sel [0, 1, 2, 3, 4, 5, 6, 7, 8, 9, 10, 11] rfl rfl⟩, F.to (by repeat (first | exact trivial | refine Le.cons rfl ?_))⟩)
   replace h94 := of_decide_eq_false h94
   obtain rfl : k = t.length := by omega
   rw [halfI_done] at H
   refine wp_exit ?_
   refine hK29 _ _ ?_; clear hK29
   refine cReg ?_
   refine sFa (f := 3) (k := 3) Tryd.underlying29 rfl Tryd.sizeOf24 rfl rfl F rfl rfl rfl ?_;clear F a;intro a F
   refine sLd Tryd.isAgg24 F rfl rfl rfl (H.cell 5 rfl rfl) ?_;clear F a;intro a F
   refine sMv F rfl rfl rfl ?_;clear F a;intro a F
   refine sBs1 H Tryd.underlying24 Tryd.sizeOf46 Tryd.zeroValue46 rfl F rfl rfl rfl rfl ?_
   clear F a H; intro b121 a w F H
   refine sApp1 (bytes := 24) H 3 Tryd.underlying24 Tryd.typeInfo46 rfl rfl rfl rfl rfl rfl F rfl rfl rfl rfl rfl (H.whole 0 rfl) rfl ?s1 ?s2 ?_
   case s1 => first | rfl | (repeat (first | exact one_nil | (apply one_cons; · first | rfl | assumption | exact one_bif rfl rfl)))
   case s2 => omega
   clear F a H; intro A122 c122 a w F H
   refine sFa (f := 3) (k := 3) Tryd.underlying29 rfl Tryd.sizeOf24 rfl rfl F rfl rfl rfl ?_;clear F a;intro a F
   refine sSt H 6 Tryd.sizeOf24 F rfl rfl rfl rfl rfl rfl ?_
   clear H; intro w H
   refine sNil ?_
   refine hK26 _ _ ?_; clear hK26
   refine cReg ?_
   refine sBin F rfl rfl rfl rfl (bAddN (j := 1) ?_) ?_
   focus omega
   clear F a; intro a F
   refine sMv F rfl rfl rfl ?_;clear F a;intro a F
   refine sNil ?_
   refine ⟨_, ?_, _, ⟨j + 1, A122, c122, _, _, rfl, rfl, ?_, ?_, ?_, (((H.sel [1, 2, 3, 4, 5, 6, 7, 8, 9, 10, 11, 12] rfl rfl).toHeld (by simp [Ins.cells]) (by decide)).plantG hfj (by simp))⟩, F.to (by repeat (first | exact trivial | refine Le.cons rfl ?_))⟩
   · have := hpT.len; omega
   · simp; omega
   · omega
   · intro r hr
     rcases List.mem_append.1 hr with h1 | h1
     · exact hr1 r h1
     · simp at h1; subst h1; rfl
  replace h82 := of_decide_eq_false h82
  have hjl : j = p.threads.length := by have := hpT.len; omega
  refine wp_exit ?_
  refine hK22 _ _ ?_; clear hK22
  refine cSeq (fun K36 hK36 => ?_)
  refine cReg ?_
  refine sFa (f := 5) (k := 5) Tryd.underlying29 rfl Tryd.sizeOf27 rfl rfl F rfl rfl rfl ?_;clear F a;intro a F
  refine sLr Tryd.underlying27 rfl ?si F rfl rfl rfl (H.range 10 rfl _ 5) ?_
  case si => exact info_size Tryd.sizeOf27
  clear F a; intro a F
  refine sFn F rfl rfl rfl rfl ?_;clear F a;intro a F
  refine sCall Tryd.call19 F rfl rfl rfl (turnT_any b9 b11 bt bl p.threads.length p.locs.length T L h 20 _ p.cond _ (CondAt.grown H.grown rfl _ _ _ hp.cond) hs h5 ⟨H.cell 7 rfl rfl, H.cell 5 rfl rfl, fun i hi => H.cell 8 rfl (hct.at' i hi), fun i hi => H.cell 6 rfl (hcl.at' i hi)⟩) ?_
  rintro e w ⟨cs9, S9, rfl, H2⟩
  have hsh := condShape (H2.pred 0 _ rfl : TreeIn S9 _ h cs9 (turnH T L h p.cond)).at
  obtain ⟨k9, t9, n9, v9, A9, m9, C9, rfl⟩ := hsh
  replace H := H.join H2; clear H2
  refine ⟨_, rfl, ?_⟩
  clear F a; intro a F
  refine sFa (f := 5) (k := 5) Tryd.underlying29 rfl Tryd.sizeOf27 rfl rfl F rfl rfl rfl ?_;clear F a;intro a F
  refine sSr H 5 ?si F rfl rfl rfl ?s1 rfl rfl ?_
  case si => exact info_size Tryd.sizeOf27
  case s1 => first | rfl | (repeat (first | exact one_nil | (apply one_cons; · first | rfl | assumption | exact one_bif rfl rfl)))
  clear H; intro w H
  refine sNil ?_
  refine hK36 _ _ ?_; clear hK36
  refine cSeq (fun K37 hK37 => ?_)
  refine cReg ?_
  refine sLr Tryd.underlying29 rfl ?si F rfl rfl rfl (H.whole 5 rfl) ?_
  case si => exact info_size Tryd.sizeOf29
  clear F a; intro a F
  refine sSr H 10 ?si F rfl rfl rfl ?s1 rfl rfl ?_
  case si => exact info_size Tryd.sizeOf29
  case s1 => first | rfl | (repeat (first | exact one_nil | (apply one_cons; · first | rfl | assumption | exact one_bif rfl rfl)))
  clear H; intro w H
  refine sAs F rfl rfl rfl ?_;clear F a;intro a F
  refine sNil ?_
  refine hK37 _ _ ?_; clear hK37
  refine wp_ret ?_
  refine bRetC1 Tryd.results6 F rfl rfl Tryd.underlying29 rfl H 10 rfl Tryd.sizeOf29 rfl ?_
  first
    | exact .inl ⟨h22, rfl, H.below⟩
    | (have hno : o30 = false := h34
       exact .inr (.inl ⟨h0, fun hh => hT0 hno hh.1, rfl, H.below⟩))
    | (have hno : o41 = false := h45
       exact .inr (.inl ⟨h0, fun hh => hL0 hno hh.2, rfl, H.below⟩))
    | (refine .inr (.inr ⟨h0, hpT, hpL, _, rfl, ?_⟩)
       subst hrj
       subst hq1 hq2
       rw [hj1, hj2, hjl] at H
       rw [hj1, hj2, hjl]
       exact ⟨A1, k1, A2, k2, A3, k3, rows, S, _, S9, rfl, hjl, hr1, H.sel [0, 2, 1, 3, 4] rfl rfl⟩)
end Go.Proofs.YtfcidfljidkcaaaDoor
