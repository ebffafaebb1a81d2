/-
  WALK2. The law AtomicCommutes. Conditions: the program and the picks lie in memory; block 0 holds the table of needs.
-/
import Derived.Test.YtfemniboggnbiaaDoorLwS
import Derived.Test.YtfemniboggnbiaaDoorAtK
set_option linter.unusedSimpArgs false
set_option linter.unusedVariables false
namespace Go.Proofs.YtfemniboggnbiaaDoor
open Go.RowKit
set_option maxRecDepth 100000

theorem move_ok {p : Prg} {s : By} {k : Nat} (h : k ∈ movesP p s) : moveS p s (k : Int) = stepP p s k ∧ moveE p s (k : Int) = 0 := by
  obtain ⟨j, hj⟩ := List.getElem?_of_mem h
  exact ⟨by rw [moveS, movable_at hj, if_pos rfl, Int.toNat_natCast], by rw [moveE, movable_at hj, if_pos rfl]⟩
theorem still_any (x : Ins) (w0 : World) : Calls Tryd.prog 14 #[.agg x.cells.toArray] w0 fun e w' => e = .returned (.bool (isLocal x)) ∧ Below w0.heap.size w0 w' := by
  have H := Own.start w0 none
  refine enterF Tryd.func14 rfl Tryd.ntmps14 rfl (fun a F => ?_)
  refine cSeq (fun K1 hK1 => ?_)
  refine cReg ?_
  refine sBx H F rfl rfl rfl ?_
  clear F a H; intro b1 a w F H
  refine sAs F rfl rfl rfl ?_
  clear F a; intro a F
  refine sNil ?_
  refine hK1 _ _ ?_; clear hK1
  refine cSeq (fun K2 hK2 => ?_)
  refine cReg ?_
  refine sFa (f := 0) (k := 0) Tryd.underlying52 rfl Tryd.sizeOf5 rfl rfl F rfl rfl rfl ?_
  clear F a; intro a F
  refine sLd Tryd.isAgg5 F rfl rfl rfl (H.cell 0 rfl rfl) ?_
  clear F a; intro a F
  refine sBin F rfl rfl rfl rfl (bEqlB (y := 3)) ?_
  clear F a; intro a F
  refine sMv F rfl rfl rfl ?_
  clear F a; intro a F
  refine F.split 6 rfl ?_ ?_ <;> (clear F; intro h6 F)
  ·
    replace h6 := beqT h6
    refine sSk F rfl rfl ?_
    clear F a; intro a F
    refine sSk F rfl rfl ?_
    clear F a; intro a F
    refine sSk F rfl rfl ?_
    clear F a; intro a F
    refine sPk F rfl rfl rfl rfl ?_
    clear F a; intro a F
    refine sMv F rfl rfl rfl ?_
    clear F a; intro a F
    refine sSk F rfl rfl ?_
    clear F a; intro a F
    refine sSk F rfl rfl ?_
    clear F a; intro a F
    refine sSk F rfl rfl ?_
    clear F a; intro a F
    refine sPk F rfl rfl rfl rfl ?_
    clear F a; intro a F
    refine sAs F rfl rfl rfl ?_
    clear F a; intro a F
    refine sNil ?_
    refine hK2 _ _ ?_; clear hK2
    refine wp_ret ?_
    refine bRet Tryd.results14 F rfl ?_
    exact ⟨retB (by simp [isLocal, *]), H.below⟩
  ·
    replace h6 := beqF h6
    refine sFa (f := 0) (k := 0) Tryd.underlying52 rfl Tryd.sizeOf5 rfl rfl F rfl rfl rfl ?_
    clear F a; intro a F
    refine sLd Tryd.isAgg5 F rfl rfl rfl (H.cell 0 rfl rfl) ?_
    clear F a; intro a F
    refine sBin F rfl rfl rfl rfl (bEqlB (y := 8)) ?_
    clear F a; intro a F
    refine sPk F rfl rfl rfl rfl ?_
    clear F a; intro a F
    refine sMv F rfl rfl rfl ?_
    clear F a; intro a F
    refine F.split 11 rfl ?_ ?_ <;> (clear F; intro h11 F)
    ·
      replace h11 := beqT h11
      refine sSk F rfl rfl ?_
      clear F a; intro a F
      refine sSk F rfl rfl ?_
      clear F a; intro a F
      refine sSk F rfl rfl ?_
      clear F a; intro a F
      refine sPk F rfl rfl rfl rfl ?_
      clear F a; intro a F
      refine sAs F rfl rfl rfl ?_
      clear F a; intro a F
      refine sNil ?_
      refine hK2 _ _ ?_; clear hK2
      refine wp_ret ?_
      refine bRet Tryd.results14 F rfl ?_
      exact ⟨retB (by simp [isLocal, *]), H.below⟩
    ·
      replace h11 := beqF h11
      refine sFa (f := 0) (k := 0) Tryd.underlying52 rfl Tryd.sizeOf5 rfl rfl F rfl rfl rfl ?_
      clear F a; intro a F
      refine sLd Tryd.isAgg5 F rfl rfl rfl (H.cell 0 rfl rfl) ?_
      clear F a; intro a F
      refine sBin F rfl rfl rfl rfl (bEqlB (y := 7)) ?_
      clear F a; intro a F
      refine sPk F rfl rfl rfl rfl ?_
      clear F a; intro a F
      refine sAs F rfl rfl rfl ?_
      clear F a; intro a F
      refine sNil ?_
      refine hK2 _ _ ?_; clear hK2
      refine wp_ret ?_
      refine bRet Tryd.results14 F rfl ?_
      exact ⟨retB (by simp [isLocal, *]), H.below⟩
theorem commutes_any (cs : List Value) (p : Prg) (w0 : World) (hP : ProgAt w0 cs p) (hN : NeedsAt w0) (PA : Option Addr) (PC : Nat) (picks : List UInt8) (hB : BytesAt w0 PA picks) (hBn : picks.length ≤ 9223372036854775807) (hBc : picks.length ≤ PC) (a1 a2 : UInt8) :
    Calls Tryd.prog 3 #[.agg cs.toArray, .slice PA picks.length PC, b8 a1, b8 a2] w0 fun e w' => e = .returned (.bool true) ∧ Below w0.heap.size w0 w' := by
  have H := Own.start w0 none
  have hP0 := hP
  obtain ⟨LA, LC, IA, IC, TA, TC, h, ccs, hp⟩ := hP
  obtain ⟨c1, c2, c3, c4, c5, rfl⟩ := len5 (condAt_len hp.cond)
  have hcs := hp.cs
  subst hcs
  refine enterF Tryd.func3 rfl Tryd.ntmps3 rfl (fun a F => ?_)
  refine cSeq (fun K1 hK1 => ?_)
  refine cReg ?_
  refine sBx H F rfl rfl rfl ?_
  clear F a H; intro b4 a w F H
  refine sAs F rfl rfl rfl ?_
  clear F a; intro a F
  refine sNil ?_
  refine hK1 _ _ ?_; clear hK1
  refine cSeq (fun K2 hK2 => ?_)
  refine cReg ?_
  refine sLr Tryd.underlying29 rfl ?si F rfl rfl rfl (H.whole 0 rfl) ?_
  case si => exact info_size Tryd.sizeOf29
  clear F a; intro a F
  refine sMv F rfl rfl rfl ?_
  clear F a; intro a F
  refine sCall Tryd.call9 F rfl rfl rfl (behind_any _ p _ (hP0.own H) (hN.own H) PA PC picks (RowsAt.own hB H) hBn hBc) ?_
  rintro e w ⟨rfl, hb⟩
  replace H := H.grow hb; clear hb
  refine ⟨_, rfl, ?_⟩
  clear F a; intro a F
  refine sMv F rfl rfl rfl ?_
  clear F a; intro a F
  refine sExt F rfl rfl rfl rfl ?_
  clear F a; intro a F
  refine sExt F rfl rfl rfl rfl ?_
  clear F a; intro a F
  refine sAlB H zB41 F rfl rfl ?_
  clear F a H; intro b9 a w F H
  refine sSrB H 0 Tryd.sizeOf41 F rfl rfl rfl rfl (by omega) ?_
  clear H; intro w H
  rw [lay_all] at H
  refine sAs F rfl rfl rfl ?_
  clear F a; intro a F
  refine sNil ?_
  refine hK2 _ _ ?_; clear hK2
  refine cSeq (fun K3 hK3 => ?_)
  refine cReg ?_
  refine sLr Tryd.underlying29 rfl ?si F rfl rfl rfl (H.whole 1 rfl) ?_
  case si => exact info_size Tryd.sizeOf29
  clear F a; intro a F
  refine sLrB Tryd.underlying41 rfl Tryd.sizeOf41 F rfl rfl rfl (H.whole 0 rfl) ?_
  clear F a; intro a F
  refine sCall Tryd.call10 F rfl rfl rfl (moves_any _ p _ (hP0.own H) (hN.own H) (behS p picks)) ?_
  rintro e w ⟨A, c, rfl, H2⟩
  replace H := H.join H2; clear H2
  refine ⟨_, rfl, ?_⟩
  clear F a; intro a F
  refine sAs F rfl rfl rfl ?_
  clear F a; intro a F
  refine sNil ?_
  refine hK3 _ _ ?_; clear hK3
  refine cSeq (fun K4 hK4 => ?_)
  refine cSeq (fun K5 hK5 => ?_)
  refine cReg ?_
  refine sMv F rfl rfl rfl ?_
  clear F a; intro a F
  refine sNot F rfl rfl rfl ?_
  clear F a; intro a F
  refine sMv F rfl rfl rfl ?_
  clear F a; intro a F
  refine F.split 34 rfl ?_ ?_ <;> (clear F; intro h34 F)
  ·
    replace h34 := notT h34
    refine sSk F rfl rfl ?_
    clear F a; intro a F
    refine sSk F rfl rfl ?_
    clear F a; intro a F
    refine sSk F rfl rfl ?_
    clear F a; intro a F
    refine sPk F rfl rfl rfl rfl ?_
    clear F a; intro a F
    refine sNil ?_
    refine hK5 _ _ ?_; clear hK5
    refine cIfT F rfl ?_
    refine cSeq (fun K6 hK6 => ?_)
    refine cReg ?_
    refine sMv F rfl rfl rfl ?_
    clear F a; intro a F
    refine sMv F rfl rfl rfl ?_
    clear F a; intro a F
    refine F.split 40 rfl ?_ ?_ <;> (clear F; intro h40 F)
    ·
      refine sSk F rfl rfl ?_
      clear F a; intro a F
      refine sSk F rfl rfl ?_
      clear F a; intro a F
      refine sSk F rfl rfl ?_
      clear F a; intro a F
      refine sPk F rfl rfl rfl rfl ?_
      clear F a; intro a F
      refine sMv F rfl rfl rfl ?_
      clear F a; intro a F
      refine sCall Tryd.call12 F rfl rfl rfl (awake_any _ (hN.own H)) ?_
      rintro e w ⟨rfl, hb⟩
      replace H := H.grow hb; clear hb
      refine ⟨_, rfl, ?_⟩
      clear F a; intro a F
      refine sPk F rfl rfl rfl rfl ?_
      clear F a; intro a F
      refine sAs F rfl rfl rfl ?_
      clear F a; intro a F
      refine sNil ?_
      refine hK6 _ _ ?_; clear hK6
      refine wp_ret ?_
      simp only [Exit.then]
      refine bRet Tryd.results3 F rfl ?_
      first | exact ⟨retB rfl, H.below⟩ | (exfalso; simp_all; done)
    ·
      refine sLr Tryd.underlying29 rfl ?si F rfl rfl rfl (H.whole 2 rfl) ?_
      case si => exact info_size Tryd.sizeOf29
      clear F a; intro a F
      refine sCall Tryd.call11 F rfl rfl rfl (right_any' _ p _ (hP0.own H) (hN.own H)) ?_
      rintro e w ⟨rfl, hb⟩
      replace H := H.grow hb; clear hb
      refine ⟨_, rfl, ?_⟩
      clear F a; intro a F
      refine sBin F rfl rfl rfl rfl bNeq ?_
      clear F a; intro a F
      refine sPk F rfl rfl rfl rfl ?_
      clear F a; intro a F
      refine sMv F rfl rfl rfl ?_
      clear F a; intro a F
      refine F.split 45 rfl ?_ ?_ <;> (clear F; intro h45 F)
      ·
        replace h45 := bneT h45
        refine sCall Tryd.call12 F rfl rfl rfl (awake_any _ (hN.own H)) ?_
        rintro e w ⟨rfl, hb⟩
        replace H := H.grow hb; clear hb
        refine ⟨_, rfl, ?_⟩
        clear F a; intro a F
        refine sPk F rfl rfl rfl rfl ?_
        clear F a; intro a F
        refine sAs F rfl rfl rfl ?_
        clear F a; intro a F
        refine sNil ?_
        refine hK6 _ _ ?_; clear hK6
        refine wp_ret ?_
        simp only [Exit.then]
        refine bRet Tryd.results3 F rfl ?_
        first | exact ⟨retB rfl, H.below⟩ | (exfalso; simp_all; done)
      ·
        replace h45 := bneF h45
        refine sSk F rfl rfl ?_
        clear F a; intro a F
        refine sPk F rfl rfl rfl rfl ?_
        clear F a; intro a F
        refine sAs F rfl rfl rfl ?_
        clear F a; intro a F
        refine sNil ?_
        refine hK6 _ _ ?_; clear hK6
        refine wp_ret ?_
        simp only [Exit.then]
        refine bRet Tryd.results3 F rfl ?_
        first | exact ⟨retB rfl, H.below⟩ | (exfalso; simp_all; done)
  ·
    replace h34 := notF h34
    refine sMv F rfl rfl rfl ?_
    clear F a; intro a F
    refine sLen Tryd.underlying44 F rfl rfl rfl ?_
    clear F a; intro a F
    refine sBin F rfl rfl rfl rfl bLss ?_
    clear F a; intro a F
    refine sPk F rfl rfl rfl rfl ?_
    clear F a; intro a F
    refine sNil ?_
    refine hK5 _ _ ?_; clear hK5
    refine cIf F rfl (fun h38 => ?_) (fun h38 => ?_)
    ·
      replace h38 := of_decide_eq_true h38
      refine cSeq (fun K7 hK7 => ?_)
      refine cReg ?_
      refine sMv F rfl rfl rfl ?_
      clear F a; intro a F
      refine sMv F rfl rfl rfl ?_
      clear F a; intro a F
      refine F.split 40 rfl ?_ ?_ <;> (clear F; intro h40 F)
      ·
        refine sSk F rfl rfl ?_
        clear F a; intro a F
        refine sSk F rfl rfl ?_
        clear F a; intro a F
        refine sSk F rfl rfl ?_
        clear F a; intro a F
        refine sPk F rfl rfl rfl rfl ?_
        clear F a; intro a F
        refine sMv F rfl rfl rfl ?_
        clear F a; intro a F
        refine sCall Tryd.call12 F rfl rfl rfl (awake_any _ (hN.own H)) ?_
        rintro e w ⟨rfl, hb⟩
        replace H := H.grow hb; clear hb
        refine ⟨_, rfl, ?_⟩
        clear F a; intro a F
        refine sPk F rfl rfl rfl rfl ?_
        clear F a; intro a F
        refine sAs F rfl rfl rfl ?_
        clear F a; intro a F
        refine sNil ?_
        refine hK7 _ _ ?_; clear hK7
        refine wp_ret ?_
        simp only [Exit.then]
        refine bRet Tryd.results3 F rfl ?_
        first | exact ⟨retB rfl, H.below⟩ | (exfalso; simp_all; done)
      ·
        refine sLr Tryd.underlying29 rfl ?si F rfl rfl rfl (H.whole 2 rfl) ?_
        case si => exact info_size Tryd.sizeOf29
        clear F a; intro a F
        refine sCall Tryd.call11 F rfl rfl rfl (right_any' _ p _ (hP0.own H) (hN.own H)) ?_
        rintro e w ⟨rfl, hb⟩
        replace H := H.grow hb; clear hb
        refine ⟨_, rfl, ?_⟩
        clear F a; intro a F
        refine sBin F rfl rfl rfl rfl bNeq ?_
        clear F a; intro a F
        refine sPk F rfl rfl rfl rfl ?_
        clear F a; intro a F
        refine sMv F rfl rfl rfl ?_
        clear F a; intro a F
        refine F.split 45 rfl ?_ ?_ <;> (clear F; intro h45 F)
        ·
          replace h45 := bneT h45
          refine sCall Tryd.call12 F rfl rfl rfl (awake_any _ (hN.own H)) ?_
          rintro e w ⟨rfl, hb⟩
          replace H := H.grow hb; clear hb
          refine ⟨_, rfl, ?_⟩
          clear F a; intro a F
          refine sPk F rfl rfl rfl rfl ?_
          clear F a; intro a F
          refine sAs F rfl rfl rfl ?_
          clear F a; intro a F
          refine sNil ?_
          refine hK7 _ _ ?_; clear hK7
          refine wp_ret ?_
          simp only [Exit.then]
          refine bRet Tryd.results3 F rfl ?_
          first | exact ⟨retB rfl, H.below⟩ | (exfalso; simp_all; done)
        ·
          replace h45 := bneF h45
          refine sSk F rfl rfl ?_
          clear F a; intro a F
          refine sPk F rfl rfl rfl rfl ?_
          clear F a; intro a F
          refine sAs F rfl rfl rfl ?_
          clear F a; intro a F
          refine sNil ?_
          refine hK7 _ _ ?_; clear hK7
          refine wp_ret ?_
          simp only [Exit.then]
          refine bRet Tryd.results3 F rfl ?_
          first | exact ⟨retB rfl, H.below⟩ | (exfalso; simp_all; done)
    ·
      replace h38 := of_decide_eq_false h38
      have hv : rightErr p = 0 := by simpa using h34
      have hr : rightS p (behS p picks) = true := by rw [behS, if_pos hv]; exact behF_right _ _ (start_right hv)
      generalize behS p picks = s at H F hr h38
      have hpos : 0 < (movesP p s).length := by omega
      have hq1 := Nat.mod_lt a1.toNat hpos
      have hq2 := Nat.mod_lt a2.toNat hpos
      obtain ⟨t, ht⟩ : ∃ t, (movesP p s)[a1.toNat % (movesP p s).length]? = some t := ⟨_, List.getElem?_eq_getElem hq1⟩
      obtain ⟨u, hu⟩ : ∃ u, (movesP p s)[a2.toNat % (movesP p s).length]? = some u := ⟨_, List.getElem?_eq_getElem hq2⟩
      obtain ⟨bL, oL, rfl, hL⟩ := H.intAt 0 rfl ht
      have htm := List.mem_of_getElem? ht
      have hum := List.mem_of_getElem? hu
      refine wp_skip ?_
      refine hK4 _ _ ?_; clear hK4
      refine cSeq (fun K8 hK8 => ?_)
      refine cReg ?_
      refine sMv F rfl rfl rfl ?_
      clear F a; intro a F
      refine sMv F rfl rfl rfl ?_
      clear F a; intro a F
      refine sCv Tryd.underlying5 Tryd.underlying3 F rfl rfl rfl (wrapB _) ?_
      clear F a; intro a F
      refine sMv F rfl rfl rfl ?_
      clear F a; intro a F
      refine sLen Tryd.underlying44 F rfl rfl rfl ?_
      clear F a; intro a F
      refine sBin F rfl rfl rfl rfl (bRemN ?_) ?_
      focus omega
      clear F a; intro a F
      refine sIx Tryd.underlying44 Tryd.sizeOf3 F rfl rfl rfl rfl ?_ ?_
      focus exact hq1
      clear F a; intro a F
      refine sLd Tryd.isAgg3 F rfl rfl rfl hL ?_
      clear F a; intro a F
      refine sAs F rfl rfl rfl ?_
      clear F a; intro a F
      refine sNil ?_
      refine hK8 _ _ ?_; clear hK8
      refine cSeq (fun K9 hK9 => ?_)
      refine cReg ?_
      refine sMv F rfl rfl rfl ?_
      clear F a; intro a F
      refine sMv F rfl rfl rfl ?_
      clear F a; intro a F
      refine sCv Tryd.underlying5 Tryd.underlying3 F rfl rfl rfl (wrapB _) ?_
      clear F a; intro a F
      refine sMv F rfl rfl rfl ?_
      clear F a; intro a F
      refine sLen Tryd.underlying44 F rfl rfl rfl ?_
      clear F a; intro a F
      refine sBin F rfl rfl rfl rfl (bRemN ?_) ?_
      focus omega
      clear F a; intro a F
      refine sIx Tryd.underlying44 Tryd.sizeOf3 F rfl rfl rfl rfl ?_ ?_
      focus exact hq2
      clear F a; intro a F
      refine sLd Tryd.isAgg3 F rfl rfl rfl (by obtain ⟨b', o', h1, h2⟩ := H.intAt 0 rfl hu; cases h1; exact h2) ?_
      clear F a; intro a F
      refine sAs F rfl rfl rfl ?_
      clear F a; intro a F
      refine sNil ?_
      refine hK9 _ _ ?_; clear hK9
      refine cSeq (fun K10 hK10 => ?_)
      refine cSeq (fun K11 hK11 => ?_)
      refine cReg ?_
      refine sMv F rfl rfl rfl ?_
      clear F a; intro a F
      refine sMv F rfl rfl rfl ?_
      clear F a; intro a F
      refine sBin F rfl rfl rfl rfl bEql ?_
      clear F a; intro a F
      refine sNil ?_
      refine hK11 _ _ ?_; clear hK11
      refine cIf F rfl (fun h66 => ?_) (fun h66 => ?_)
      ·
        replace h66 := beqT h66
        refine cSeq (fun K12 hK12 => ?_)
        refine cReg ?_
        refine sCall Tryd.call12 F rfl rfl rfl (awake_any _ (hN.own H)) ?_
        rintro e w ⟨rfl, hb⟩
        replace H := H.grow hb; clear hb
        refine ⟨_, rfl, ?_⟩
        clear F a; intro a F
        refine sAs F rfl rfl rfl ?_
        clear F a; intro a F
        refine sNil ?_
        refine hK12 _ _ ?_; clear hK12
        refine wp_ret ?_
        simp only [Exit.then]
        refine bRet Tryd.results3 F rfl ?_
        first | exact ⟨retB rfl, H.below⟩ | (exfalso; simp_all; done)
      ·
        replace h66 := beqF h66
        have hne : t ≠ u := fun e => h66 (by rw [e])
        obtain ⟨l, x, h1⟩ := stepOf hv (mem_moves htm).2
        obtain ⟨m, y, h2⟩ := stepOf hv (mem_moves hum).2
        obtain ⟨hen12, h12⟩ := h1.still hv hne (k := 0) (mem_moves hum).2 h2
        obtain ⟨hen21, h21⟩ := h2.still hv (Ne.symm hne) (k := 0) (mem_moves htm).2 h1
        have hm12 : u ∈ movesP p (stepP p s t) := by rw [movesP, if_pos (h1.right hr)]; exact hen12
        have hm21 : t ∈ movesP p (stepP p s u) := by rw [movesP, if_pos (h2.right hr)]; exact hen21
        obtain ⟨eM1, eE1⟩ := move_ok htm
        obtain ⟨eM2, eE2⟩ := move_ok hum
        obtain ⟨eM3, eE3⟩ := move_ok hm12
        obtain ⟨eM4, eE4⟩ := move_ok hm21
        have ht4 := h1.t4
        have hu4 := h2.t4
        obtain ⟨bT, oT, BT, CT, rfl, hT1, hT2, _⟩ := hp.threads t l h1.hl
        obtain ⟨bU, oU, BU, CU, eU, hU1, hU2, _⟩ := hp.threads u m h2.hl
        cases eU
        have hpc1 : (s (t * 9)).toNat < l.length := h1.lt
        have hpc2 : (s (u * 9)).toNat < m.length := h2.lt
        obtain ⟨bI, oI, rfl, hI⟩ := hT2 (s (t * 9)).toNat x.cells (by rw [List.getElem?_map, show l[(s (t * 9)).toNat]? = some x from h1.hx]; rfl)
        obtain ⟨bJ, oJ, rfl, hJ⟩ := hU2 (s (u * 9)).toNat y.cells (by rw [List.getElem?_map, show m[(s (u * 9)).toNat]? = some y from h2.hx]; rfl)
        have htl : t < p.threads.length := (List.getElem?_eq_some_iff.1 h1.hl).1
        have hul : u < p.threads.length := (List.getElem?_eq_some_iff.1 h2.hl).1
        refine wp_skip ?_
        refine hK10 _ _ ?_; clear hK10
        refine cSeq (fun K13 hK13 => ?_)
        refine cRegRO (by kernel_rfl) H ?_
        replace H := H.drew
        refine eTakeF (k := 0) (i := 0) rfl (by kernel_rfl) F rfl rfl rfl (fun w => rFa (f := 3) (k := 3) Tryd.underlying29 rfl Tryd.sizeOf24 rfl rfl F rfl) (H.sel [0, 1, 2] rfl rfl) (fun _ _ _ h => h) ?_
        clear F a; intro a F
        refine eTake (k := 1) (i := 1) rfl (by kernel_rfl) F rfl rfl rfl rfl (fun w H => rLd Tryd.isAgg24 F rfl (H.cell 2 rfl rfl)) (H.sel [0, 1, 2] rfl rfl) (fun _ _ _ h => h) ?_
        clear F a; intro a F
        refine eTakeF (k := 2) (i := 2) rfl (by kernel_rfl) F rfl rfl rfl (fun w => rMv F rfl) (H.sel [0, 1, 2] rfl rfl) (fun _ _ _ h => h) ?_
        clear F a; intro a F
        refine eTakeF (k := 3) (i := 3) rfl (by kernel_rfl) F rfl rfl rfl (fun w => rIx Tryd.underlying24 Tryd.sizeOf53 F rfl rfl ?_) (H.sel [0, 1, 2] rfl rfl) (fun _ _ _ h => h) ?_
        focus (first | omega | decide | (simp; omega))
        clear F a; intro a F
        refine eTake (k := 4) (i := 4) rfl (by kernel_rfl) F rfl rfl rfl rfl (fun w H => rLd Tryd.isAgg53 F rfl (H.arg hT1)) (H.sel [0, 1, 2] rfl rfl) (fun _ _ _ h => h) ?_
        clear F a; intro a F
        refine eTakeF (k := 5) (i := 5) rfl (by kernel_rfl) F rfl rfl rfl (fun w => rMv F rfl) (H.sel [0, 1, 2] rfl rfl) (fun _ _ _ h => h) ?_
        clear F a; intro a F
        refine eTakeF (k := 6) (i := 6) rfl (by kernel_rfl) F rfl rfl rfl (fun w => rFa (f := 0) (k := 0) Tryd.underlying41 rfl Tryd.sizeOf33 rfl rfl F rfl) (H.sel [0, 1, 2] rfl rfl) (fun _ _ _ h => h) ?_
        clear F a; intro a F
        refine eTakeF (k := 7) (i := 7) rfl (by kernel_rfl) F rfl rfl rfl (fun w => rIaZ Tryd.underlying33 Tryd.sizeOf32 F rfl rfl ?_) (H.sel [0, 1, 2] rfl rfl) (fun _ _ _ h => h) ?_
        focus (first | omega | decide | (simp; omega))
        clear F a; intro a F
        refine eTakeF (k := 8) (i := 8) rfl (by kernel_rfl) F rfl rfl rfl (fun w => rFaZ (f := 0) Tryd.underlying32 rfl Tryd.sizeOf5 rfl rfl F rfl) (H.sel [0, 1, 2] rfl rfl) (fun _ _ _ h => h) ?_
        clear F a; intro a F
        refine eTake (k := 9) (i := 9) rfl (by kernel_rfl) F rfl rfl rfl rfl (fun w H => rLd Tryd.isAgg5 F rfl (H.cellB 1 rfl (by omega))) (H.sel [0, 1, 2] rfl rfl) (fun _ _ _ h => h) ?_
        clear F a; intro a F
        refine eTakeF (k := 10) (i := 10) rfl (by kernel_rfl) F rfl rfl rfl (fun w => rIx Tryd.underlying53 Tryd.sizeOf52 F rfl rfl ?_) (H.sel [0, 1, 2] rfl rfl) (fun _ _ _ h => h) ?_
        focus exact hpc1
        clear F a; intro a F
        refine eTake (k := 11) (i := 11) rfl (by kernel_rfl) F rfl rfl rfl rfl (fun w H => rLr Tryd.underlying52 rfl ?si F rfl (H.argR hI)) (H.sel [0, 1, 2] rfl rfl) (fun _ _ _ h => h) ?_
        case si => exact info_size Tryd.sizeOf52
        clear F a; intro a F
        refine eTakeF (k := 12) (i := 12) rfl (by kernel_rfl) F rfl rfl rfl (fun w => rFa (f := 3) (k := 3) Tryd.underlying29 rfl Tryd.sizeOf24 rfl rfl F rfl) (H.sel [0, 1, 2] rfl rfl) (fun _ _ _ h => h) ?_
        clear F a; intro a F
        refine eTake (k := 13) (i := 13) rfl (by kernel_rfl) F rfl rfl rfl rfl (fun w H => rLd Tryd.isAgg24 F rfl (H.cell 2 rfl rfl)) (H.sel [0, 1, 2] rfl rfl) (fun _ _ _ h => h) ?_
        clear F a; intro a F
        refine eTakeF (k := 14) (i := 14) rfl (by kernel_rfl) F rfl rfl rfl (fun w => rMv F rfl) (H.sel [0, 1, 2] rfl rfl) (fun _ _ _ h => h) ?_
        clear F a; intro a F
        refine eTakeF (k := 15) (i := 15) rfl (by kernel_rfl) F rfl rfl rfl (fun w => rIx Tryd.underlying24 Tryd.sizeOf53 F rfl rfl ?_) (H.sel [0, 1, 2] rfl rfl) (fun _ _ _ h => h) ?_
        focus (first | omega | decide | (simp; omega))
        clear F a; intro a F
        refine eTake (k := 16) (i := 16) rfl (by kernel_rfl) F rfl rfl rfl rfl (fun w H => rLd Tryd.isAgg53 F rfl (H.arg hU1)) (H.sel [0, 1, 2] rfl rfl) (fun _ _ _ h => h) ?_
        clear F a; intro a F
        refine eTakeF (k := 17) (i := 17) rfl (by kernel_rfl) F rfl rfl rfl (fun w => rMv F rfl) (H.sel [0, 1, 2] rfl rfl) (fun _ _ _ h => h) ?_
        clear F a; intro a F
        refine eTakeF (k := 18) (i := 18) rfl (by kernel_rfl) F rfl rfl rfl (fun w => rFa (f := 0) (k := 0) Tryd.underlying41 rfl Tryd.sizeOf33 rfl rfl F rfl) (H.sel [0, 1, 2] rfl rfl) (fun _ _ _ h => h) ?_
        clear F a; intro a F
        refine eTakeF (k := 19) (i := 19) rfl (by kernel_rfl) F rfl rfl rfl (fun w => rIaZ Tryd.underlying33 Tryd.sizeOf32 F rfl rfl ?_) (H.sel [0, 1, 2] rfl rfl) (fun _ _ _ h => h) ?_
        focus (first | omega | decide | (simp; omega))
        clear F a; intro a F
        refine eTakeF (k := 20) (i := 20) rfl (by kernel_rfl) F rfl rfl rfl (fun w => rFaZ (f := 0) Tryd.underlying32 rfl Tryd.sizeOf5 rfl rfl F rfl) (H.sel [0, 1, 2] rfl rfl) (fun _ _ _ h => h) ?_
        clear F a; intro a F
        refine eTake (k := 21) (i := 21) rfl (by kernel_rfl) F rfl rfl rfl rfl (fun w H => rLd Tryd.isAgg5 F rfl (H.cellB 1 rfl (by omega))) (H.sel [0, 1, 2] rfl rfl) (fun _ _ _ h => h) ?_
        clear F a; intro a F
        refine eTakeF (k := 22) (i := 22) rfl (by kernel_rfl) F rfl rfl rfl (fun w => rIx Tryd.underlying53 Tryd.sizeOf52 F rfl rfl ?_) (H.sel [0, 1, 2] rfl rfl) (fun _ _ _ h => h) ?_
        focus exact hpc2
        clear F a; intro a F
        refine eTake (k := 23) (i := 23) rfl (by kernel_rfl) F rfl rfl rfl rfl (fun w H => rLr Tryd.underlying52 rfl ?si F rfl (H.argR hJ)) (H.sel [0, 1, 2] rfl rfl) (fun _ _ _ h => h) ?_
        case si => exact info_size Tryd.sizeOf52
        clear F a; intro a F
        refine eJoin F H [4, 9, 12, 13, 79, 91] 26 [true, true, true, true, true, true, true, true, true, true, true, true, true, true, true, true, true, true, true, true, true, true, true, true, true, true, false, false] (fun rs ups w => ∃ b14 b15, ups = [(14, .pointer (some ⟨b14, 0, none⟩)), (15, .pointer (some ⟨b15, 0, none⟩))] ∧ Own w0 none w ((.blk b14 [.int .u8 0, .int .u8 0, .int .u8 0, .bool false, .int .u8 0, .bool false, .int .u8 0, .int .u8 0, .int .u8 0, .int .u8 0] 52) :: (.blk b15 [.int .u8 0, .int .u8 0, .int .u8 0, .bool false, .int .u8 0, .bool false, .int .u8 0, .int .u8 0, .int .u8 0, .int .u8 0] 52) :: rs)) (by repeat (first | exact SubR.nil | (apply SubR.cons; · rfl))) ?_ (fun hJ => ?_)
        rotate_left
        ·
          refine eTwo (k := 24) (i := 24) (j := 25) (by kernel_rfl) F rfl rfl rfl rfl ?_ ?_
          ·
            refine oAl H Tryd.zeroValue52 F rfl ?_
            clear F a H; intro b14 a w F H
            refine eKeep (H.sel [1, 2, 3] rfl rfl) ?_
            refine eOne (k := 25) (i := 25) rfl (by kernel_rfl) F rfl (oAl H Tryd.zeroValue52 F rfl ?_)
            clear F a H; intro b15 a w F H
            refine eKeep (H.sel [2, 3, 4] rfl rfl) ?_
            exact eGo hJ (by kernel_rfl) _ ⟨b14, b15, rfl, H.sel [1, 0, 2, 3, 4] rfl rfl⟩ (F.to (by repeat (first | exact trivial | refine Le.cons rfl ?_)))
          ·
            refine oAl H Tryd.zeroValue52 F rfl ?_
            clear F a H; intro b15 a w F H
            refine eKeep (H.sel [1, 2, 3] rfl rfl) ?_
            refine eOne (k := 25) (i := 24) rfl (by kernel_rfl) F rfl (oAl H Tryd.zeroValue52 F rfl ?_)
            clear F a H; intro b14 a w F H
            refine eKeep (H.sel [2, 3, 4] rfl rfl) ?_
            exact eGo hJ (by kernel_rfl) _ ⟨b14, b15, rfl, H.sel [0, 1, 2, 3, 4] rfl rfl⟩ (F.to (by repeat (first | exact trivial | refine Le.cons rfl ?_)))
        clear F H; intro ups a w hI F
        obtain ⟨b14, b15, rfl, H⟩ := hI
        refine eOne (k := 26) (i := 26) rfl (by kernel_rfl) F rfl (oSr H 0 ?si F rfl rfl ?s1 rfl rfl ?_)
        case si => exact info_size Tryd.sizeOf52
        case s1 => first | rfl | (repeat (first | exact one_nil | (apply one_cons; · first | rfl | assumption | exact one_bif rfl rfl)))
        clear H; intro w H
        refine eKeep (H.sel [2, 3, 4] rfl rfl) ?_
        refine eOne (k := 27) (i := 27) rfl (by kernel_rfl) F rfl (oSr H 1 ?si F rfl rfl ?s1 rfl rfl ?_)
        case si => exact info_size Tryd.sizeOf52
        case s1 => first | rfl | (repeat (first | exact one_nil | (apply one_cons; · first | rfl | assumption | exact one_bif rfl rfl)))
        clear H; intro w H
        refine ePartO (by kernel_rfl) H ?_
        refine eNil (k := 28) (by kernel_rfl) ?_
        refine hK13 _ _ ?_; clear hK13
        refine cSeq (fun K14 hK14 => ?_)
        refine cReg ?_
        refine sLr Tryd.underlying29 rfl ?si F rfl rfl rfl (H.whole 4 rfl) ?_
        case si => exact info_size Tryd.sizeOf29
        clear F a; intro a F
        refine sLrB Tryd.underlying41 rfl Tryd.sizeOf41 F rfl rfl rfl (H.whole 3 rfl) ?_
        clear F a; intro a F
        refine sMv F rfl rfl rfl ?_
        clear F a; intro a F
        refine sCall Tryd.call13 F rfl rfl rfl (move_any _ p _ (hP0.own H) (hN.own H) s t) ?_
        rintro e w ⟨rfl, hb⟩
        replace H := H.grow hb; clear hb; rw [eM1, eE1]
        refine ⟨_, rfl, ?_⟩
        clear F a; intro a F
        refine sMv F rfl rfl rfl ?_
        clear F a; intro a F
        refine sExt F rfl rfl rfl rfl ?_
        clear F a; intro a F
        refine sExt F rfl rfl rfl rfl ?_
        clear F a; intro a F
        refine sAlB H zB41 F rfl rfl ?_
        clear F a H; intro b16 a w F H
        refine sSrB H 0 Tryd.sizeOf41 F rfl rfl rfl rfl (by omega) ?_
        clear H; intro w H
        rw [lay_all] at H
        refine sAs F rfl rfl rfl ?_
        clear F a; intro a F
        refine sNil ?_
        refine hK14 _ _ ?_; clear hK14
        refine cSeq (fun K15 hK15 => ?_)
        refine cReg ?_
        refine sLr Tryd.underlying29 rfl ?si F rfl rfl rfl (H.whole 5 rfl) ?_
        case si => exact info_size Tryd.sizeOf29
        clear F a; intro a F
        refine sLrB Tryd.underlying41 rfl Tryd.sizeOf41 F rfl rfl rfl (H.whole 4 rfl) ?_
        clear F a; intro a F
        refine sMv F rfl rfl rfl ?_
        clear F a; intro a F
        refine sCall Tryd.call13 F rfl rfl rfl (move_any _ p _ (hP0.own H) (hN.own H) s u) ?_
        rintro e w ⟨rfl, hb⟩
        replace H := H.grow hb; clear hb; rw [eM2, eE2]
        refine ⟨_, rfl, ?_⟩
        clear F a; intro a F
        refine sMv F rfl rfl rfl ?_
        clear F a; intro a F
        refine sExt F rfl rfl rfl rfl ?_
        clear F a; intro a F
        refine sExt F rfl rfl rfl rfl ?_
        clear F a; intro a F
        refine sAlB H zB41 F rfl rfl ?_
        clear F a H; intro b18 a w F H
        refine sSrB H 0 Tryd.sizeOf41 F rfl rfl rfl rfl (by omega) ?_
        clear H; intro w H
        rw [lay_all] at H
        refine sAs F rfl rfl rfl ?_
        clear F a; intro a F
        refine sNil ?_
        refine hK15 _ _ ?_; clear hK15
        refine cSeq (fun K16 hK16 => ?_)
        refine cReg ?_
        refine sLr Tryd.underlying29 rfl ?si F rfl rfl rfl (H.whole 6 rfl) ?_
        case si => exact info_size Tryd.sizeOf29
        clear F a; intro a F
        refine sLrB Tryd.underlying41 rfl Tryd.sizeOf41 F rfl rfl rfl (H.whole 1 rfl) ?_
        clear F a; intro a F
        refine sMv F rfl rfl rfl ?_
        clear F a; intro a F
        refine sCall Tryd.call13 F rfl rfl rfl (move_any _ p _ (hP0.own H) (hN.own H) (stepP p s t) u) ?_
        rintro e w ⟨rfl, hb⟩
        replace H := H.grow hb; clear hb; rw [eM3, eE3]
        refine ⟨_, rfl, ?_⟩
        clear F a; intro a F
        refine sMv F rfl rfl rfl ?_
        clear F a; intro a F
        refine sExt F rfl rfl rfl rfl ?_
        clear F a; intro a F
        refine sExt F rfl rfl rfl rfl ?_
        clear F a; intro a F
        refine sSrB H 1 Tryd.sizeOf41 F rfl rfl rfl rfl (by omega) ?_
        clear H; intro w H
        rw [lay_all] at H
        refine sAs F rfl rfl rfl ?_
        clear F a; intro a F
        refine sNil ?_
        refine hK16 _ _ ?_; clear hK16
        refine cSeq (fun K17 hK17 => ?_)
        refine cReg ?_
        refine sLr Tryd.underlying29 rfl ?si F rfl rfl rfl (H.whole 6 rfl) ?_
        case si => exact info_size Tryd.sizeOf29
        clear F a; intro a F
        refine sLrB Tryd.underlying41 rfl Tryd.sizeOf41 F rfl rfl rfl (H.whole 0 rfl) ?_
        clear F a; intro a F
        refine sMv F rfl rfl rfl ?_
        clear F a; intro a F
        refine sCall Tryd.call13 F rfl rfl rfl (move_any _ p _ (hP0.own H) (hN.own H) (stepP p s u) t) ?_
        rintro e w ⟨rfl, hb⟩
        replace H := H.grow hb; clear hb; rw [eM4, eE4]
        refine ⟨_, rfl, ?_⟩
        clear F a; intro a F
        refine sMv F rfl rfl rfl ?_
        clear F a; intro a F
        refine sExt F rfl rfl rfl rfl ?_
        clear F a; intro a F
        refine sExt F rfl rfl rfl rfl ?_
        clear F a; intro a F
        refine sSrB H 0 Tryd.sizeOf41 F rfl rfl rfl rfl (by omega) ?_
        clear H; intro w H
        rw [lay_all] at H
        refine sAs F rfl rfl rfl ?_
        clear F a; intro a F
        refine sNil ?_
        refine hK17 _ _ ?_; clear hK17
        refine cSeq (fun K18 hK18 => ?_)
        refine cSeq (fun K19 hK19 => ?_)
        refine cReg ?_
        refine sMv F rfl rfl rfl ?_
        clear F a; intro a F
        refine sBin F rfl rfl rfl rfl bNeq ?_
        clear F a; intro a F
        refine sMv F rfl rfl rfl ?_
        clear F a; intro a F
        refine F.split 122 rfl ?_ ?_ <;> (clear F; intro h122 F)
        ·
          replace h122 := bneT h122
          exact absurd rfl h122
        ·
          replace h122 := bneF h122
          refine sMv F rfl rfl rfl ?_
          clear F a; intro a F
          refine sBin F rfl rfl rfl rfl bNeq ?_
          clear F a; intro a F
          refine sPk F rfl rfl rfl rfl ?_
          clear F a; intro a F
          refine sMv F rfl rfl rfl ?_
          clear F a; intro a F
          refine F.split 126 rfl ?_ ?_ <;> (clear F; intro h126 F)
          ·
            replace h126 := bneT h126
            exact absurd rfl h126
          ·
            replace h126 := bneF h126
            refine sMv F rfl rfl rfl ?_
            clear F a; intro a F
            refine sBin F rfl rfl rfl rfl bNeq ?_
            clear F a; intro a F
            refine sPk F rfl rfl rfl rfl ?_
            clear F a; intro a F
            refine sMv F rfl rfl rfl ?_
            clear F a; intro a F
            refine F.split 130 rfl ?_ ?_ <;> (clear F; intro h130 F)
            ·
              replace h130 := bneT h130
              exact absurd rfl h130
            ·
              replace h130 := bneF h130
              refine sMv F rfl rfl rfl ?_
              clear F a; intro a F
              refine sBin F rfl rfl rfl rfl bNeq ?_
              clear F a; intro a F
              refine sPk F rfl rfl rfl rfl ?_
              clear F a; intro a F
              refine sNil ?_
              refine hK19 _ _ ?_; clear hK19
              refine cIf F rfl (fun h133 => ?_) (fun h133 => ?_)
              ·
                replace h133 := bneT h133
                exact absurd rfl h133
              ·
                replace h133 := bneF h133
                refine wp_skip ?_
                refine hK18 _ _ ?_; clear hK18
                refine cSeq (fun K20 hK20 => ?_)
                refine cReg ?_
                refine sFa (f := 2) (k := 2) Tryd.underlying52 rfl Tryd.sizeOf5 rfl rfl F rfl rfl rfl ?_
                clear F a; intro a F
                refine sLd Tryd.isAgg5 F rfl rfl rfl (H.cell 2 rfl rfl) ?_
                clear F a; intro a F
                refine sFa (f := 2) (k := 2) Tryd.underlying52 rfl Tryd.sizeOf5 rfl rfl F rfl rfl rfl ?_
                clear F a; intro a F
                refine sLd Tryd.isAgg5 F rfl rfl rfl (H.cell 3 rfl rfl) ?_
                clear F a; intro a F
                refine sBin F rfl rfl rfl rfl bNeqB ?_
                clear F a; intro a F
                refine sMv F rfl rfl rfl ?_
                clear F a; intro a F
                refine F.split 139 rfl ?_ ?_ <;> (clear F; intro h139 F)
                ·
                  replace h139 := bneT h139
                  refine sSk F rfl rfl ?_
                  clear F a; intro a F
                  refine sSk F rfl rfl ?_
                  clear F a; intro a F
                  refine sPk F rfl rfl rfl rfl ?_
                  clear F a; intro a F
                  refine sMv F rfl rfl rfl ?_
                  clear F a; intro a F
                  refine sSk F rfl rfl ?_
                  clear F a; intro a F
                  refine sSk F rfl rfl ?_
                  clear F a; intro a F
                  refine sPk F rfl rfl rfl rfl ?_
                  clear F a; intro a F
                  refine sMv F rfl rfl rfl ?_
                  clear F a; intro a F
                  refine sSk F rfl rfl ?_
                  clear F a; intro a F
                  refine sSk F rfl rfl ?_
                  clear F a; intro a F
                  refine sSk F rfl rfl ?_
                  clear F a; intro a F
                  refine sSk F rfl rfl ?_
                  clear F a; intro a F
                  refine sSk F rfl rfl ?_
                  clear F a; intro a F
                  refine sSk F rfl rfl ?_
                  clear F a; intro a F
                  refine sSk F rfl rfl ?_
                  clear F a; intro a F
                  refine sSk F rfl rfl ?_
                  clear F a; intro a F
                  refine sPk F rfl rfl rfl rfl ?_
                  clear F a; intro a F
                  refine sAs F rfl rfl rfl ?_
                  clear F a; intro a F
                  refine sNil ?_
                  refine hK20 _ _ ?_; clear hK20
                  refine cSeq (fun K21 hK21 => ?_)
                  refine cReg ?_
                  refine sMv F rfl rfl rfl ?_
                  clear F a; intro a F
                  refine sNot F rfl rfl rfl ?_
                  clear F a; intro a F
                  refine sMv F rfl rfl rfl ?_
                  clear F a; intro a F
                  refine sLrB Tryd.underlying41 rfl Tryd.sizeOf41 F rfl rfl rfl (H.whole 1 rfl) ?_
                  clear F a; intro a F
                  refine sLrB Tryd.underlying41 rfl Tryd.sizeOf41 F rfl rfl rfl (H.whole 0 rfl) ?_
                  clear F a; intro a F
                  refine sBin F rfl rfl rfl rfl (bEqY eT41 gT41 rfl) ?_
                  clear F a; intro a F
                  refine sPk F rfl rfl rfl rfl ?_
                  clear F a; intro a F
                  refine sMv F rfl rfl rfl ?_
                  clear F a; intro a F
                  refine F.split 164 rfl ?_ ?_ <;> (clear F; intro h164 F)
                  ·
                    refine sCall Tryd.call12 F rfl rfl rfl (awake_any _ (hN.own H)) ?_
                    rintro e w ⟨rfl, hb⟩
                    replace H := H.grow hb; clear hb
                    refine ⟨_, rfl, ?_⟩
                    clear F a; intro a F
                    refine sPk F rfl rfl rfl rfl ?_
                    clear F a; intro a F
                    refine sAs F rfl rfl rfl ?_
                    clear F a; intro a F
                    refine sNil ?_
                    refine hK21 _ _ ?_; clear hK21
                    refine wp_ret ?_
                    refine bRet Tryd.results3 F rfl ?_
                    first | exact ⟨retB rfl, H.below⟩ | (exfalso; simp_all; done)
                  ·
                    exact notEq (commute h1 h2 h12 h21 hne (by first | exact .inl h139 | exact .inr (.inl h143) | exact .inr (.inr (.inl h147)) | exact .inr (.inr (.inr ⟨h151, by simpa using h159⟩)))) h164
                ·
                  replace h139 := bneF h139
                  refine sLr Tryd.underlying52 rfl ?si F rfl rfl rfl (H.range 2 rfl _ 10) ?_
                  case si => exact info_size Tryd.sizeOf52
                  clear F a; intro a F
                  refine sCall Tryd.call14 F rfl rfl rfl (still_any x _) ?_
                  rintro e w ⟨rfl, hb⟩
                  replace H := H.grow hb; clear hb
                  refine ⟨_, rfl, ?_⟩
                  clear F a; intro a F
                  refine sPk F rfl rfl rfl rfl ?_
                  clear F a; intro a F
                  refine sMv F rfl rfl rfl ?_
                  clear F a; intro a F
                  refine F.split 143 rfl ?_ ?_ <;> (clear F; intro h143 F)
                  ·
                    refine sSk F rfl rfl ?_
                    clear F a; intro a F
                    refine sSk F rfl rfl ?_
                    clear F a; intro a F
                    refine sPk F rfl rfl rfl rfl ?_
                    clear F a; intro a F
                    refine sMv F rfl rfl rfl ?_
                    clear F a; intro a F
                    refine sSk F rfl rfl ?_
                    clear F a; intro a F
                    refine sSk F rfl rfl ?_
                    clear F a; intro a F
                    refine sSk F rfl rfl ?_
                    clear F a; intro a F
                    refine sSk F rfl rfl ?_
                    clear F a; intro a F
                    refine sSk F rfl rfl ?_
                    clear F a; intro a F
                    refine sSk F rfl rfl ?_
                    clear F a; intro a F
                    refine sSk F rfl rfl ?_
                    clear F a; intro a F
                    refine sSk F rfl rfl ?_
                    clear F a; intro a F
                    refine sPk F rfl rfl rfl rfl ?_
                    clear F a; intro a F
                    refine sAs F rfl rfl rfl ?_
                    clear F a; intro a F
                    refine sNil ?_
                    refine hK20 _ _ ?_; clear hK20
                    refine cSeq (fun K22 hK22 => ?_)
                    refine cReg ?_
                    refine sMv F rfl rfl rfl ?_
                    clear F a; intro a F
                    refine sNot F rfl rfl rfl ?_
                    clear F a; intro a F
                    refine sMv F rfl rfl rfl ?_
                    clear F a; intro a F
                    refine sLrB Tryd.underlying41 rfl Tryd.sizeOf41 F rfl rfl rfl (H.whole 1 rfl) ?_
                    clear F a; intro a F
                    refine sLrB Tryd.underlying41 rfl Tryd.sizeOf41 F rfl rfl rfl (H.whole 0 rfl) ?_
                    clear F a; intro a F
                    refine sBin F rfl rfl rfl rfl (bEqY eT41 gT41 rfl) ?_
                    clear F a; intro a F
                    refine sPk F rfl rfl rfl rfl ?_
                    clear F a; intro a F
                    refine sMv F rfl rfl rfl ?_
                    clear F a; intro a F
                    refine F.split 164 rfl ?_ ?_ <;> (clear F; intro h164 F)
                    ·
                      refine sCall Tryd.call12 F rfl rfl rfl (awake_any _ (hN.own H)) ?_
                      rintro e w ⟨rfl, hb⟩
                      replace H := H.grow hb; clear hb
                      refine ⟨_, rfl, ?_⟩
                      clear F a; intro a F
                      refine sPk F rfl rfl rfl rfl ?_
                      clear F a; intro a F
                      refine sAs F rfl rfl rfl ?_
                      clear F a; intro a F
                      refine sNil ?_
                      refine hK22 _ _ ?_; clear hK22
                      refine wp_ret ?_
                      refine bRet Tryd.results3 F rfl ?_
                      first | exact ⟨retB rfl, H.below⟩ | (exfalso; simp_all; done)
                    ·
                      exact notEq (commute h1 h2 h12 h21 hne (by first | exact .inl h139 | exact .inr (.inl h143) | exact .inr (.inr (.inl h147)) | exact .inr (.inr (.inr ⟨h151, by simpa using h159⟩)))) h164
                  ·
                    refine sLr Tryd.underlying52 rfl ?si F rfl rfl rfl (H.range 3 rfl _ 10) ?_
                    case si => exact info_size Tryd.sizeOf52
                    clear F a; intro a F
                    refine sCall Tryd.call14 F rfl rfl rfl (still_any y _) ?_
                    rintro e w ⟨rfl, hb⟩
                    replace H := H.grow hb; clear hb
                    refine ⟨_, rfl, ?_⟩
                    clear F a; intro a F
                    refine sPk F rfl rfl rfl rfl ?_
                    clear F a; intro a F
                    refine sMv F rfl rfl rfl ?_
                    clear F a; intro a F
                    refine F.split 147 rfl ?_ ?_ <;> (clear F; intro h147 F)
                    ·
                      refine sSk F rfl rfl ?_
                      clear F a; intro a F
                      refine sSk F rfl rfl ?_
                      clear F a; intro a F
                      refine sSk F rfl rfl ?_
                      clear F a; intro a F
                      refine sSk F rfl rfl ?_
                      clear F a; intro a F
                      refine sSk F rfl rfl ?_
                      clear F a; intro a F
                      refine sSk F rfl rfl ?_
                      clear F a; intro a F
                      refine sSk F rfl rfl ?_
                      clear F a; intro a F
                      refine sSk F rfl rfl ?_
                      clear F a; intro a F
                      refine sPk F rfl rfl rfl rfl ?_
                      clear F a; intro a F
                      refine sAs F rfl rfl rfl ?_
                      clear F a; intro a F
                      refine sNil ?_
                      refine hK20 _ _ ?_; clear hK20
                      refine cSeq (fun K23 hK23 => ?_)
                      refine cReg ?_
                      refine sMv F rfl rfl rfl ?_
                      clear F a; intro a F
                      refine sNot F rfl rfl rfl ?_
                      clear F a; intro a F
                      refine sMv F rfl rfl rfl ?_
                      clear F a; intro a F
                      refine sLrB Tryd.underlying41 rfl Tryd.sizeOf41 F rfl rfl rfl (H.whole 1 rfl) ?_
                      clear F a; intro a F
                      refine sLrB Tryd.underlying41 rfl Tryd.sizeOf41 F rfl rfl rfl (H.whole 0 rfl) ?_
                      clear F a; intro a F
                      refine sBin F rfl rfl rfl rfl (bEqY eT41 gT41 rfl) ?_
                      clear F a; intro a F
                      refine sPk F rfl rfl rfl rfl ?_
                      clear F a; intro a F
                      refine sMv F rfl rfl rfl ?_
                      clear F a; intro a F
                      refine F.split 164 rfl ?_ ?_ <;> (clear F; intro h164 F)
                      ·
                        refine sCall Tryd.call12 F rfl rfl rfl (awake_any _ (hN.own H)) ?_
                        rintro e w ⟨rfl, hb⟩
                        replace H := H.grow hb; clear hb
                        refine ⟨_, rfl, ?_⟩
                        clear F a; intro a F
                        refine sPk F rfl rfl rfl rfl ?_
                        clear F a; intro a F
                        refine sAs F rfl rfl rfl ?_
                        clear F a; intro a F
                        refine sNil ?_
                        refine hK23 _ _ ?_; clear hK23
                        refine wp_ret ?_
                        refine bRet Tryd.results3 F rfl ?_
                        first | exact ⟨retB rfl, H.below⟩ | (exfalso; simp_all; done)
                      ·
                        exact notEq (commute h1 h2 h12 h21 hne (by first | exact .inl h139 | exact .inr (.inl h143) | exact .inr (.inr (.inl h147)) | exact .inr (.inr (.inr ⟨h151, by simpa using h159⟩)))) h164
                    ·
                      refine sFa (f := 0) (k := 0) Tryd.underlying52 rfl Tryd.sizeOf5 rfl rfl F rfl rfl rfl ?_
                      clear F a; intro a F
                      refine sLd Tryd.isAgg5 F rfl rfl rfl (H.cell 2 rfl rfl) ?_
                      clear F a; intro a F
                      refine sBin F rfl rfl rfl rfl (bEqlB (y := 1)) ?_
                      clear F a; intro a F
                      refine sMv F rfl rfl rfl ?_
                      clear F a; intro a F
                      refine F.split 151 rfl ?_ ?_ <;> (clear F; intro h151 F)
                      ·
                        replace h151 := beqT h151
                        refine sFa (f := 0) (k := 0) Tryd.underlying52 rfl Tryd.sizeOf5 rfl rfl F rfl rfl rfl ?_
                        clear F a; intro a F
                        refine sLd Tryd.isAgg5 F rfl rfl rfl (H.cell 3 rfl rfl) ?_
                        clear F a; intro a F
                        refine sBin F rfl rfl rfl rfl (bEqlB (y := 1)) ?_
                        clear F a; intro a F
                        refine sPk F rfl rfl rfl rfl ?_
                        clear F a; intro a F
                        refine sPk F rfl rfl rfl rfl ?_
                        clear F a; intro a F
                        refine sAs F rfl rfl rfl ?_
                        clear F a; intro a F
                        refine sNil ?_
                        refine hK20 _ _ ?_; clear hK20
                        refine cSeq (fun K24 hK24 => ?_)
                        refine cReg ?_
                        refine sMv F rfl rfl rfl ?_
                        clear F a; intro a F
                        refine sNot F rfl rfl rfl ?_
                        clear F a; intro a F
                        refine sMv F rfl rfl rfl ?_
                        clear F a; intro a F
                        refine F.split 159 rfl ?_ ?_ <;> (clear F; intro h159 F)
                        ·
                          replace h159 := notT h159
                          replace h159 := beqF h159
                          refine sSk F rfl rfl ?_
                          clear F a; intro a F
                          refine sSk F rfl rfl ?_
                          clear F a; intro a F
                          refine sSk F rfl rfl ?_
                          clear F a; intro a F
                          refine sPk F rfl rfl rfl rfl ?_
                          clear F a; intro a F
                          refine sMv F rfl rfl rfl ?_
                          clear F a; intro a F
                          refine sCall Tryd.call12 F rfl rfl rfl (awake_any _ (hN.own H)) ?_
                          rintro e w ⟨rfl, hb⟩
                          replace H := H.grow hb; clear hb
                          refine ⟨_, rfl, ?_⟩
                          clear F a; intro a F
                          refine sPk F rfl rfl rfl rfl ?_
                          clear F a; intro a F
                          refine sAs F rfl rfl rfl ?_
                          clear F a; intro a F
                          refine sNil ?_
                          refine hK24 _ _ ?_; clear hK24
                          refine wp_ret ?_
                          refine bRet Tryd.results3 F rfl ?_
                          first | exact ⟨retB rfl, H.below⟩ | (exfalso; simp_all; done)
                        ·
                          replace h159 := notF h159
                          replace h159 := beqT h159
                          refine sLrB Tryd.underlying41 rfl Tryd.sizeOf41 F rfl rfl rfl (H.whole 1 rfl) ?_
                          clear F a; intro a F
                          refine sLrB Tryd.underlying41 rfl Tryd.sizeOf41 F rfl rfl rfl (H.whole 0 rfl) ?_
                          clear F a; intro a F
                          refine sBin F rfl rfl rfl rfl (bEqY eT41 gT41 rfl) ?_
                          clear F a; intro a F
                          refine sPk F rfl rfl rfl rfl ?_
                          clear F a; intro a F
                          refine sMv F rfl rfl rfl ?_
                          clear F a; intro a F
                          refine F.split 164 rfl ?_ ?_ <;> (clear F; intro h164 F)
                          ·
                            refine sCall Tryd.call12 F rfl rfl rfl (awake_any _ (hN.own H)) ?_
                            rintro e w ⟨rfl, hb⟩
                            replace H := H.grow hb; clear hb
                            refine ⟨_, rfl, ?_⟩
                            clear F a; intro a F
                            refine sPk F rfl rfl rfl rfl ?_
                            clear F a; intro a F
                            refine sAs F rfl rfl rfl ?_
                            clear F a; intro a F
                            refine sNil ?_
                            refine hK24 _ _ ?_; clear hK24
                            refine wp_ret ?_
                            refine bRet Tryd.results3 F rfl ?_
                            first | exact ⟨retB rfl, H.below⟩ | (exfalso; simp_all; done)
                          ·
                            exact notEq (commute h1 h2 h12 h21 hne (by first | exact .inl h139 | exact .inr (.inl h143) | exact .inr (.inr (.inl h147)) | exact .inr (.inr (.inr ⟨h151, by simpa using h159⟩)))) h164
                      ·
                        replace h151 := beqF h151
                        refine sSk F rfl rfl ?_
                        clear F a; intro a F
                        refine sSk F rfl rfl ?_
                        clear F a; intro a F
                        refine sSk F rfl rfl ?_
                        clear F a; intro a F
                        refine sPk F rfl rfl rfl rfl ?_
                        clear F a; intro a F
                        refine sPk F rfl rfl rfl rfl ?_
                        clear F a; intro a F
                        refine sAs F rfl rfl rfl ?_
                        clear F a; intro a F
                        refine sNil ?_
                        refine hK20 _ _ ?_; clear hK20
                        refine cSeq (fun K25 hK25 => ?_)
                        refine cReg ?_
                        refine sMv F rfl rfl rfl ?_
                        clear F a; intro a F
                        refine sNot F rfl rfl rfl ?_
                        clear F a; intro a F
                        refine sMv F rfl rfl rfl ?_
                        clear F a; intro a F
                        refine sSk F rfl rfl ?_
                        clear F a; intro a F
                        refine sSk F rfl rfl ?_
                        clear F a; intro a F
                        refine sSk F rfl rfl ?_
                        clear F a; intro a F
                        refine sPk F rfl rfl rfl rfl ?_
                        clear F a; intro a F
                        refine sMv F rfl rfl rfl ?_
                        clear F a; intro a F
                        refine sCall Tryd.call12 F rfl rfl rfl (awake_any _ (hN.own H)) ?_
                        rintro e w ⟨rfl, hb⟩
                        replace H := H.grow hb; clear hb
                        refine ⟨_, rfl, ?_⟩
                        clear F a; intro a F
                        refine sPk F rfl rfl rfl rfl ?_
                        clear F a; intro a F
                        refine sAs F rfl rfl rfl ?_
                        clear F a; intro a F
                        refine sNil ?_
                        refine hK25 _ _ ?_; clear hK25
                        refine wp_ret ?_
                        refine bRet Tryd.results3 F rfl ?_
                        first | exact ⟨retB rfl, H.below⟩ | (exfalso; simp_all; done)
end Go.Proofs.YtfemniboggnbiaaDoor
