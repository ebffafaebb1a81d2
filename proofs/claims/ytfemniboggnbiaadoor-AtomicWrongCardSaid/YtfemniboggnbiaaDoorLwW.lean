/-
  WALK2. The law AtomicWrong. Conditions: the program lies in memory; block 0 holds the table of needs.
-/
import Derived.Test.YtfemniboggnbiaaDoorLwS
set_option linter.unusedSimpArgs false
set_option linter.unusedVariables false
namespace Go.Proofs.YtfemniboggnbiaaDoor
open Go.RowKit
set_option maxRecDepth 100000

/-- A state that is not valid has no moves. -/
theorem moves_none {p : Prg} {s : By} (h : rightS p s = false) : movesP p s = [] := by rw [movesP, if_neg (by rw [h]; simp)]
theorem movable_none {p : Prg} {s : By} (h : rightS p s = false) (t : Int) : movable p s t = false := by unfold movable; rw [moves_none h]; rfl
theorem rightS_buf {p : Prg} {s : By} (h : same 96 (cut s 42) zb = false) : rightS p s = false := by
  unfold rightS stateOk; rw [h]; simp
theorem max1 (x : UInt8) : (if x < 1 then 1 else x) ≠ 0 := by
  split
  · decide
  · rename_i h; rintro rfl; exact h (by decide)
theorem wrong0 {p : Prg} {s : By} {l : List Ins} {n : UInt8} (hl : p.threads[0]? = some l) (h12 : l.length ≤ 12) : rightS p (put s 0 (UInt8.ofNat l.length + n % 100 + 1)) = false := by
  refine rightS_thr (j := 0) (by omega) ?_
  rw [threadSt_some hl]
  refine decide_eq_false ?_
  show ¬ (UInt8.ofNat l.length + n % 100 + 1).toNat ≤ l.length
  have h1 : (1 : UInt8).toNat = 1 := rfl
  have h2 : (n % 100).toNat < 100 := by rw [UInt8.toNat_mod]; exact Nat.mod_lt _ (by decide)
  have h3 : (UInt8.ofNat l.length).toNat = l.length := by rw [UInt8.toNat_ofNat']; omega
  rw [UInt8.toNat_add, UInt8.toNat_add, h1, h3]
  omega
theorem wrong1 {p : Prg} {s : By} {n : UInt8} {k : Nat} (hk : k < 8) (h : p.threads.length ≤ 3) (hn : n ≠ 0) : rightS p (put s (28 + k) n) = false := by
  refine rightS_thr (j := 3) (by omega) ?_
  rw [threadSt_none h, same_not]
  exact ⟨1 + k, by omega, by unfold cut put zb; rw [if_pos (by omega)]; exact hn⟩
theorem wrong2 {p : Prg} {s : By} {n : UInt8} (h : p.locs.length ≤ 5) (hn : n ≠ 0) : rightS p (put s 41 n) = false := by
  refine rightS_mem (j := 5) (by omega) ?_
  rw [memSt_out h]
  exact beq_false_of_ne hn
theorem wrong3 {p : Prg} {s : By} {n : UInt8} {k : Nat} (hk : k < 96) (hn : n ≠ 0) : rightS p (put s (42 + k) n) = false := by
  refine rightS_buf ?_
  rw [same_not]
  exact ⟨k, hk, by unfold cut put zb; rw [if_pos rfl]; exact hn⟩
set_option maxHeartbeats 2000000 in
theorem wrong_any (cs : List Value) (p : Prg) (w0 : World) (hP : ProgAt w0 cs p) (hN : NeedsAt w0) (what much : UInt8) (t : Int) :
    Calls Tryd.prog 8 #[.agg cs.toArray, b8 what, b8 much, .int .i64 t] w0 fun e w' => e = .returned (.bool true) ∧ Below w0.heap.size w0 w' := by
  have H := Own.start w0 none
  have hP0 := hP
  obtain ⟨LA, LC, IA, IC, TA, TC, h, ccs, hp⟩ := hP
  obtain ⟨c1, c2, c3, c4, c5, rfl⟩ := len5 (condAt_len hp.cond)
  have hcs := hp.cs
  subst hcs
  refine enterF Tryd.func8 rfl Tryd.ntmps8 rfl (fun a F => ?_)
  refine cSeq (fun K1 hK1 => ?_)
  refine cReg ?_
  refine sBx H F rfl rfl rfl ?_
  clear F a H; intro b4 a w F H
  refine sAs F rfl rfl rfl ?_
  clear F a; intro a F
  refine sNil ?_
  refine hK1 _ _ ?_; clear hK1
  refine cSeq (fun K2 hK2 => ?_)
  refine cReg ?_
  refine sLr Tryd.underlying29 rfl ?si F rfl rfl rfl (H.whole 0 rfl) ?_
  case si => exact info_size Tryd.sizeOf29
  clear F a; intro a F
  refine sCall Tryd.call18 F rfl rfl rfl (start_any _ p _ (hP0.own H) (hN.own H)) ?_
  rintro e w ⟨rfl, hb⟩
  replace H := H.grow hb; clear hb
  refine ⟨_, rfl, ?_⟩
  clear F a; intro a F
  refine sMv F rfl rfl rfl ?_
  clear F a; intro a F
  refine sExt F rfl rfl rfl rfl ?_
  clear F a; intro a F
  refine sExt F rfl rfl rfl rfl ?_
  clear F a; intro a F
  refine sAlB H zB41 F rfl rfl ?_
  clear F a H; intro b9 a w F H
  refine sSrB H 0 Tryd.sizeOf41 F rfl rfl rfl rfl (by omega) ?_
  clear H; intro w H
  rw [lay_all] at H
  refine sAs F rfl rfl rfl ?_
  clear F a; intro a F
  refine sNil ?_
  refine hK2 _ _ ?_; clear hK2
  refine cSeq (fun K3 hK3 => ?_)
  refine cSeq (fun K4 hK4 => ?_)
  refine cReg ?_
  refine sMv F rfl rfl rfl ?_
  clear F a; intro a F
  refine sBin F rfl rfl rfl rfl bNeq ?_
  clear F a; intro a F
  refine sNil ?_
  refine hK4 _ _ ?_; clear hK4
  refine cIf F rfl (fun h25 => ?_) (fun h25 => ?_)
  ·
    replace h25 := bneT h25
    have hv : rightErr p ≠ 0 := fun h => h25 (by rw [startE, if_pos h])
    have eS : startS p = zb := if_neg hv
    have eE : startE p = 2 := if_neg hv
    have hr : rightS p zb = false := rightS_err hv
    have hmv := movable_none hr t
    have hme : moveE p (startS p) t = startE p := by rw [eS, moveE, hmv, eE]; rfl
    have hro : rightS p (startS p) = false := by rw [eS]; exact hr
    have hn1 : (movesP p (startS p)).length = 0 := by rw [eS, moves_none hr]; rfl
    have hn2 : (playO p []).length = 0 := by rw [playO, if_neg hv]; rfl
    refine cSeq (fun K5 hK5 => ?_)
    refine cReg ?_
    refine sLr Tryd.underlying29 rfl ?si F rfl rfl rfl (H.whole 1 rfl) ?_
    case si => exact info_size Tryd.sizeOf29
    clear F a; intro a F
    refine sCall Tryd.call17 F rfl rfl rfl (play_any _ p _ (hP0.own H) (hN.own H) none 0 [] (fun j c hj => by simp at hj) (by decide)) ?_
    rintro e w ⟨A, c, rfl, H2⟩
    replace H := H.join H2; clear H2
    refine ⟨_, rfl, ?_⟩
    clear F a; intro a F
    refine sMv F rfl rfl rfl ?_
    clear F a; intro a F
    refine sExt F rfl rfl rfl rfl ?_
    clear F a; intro a F
    refine sExt F rfl rfl rfl rfl ?_
    clear F a; intro a F
    refine sExt F rfl rfl rfl rfl ?_
    clear F a; intro a F
    refine sAlB H zB65 F rfl rfl ?_
    clear F a H; intro b11 a w F H
    refine sSrB H 0 Tryd.sizeOf65 F rfl rfl rfl rfl (by omega) ?_
    clear H; intro w H
    rw [lay_all] at H
    refine sAs F rfl rfl rfl ?_
    clear F a; intro a F
    refine sAs F rfl rfl rfl ?_
    clear F a; intro a F
    refine sNil ?_
    refine hK5 _ _ ?_; clear hK5
    refine cSeq (fun K6 hK6 => ?_)
    refine cReg ?_
    refine sLr Tryd.underlying29 rfl ?si F rfl rfl rfl (H.whole 3 rfl) ?_
    case si => exact info_size Tryd.sizeOf29
    clear F a; intro a F
    refine sLrB Tryd.underlying41 rfl Tryd.sizeOf41 F rfl rfl rfl (H.whole 2 rfl) ?_
    clear F a; intro a F
    refine sMv F rfl rfl rfl ?_
    clear F a; intro a F
    refine sCall Tryd.call13 F rfl rfl rfl (move_any _ p _ (hP0.own H) (hN.own H) (startS p) t) ?_
    rintro e w ⟨rfl, hb⟩
    replace H := H.grow hb; clear hb
    refine ⟨_, rfl, ?_⟩
    clear F a; intro a F
    refine sMv F rfl rfl rfl ?_
    clear F a; intro a F
    refine sExt F rfl rfl rfl rfl ?_
    clear F a; intro a F
    refine sExt F rfl rfl rfl rfl ?_
    clear F a; intro a F
    refine sAlB H zB41 F rfl rfl ?_
    clear F a H; intro b14 a w F H
    refine sSrB H 0 Tryd.sizeOf41 F rfl rfl rfl rfl (by omega) ?_
    clear H; intro w H
    rw [lay_all] at H
    refine sAs F rfl rfl rfl ?_
    clear F a; intro a F
    refine sNil ?_
    refine hK6 _ _ ?_; clear hK6
    refine cSeq (fun K7 hK7 => ?_)
    refine cReg ?_
    refine sMv F rfl rfl rfl ?_
    clear F a; intro a F
    refine sBin F rfl rfl rfl rfl bEql ?_
    clear F a; intro a F
    refine sMv F rfl rfl rfl ?_
    clear F a; intro a F
    refine F.split 41 rfl ?_ ?_ <;> (clear F; intro h41 F)
    ·
      replace h41 := beqT h41
      refine sLr Tryd.underlying29 rfl ?si F rfl rfl rfl (H.whole 4 rfl) ?_
      case si => exact info_size Tryd.sizeOf29
      clear F a; intro a F
      refine sCall Tryd.call11 F rfl rfl rfl (right_any' _ p _ (hP0.own H) (hN.own H)) ?_
      rintro e w ⟨rfl, hb⟩
      replace H := H.grow hb; clear hb
      refine ⟨_, rfl, ?_⟩
      clear F a; intro a F
      refine sBin F rfl rfl rfl rfl bNeq ?_
      clear F a; intro a F
      refine sPk F rfl rfl rfl rfl ?_
      clear F a; intro a F
      refine sMv F rfl rfl rfl ?_
      clear F a; intro a F
      refine F.split 46 rfl ?_ ?_ <;> (clear F; intro h46 F)
      ·
        replace h46 := bneT h46
        refine sMv F rfl rfl rfl ?_
        clear F a; intro a F
        refine sMv F rfl rfl rfl ?_
        clear F a; intro a F
        refine sBin F rfl rfl rfl rfl bEql ?_
        clear F a; intro a F
        refine sPk F rfl rfl rfl rfl ?_
        clear F a; intro a F
        refine sMv F rfl rfl rfl ?_
        clear F a; intro a F
        refine F.split 51 rfl ?_ ?_ <;> (clear F; intro h51 F)
        ·
          replace h51 := beqT h51
          refine sMv F rfl rfl rfl ?_
          clear F a; intro a F
          refine sMv F rfl rfl rfl ?_
          clear F a; intro a F
          refine sBin F rfl rfl rfl rfl bEql ?_
          clear F a; intro a F
          refine sPk F rfl rfl rfl rfl ?_
          clear F a; intro a F
          refine sMv F rfl rfl rfl ?_
          clear F a; intro a F
          refine F.split 56 rfl ?_ ?_ <;> (clear F; intro h56 F)
          ·
            replace h56 := beqT h56
            refine sMv F rfl rfl rfl ?_
            clear F a; intro a F
            refine sLen Tryd.underlying44 F rfl rfl rfl ?_
            clear F a; intro a F
            refine sLr Tryd.underlying29 rfl ?si F rfl rfl rfl (H.whole 4 rfl) ?_
            case si => exact info_size Tryd.sizeOf29
            clear F a; intro a F
            refine sLrB Tryd.underlying41 rfl Tryd.sizeOf41 F rfl rfl rfl (H.whole 3 rfl) ?_
            clear F a; intro a F
            refine sCall Tryd.call10 F rfl rfl rfl (moves_any _ p _ (hP0.own H) (hN.own H) (startS p)) ?_
            rintro e w ⟨A2, c2, rfl, H2⟩
            replace H := H.join H2; clear H2
            refine ⟨_, rfl, ?_⟩
            clear F a; intro a F
            refine sLen Tryd.underlying44 F rfl rfl rfl ?_
            clear F a; intro a F
            refine sBin F rfl rfl rfl rfl (bAddN ?_) ?_
            focus omega
            clear F a; intro a F
            refine sBin F rfl rfl rfl rfl bEql ?_
            clear F a; intro a F
            refine sPk F rfl rfl rfl rfl ?_
            clear F a; intro a F
            refine sMv F rfl rfl rfl ?_
            clear F a; intro a F
            refine F.split 66 rfl ?_ ?_ <;> (clear F; intro h66 F)
            ·
              replace h66 := beqT h66
              refine sLr Tryd.underlying29 rfl ?si F rfl rfl rfl (H.whole 5 rfl) ?_
              case si => exact info_size Tryd.sizeOf29
              clear F a; intro a F
              refine sLrB Tryd.underlying41 rfl Tryd.sizeOf41 F rfl rfl rfl (H.whole 4 rfl) ?_
              clear F a; intro a F
              refine sCall Tryd.call25 F rfl rfl rfl (rightA_any _ p _ (hP0.own H) (hN.own H) (startS p)) ?_
              rintro e w ⟨rfl, hb⟩
              replace H := H.grow hb; clear hb
              refine ⟨_, rfl, ?_⟩
              clear F a; intro a F
              refine sNot F rfl rfl rfl ?_
              clear F a; intro a F
              refine sPk F rfl rfl rfl rfl ?_
              clear F a; intro a F
              refine sMv F rfl rfl rfl ?_
              clear F a; intro a F
              refine F.split 72 rfl ?_ ?_ <;> (clear F; intro h72 F)
              ·
                replace h72 := notT h72
                refine sLr Tryd.underlying29 rfl ?si F rfl rfl rfl (H.whole 5 rfl) ?_
                case si => exact info_size Tryd.sizeOf29
                clear F a; intro a F
                refine sLrB Tryd.underlying41 rfl Tryd.sizeOf41 F rfl rfl rfl (H.whole 4 rfl) ?_
                clear F a; intro a F
                refine sCall Tryd.call28 F rfl rfl rfl (overA_any _ p _ (hP0.own H) (hN.own H) (startS p)) ?_
                rintro e w ⟨rfl, hb⟩
                replace H := H.grow hb; clear hb
                refine ⟨_, rfl, ?_⟩
                clear F a; intro a F
                refine sNot F rfl rfl rfl ?_
                clear F a; intro a F
                refine sPk F rfl rfl rfl rfl ?_
                clear F a; intro a F
                refine sMv F rfl rfl rfl ?_
                clear F a; intro a F
                refine F.split 78 rfl ?_ ?_ <;> (clear F; intro h78 F)
                ·
                  replace h78 := notT h78
                  refine sCall Tryd.call12 F rfl rfl rfl (awake_any _ (hN.own H)) ?_
                  rintro e w ⟨rfl, hb⟩
                  replace H := H.grow hb; clear hb
                  refine ⟨_, rfl, ?_⟩
                  clear F a; intro a F
                  refine sPk F rfl rfl rfl rfl ?_
                  clear F a; intro a F
                  refine sAs F rfl rfl rfl ?_
                  clear F a; intro a F
                  refine sNil ?_
                  refine hK7 _ _ ?_; clear hK7
                  refine wp_ret ?_
                  simp only [Exit.then]
                  refine bRet Tryd.results8 F rfl ?_
                  refine ⟨retB ?_, H.below⟩
                  clear F H
                  first
                    | rfl
                    | (exfalso; first | exact h56 hme | exact h41 eE | exact hv h46 | exact h51 rfl | exact h66 (by omega) | (rw [hro] at h72; cases h72; done) | (rw [hro] at h78; cases h78; done) | exact h151 (by omega) | exact h155 hme | (rw [hms] at h160; cases h160; done) | (rw [hz] at h144; cases h144; done) | (rw [hz] at h166; cases h166; done))
                ·
                  replace h78 := notF h78
                  refine sSk F rfl rfl ?_
                  clear F a; intro a F
                  refine sPk F rfl rfl rfl rfl ?_
                  clear F a; intro a F
                  refine sAs F rfl rfl rfl ?_
                  clear F a; intro a F
                  refine sNil ?_
                  refine hK7 _ _ ?_; clear hK7
                  refine wp_ret ?_
                  simp only [Exit.then]
                  refine bRet Tryd.results8 F rfl ?_
                  refine ⟨retB ?_, H.below⟩
                  clear F H
                  first
                    | rfl
                    | (exfalso; first | exact h56 hme | exact h41 eE | exact hv h46 | exact h51 rfl | exact h66 (by omega) | (rw [hro] at h72; cases h72; done) | (rw [hro] at h78; cases h78; done) | exact h151 (by omega) | exact h155 hme | (rw [hms] at h160; cases h160; done) | (rw [hz] at h144; cases h144; done) | (rw [hz] at h166; cases h166; done))
              ·
                replace h72 := notF h72
                refine sSk F rfl rfl ?_
                clear F a; intro a F
                refine sSk F rfl rfl ?_
                clear F a; intro a F
                refine sSk F rfl rfl ?_
                clear F a; intro a F
                refine sSk F rfl rfl ?_
                clear F a; intro a F
                refine sPk F rfl rfl rfl rfl ?_
                clear F a; intro a F
                refine sMv F rfl rfl rfl ?_
                clear F a; intro a F
                refine sSk F rfl rfl ?_
                clear F a; intro a F
                refine sPk F rfl rfl rfl rfl ?_
                clear F a; intro a F
                refine sAs F rfl rfl rfl ?_
                clear F a; intro a F
                refine sNil ?_
                refine hK7 _ _ ?_; clear hK7
                refine wp_ret ?_
                simp only [Exit.then]
                refine bRet Tryd.results8 F rfl ?_
                refine ⟨retB ?_, H.below⟩
                clear F H
                first
                  | rfl
                  | (exfalso; first | exact h56 hme | exact h41 eE | exact hv h46 | exact h51 rfl | exact h66 (by omega) | (rw [hro] at h72; cases h72; done) | (rw [hro] at h78; cases h78; done) | exact h151 (by omega) | exact h155 hme | (rw [hms] at h160; cases h160; done) | (rw [hz] at h144; cases h144; done) | (rw [hz] at h166; cases h166; done))
            ·
              replace h66 := beqF h66
              refine sSk F rfl rfl ?_
              clear F a; intro a F
              refine sSk F rfl rfl ?_
              clear F a; intro a F
              refine sSk F rfl rfl ?_
              clear F a; intro a F
              refine sSk F rfl rfl ?_
              clear F a; intro a F
              refine sPk F rfl rfl rfl rfl ?_
              clear F a; intro a F
              refine sMv F rfl rfl rfl ?_
              clear F a; intro a F
              refine sSk F rfl rfl ?_
              clear F a; intro a F
              refine sSk F rfl rfl ?_
              clear F a; intro a F
              refine sSk F rfl rfl ?_
              clear F a; intro a F
              refine sSk F rfl rfl ?_
              clear F a; intro a F
              refine sPk F rfl rfl rfl rfl ?_
              clear F a; intro a F
              refine sMv F rfl rfl rfl ?_
              clear F a; intro a F
              refine sSk F rfl rfl ?_
              clear F a; intro a F
              refine sPk F rfl rfl rfl rfl ?_
              clear F a; intro a F
              refine sAs F rfl rfl rfl ?_
              clear F a; intro a F
              refine sNil ?_
              refine hK7 _ _ ?_; clear hK7
              refine wp_ret ?_
              simp only [Exit.then]
              refine bRet Tryd.results8 F rfl ?_
              refine ⟨retB ?_, H.below⟩
              clear F H
              first
                | rfl
                | (exfalso; first | exact h56 hme | exact h41 eE | exact hv h46 | exact h51 rfl | exact h66 (by omega) | (rw [hro] at h72; cases h72; done) | (rw [hro] at h78; cases h78; done) | exact h151 (by omega) | exact h155 hme | (rw [hms] at h160; cases h160; done) | (rw [hz] at h144; cases h144; done) | (rw [hz] at h166; cases h166; done))
          ·
            replace h56 := beqF h56
            refine sSk F rfl rfl ?_
            clear F a; intro a F
            refine sSk F rfl rfl ?_
            clear F a; intro a F
            refine sSk F rfl rfl ?_
            clear F a; intro a F
            refine sSk F rfl rfl ?_
            clear F a; intro a F
            refine sSk F rfl rfl ?_
            clear F a; intro a F
            refine sSk F rfl rfl ?_
            clear F a; intro a F
            refine sSk F rfl rfl ?_
            clear F a; intro a F
            refine sSk F rfl rfl ?_
            clear F a; intro a F
            refine sPk F rfl rfl rfl rfl ?_
            clear F a; intro a F
            refine sMv F rfl rfl rfl ?_
            clear F a; intro a F
            refine sSk F rfl rfl ?_
            clear F a; intro a F
            refine sSk F rfl rfl ?_
            clear F a; intro a F
            refine sSk F rfl rfl ?_
            clear F a; intro a F
            refine sSk F rfl rfl ?_
            clear F a; intro a F
            refine sPk F rfl rfl rfl rfl ?_
            clear F a; intro a F
            refine sMv F rfl rfl rfl ?_
            clear F a; intro a F
            refine sSk F rfl rfl ?_
            clear F a; intro a F
            refine sSk F rfl rfl ?_
            clear F a; intro a F
            refine sSk F rfl rfl ?_
            clear F a; intro a F
            refine sSk F rfl rfl ?_
            clear F a; intro a F
            refine sPk F rfl rfl rfl rfl ?_
            clear F a; intro a F
            refine sMv F rfl rfl rfl ?_
            clear F a; intro a F
            refine sSk F rfl rfl ?_
            clear F a; intro a F
            refine sPk F rfl rfl rfl rfl ?_
            clear F a; intro a F
            refine sAs F rfl rfl rfl ?_
            clear F a; intro a F
            refine sNil ?_
            refine hK7 _ _ ?_; clear hK7
            refine wp_ret ?_
            simp only [Exit.then]
            refine bRet Tryd.results8 F rfl ?_
            refine ⟨retB ?_, H.below⟩
            clear F H
            first
              | rfl
              | (exfalso; first | exact h56 hme | exact h41 eE | exact hv h46 | exact h51 rfl | exact h66 (by omega) | (rw [hro] at h72; cases h72; done) | (rw [hro] at h78; cases h78; done) | exact h151 (by omega) | exact h155 hme | (rw [hms] at h160; cases h160; done) | (rw [hz] at h144; cases h144; done) | (rw [hz] at h166; cases h166; done))
        ·
          replace h51 := beqF h51
          refine sSk F rfl rfl ?_
          clear F a; intro a F
          refine sSk F rfl rfl ?_
          clear F a; intro a F
          refine sSk F rfl rfl ?_
          clear F a; intro a F
          refine sPk F rfl rfl rfl rfl ?_
          clear F a; intro a F
          refine sMv F rfl rfl rfl ?_
          clear F a; intro a F
          refine sSk F rfl rfl ?_
          clear F a; intro a F
          refine sSk F rfl rfl ?_
          clear F a; intro a F
          refine sSk F rfl rfl ?_
          clear F a; intro a F
          refine sSk F rfl rfl ?_
          clear F a; intro a F
          refine sSk F rfl rfl ?_
          clear F a; intro a F
          refine sSk F rfl rfl ?_
          clear F a; intro a F
          refine sSk F rfl rfl ?_
          clear F a; intro a F
          refine sSk F rfl rfl ?_
          clear F a; intro a F
          refine sPk F rfl rfl rfl rfl ?_
          clear F a; intro a F
          refine sMv F rfl rfl rfl ?_
          clear F a; intro a F
          refine sSk F rfl rfl ?_
          clear F a; intro a F
          refine sSk F rfl rfl ?_
          clear F a; intro a F
          refine sSk F rfl rfl ?_
          clear F a; intro a F
          refine sSk F rfl rfl ?_
          clear F a; intro a F
          refine sPk F rfl rfl rfl rfl ?_
          clear F a; intro a F
          refine sMv F rfl rfl rfl ?_
          clear F a; intro a F
          refine sSk F rfl rfl ?_
          clear F a; intro a F
          refine sSk F rfl rfl ?_
          clear F a; intro a F
          refine sSk F rfl rfl ?_
          clear F a; intro a F
          refine sSk F rfl rfl ?_
          clear F a; intro a F
          refine sPk F rfl rfl rfl rfl ?_
          clear F a; intro a F
          refine sMv F rfl rfl rfl ?_
          clear F a; intro a F
          refine sSk F rfl rfl ?_
          clear F a; intro a F
          refine sPk F rfl rfl rfl rfl ?_
          clear F a; intro a F
          refine sAs F rfl rfl rfl ?_
          clear F a; intro a F
          refine sNil ?_
          refine hK7 _ _ ?_; clear hK7
          refine wp_ret ?_
          simp only [Exit.then]
          refine bRet Tryd.results8 F rfl ?_
          refine ⟨retB ?_, H.below⟩
          clear F H
          first
            | rfl
            | (exfalso; first | exact h56 hme | exact h41 eE | exact hv h46 | exact h51 rfl | exact h66 (by omega) | (rw [hro] at h72; cases h72; done) | (rw [hro] at h78; cases h78; done) | exact h151 (by omega) | exact h155 hme | (rw [hms] at h160; cases h160; done) | (rw [hz] at h144; cases h144; done) | (rw [hz] at h166; cases h166; done))
      ·
        replace h46 := bneF h46
        refine sSk F rfl rfl ?_
        clear F a; intro a F
        refine sSk F rfl rfl ?_
        clear F a; intro a F
        refine sSk F rfl rfl ?_
        clear F a; intro a F
        refine sPk F rfl rfl rfl rfl ?_
        clear F a; intro a F
        refine sMv F rfl rfl rfl ?_
        clear F a; intro a F
        refine sSk F rfl rfl ?_
        clear F a; intro a F
        refine sSk F rfl rfl ?_
        clear F a; intro a F
        refine sSk F rfl rfl ?_
        clear F a; intro a F
        refine sPk F rfl rfl rfl rfl ?_
        clear F a; intro a F
        refine sMv F rfl rfl rfl ?_
        clear F a; intro a F
        refine sSk F rfl rfl ?_
        clear F a; intro a F
        refine sSk F rfl rfl ?_
        clear F a; intro a F
        refine sSk F rfl rfl ?_
        clear F a; intro a F
        refine sSk F rfl rfl ?_
        clear F a; intro a F
        refine sSk F rfl rfl ?_
        clear F a; intro a F
        refine sSk F rfl rfl ?_
        clear F a; intro a F
        refine sSk F rfl rfl ?_
        clear F a; intro a F
        refine sSk F rfl rfl ?_
        clear F a; intro a F
        refine sPk F rfl rfl rfl rfl ?_
        clear F a; intro a F
        refine sMv F rfl rfl rfl ?_
        clear F a; intro a F
        refine sSk F rfl rfl ?_
        clear F a; intro a F
        refine sSk F rfl rfl ?_
        clear F a; intro a F
        refine sSk F rfl rfl ?_
        clear F a; intro a F
        refine sSk F rfl rfl ?_
        clear F a; intro a F
        refine sPk F rfl rfl rfl rfl ?_
        clear F a; intro a F
        refine sMv F rfl rfl rfl ?_
        clear F a; intro a F
        refine sSk F rfl rfl ?_
        clear F a; intro a F
        refine sSk F rfl rfl ?_
        clear F a; intro a F
        refine sSk F rfl rfl ?_
        clear F a; intro a F
        refine sSk F rfl rfl ?_
        clear F a; intro a F
        refine sPk F rfl rfl rfl rfl ?_
        clear F a; intro a F
        refine sMv F rfl rfl rfl ?_
        clear F a; intro a F
        refine sSk F rfl rfl ?_
        clear F a; intro a F
        refine sPk F rfl rfl rfl rfl ?_
        clear F a; intro a F
        refine sAs F rfl rfl rfl ?_
        clear F a; intro a F
        refine sNil ?_
        refine hK7 _ _ ?_; clear hK7
        refine wp_ret ?_
        simp only [Exit.then]
        refine bRet Tryd.results8 F rfl ?_
        refine ⟨retB ?_, H.below⟩
        clear F H
        first
          | rfl
          | (exfalso; first | exact h56 hme | exact h41 eE | exact hv h46 | exact h51 rfl | exact h66 (by omega) | (rw [hro] at h72; cases h72; done) | (rw [hro] at h78; cases h78; done) | exact h151 (by omega) | exact h155 hme | (rw [hms] at h160; cases h160; done) | (rw [hz] at h144; cases h144; done) | (rw [hz] at h166; cases h166; done))
    ·
      replace h41 := beqF h41
      refine sSk F rfl rfl ?_
      clear F a; intro a F
      refine sSk F rfl rfl ?_
      clear F a; intro a F
      refine sSk F rfl rfl ?_
      clear F a; intro a F
      refine sPk F rfl rfl rfl rfl ?_
      clear F a; intro a F
      refine sMv F rfl rfl rfl ?_
      clear F a; intro a F
      refine sSk F rfl rfl ?_
      clear F a; intro a F
      refine sSk F rfl rfl ?_
      clear F a; intro a F
      refine sSk F rfl rfl ?_
      clear F a; intro a F
      refine sPk F rfl rfl rfl rfl ?_
      clear F a; intro a F
      refine sMv F rfl rfl rfl ?_
      clear F a; intro a F
      refine sSk F rfl rfl ?_
      clear F a; intro a F
      refine sSk F rfl rfl ?_
      clear F a; intro a F
      refine sSk F rfl rfl ?_
      clear F a; intro a F
      refine sPk F rfl rfl rfl rfl ?_
      clear F a; intro a F
      refine sMv F rfl rfl rfl ?_
      clear F a; intro a F
      refine sSk F rfl rfl ?_
      clear F a; intro a F
      refine sSk F rfl rfl ?_
      clear F a; intro a F
      refine sSk F rfl rfl ?_
      clear F a; intro a F
      refine sSk F rfl rfl ?_
      clear F a; intro a F
      refine sSk F rfl rfl ?_
      clear F a; intro a F
      refine sSk F rfl rfl ?_
      clear F a; intro a F
      refine sSk F rfl rfl ?_
      clear F a; intro a F
      refine sSk F rfl rfl ?_
      clear F a; intro a F
      refine sPk F rfl rfl rfl rfl ?_
      clear F a; intro a F
      refine sMv F rfl rfl rfl ?_
      clear F a; intro a F
      refine sSk F rfl rfl ?_
      clear F a; intro a F
      refine sSk F rfl rfl ?_
      clear F a; intro a F
      refine sSk F rfl rfl ?_
      clear F a; intro a F
      refine sSk F rfl rfl ?_
      clear F a; intro a F
      refine sPk F rfl rfl rfl rfl ?_
      clear F a; intro a F
      refine sMv F rfl rfl rfl ?_
      clear F a; intro a F
      refine sSk F rfl rfl ?_
      clear F a; intro a F
      refine sSk F rfl rfl ?_
      clear F a; intro a F
      refine sSk F rfl rfl ?_
      clear F a; intro a F
      refine sSk F rfl rfl ?_
      clear F a; intro a F
      refine sPk F rfl rfl rfl rfl ?_
      clear F a; intro a F
      refine sMv F rfl rfl rfl ?_
      clear F a; intro a F
      refine sSk F rfl rfl ?_
      clear F a; intro a F
      refine sPk F rfl rfl rfl rfl ?_
      clear F a; intro a F
      refine sAs F rfl rfl rfl ?_
      clear F a; intro a F
      refine sNil ?_
      refine hK7 _ _ ?_; clear hK7
      refine wp_ret ?_
      simp only [Exit.then]
      refine bRet Tryd.results8 F rfl ?_
      refine ⟨retB ?_, H.below⟩
      clear F H
      first
        | rfl
        | (exfalso; first | exact h56 hme | exact h41 eE | exact hv h46 | exact h51 rfl | exact h66 (by omega) | (rw [hro] at h72; cases h72; done) | (rw [hro] at h78; cases h78; done) | exact h151 (by omega) | exact h155 hme | (rw [hms] at h160; cases h160; done) | (rw [hz] at h144; cases h144; done) | (rw [hz] at h166; cases h166; done))
  ·
    replace h25 := bneF h25
    have hv : rightErr p = 0 := by
      apply Decidable.byContradiction
      intro h
      rw [startE, if_neg h] at h25
      cases h25
    have hV := valid hv
    have hV1 := hV.thr1
    have hV4 := hV.thr4
    have eS : startS p = startP p := if_pos hv
    have r8 : (much % 8).toNat < 8 := by rw [UInt8.toNat_mod]; exact Nat.mod_lt _ (by decide)
    have r4 : (much % 4).toNat < 4 := by rw [UInt8.toNat_mod]; exact Nat.mod_lt _ (by decide)
    have r12 : (much % 12).toNat < 12 := by rw [UInt8.toNat_mod]; exact Nat.mod_lt _ (by decide)
    obtain ⟨l0, hl0⟩ : ∃ l, p.threads[0]? = some l := ⟨_, List.getElem?_eq_getElem hV.thr1⟩
    obtain ⟨bT, oT, BT, CT, rfl, hT1, hT2, hT3⟩ := hp.threads 0 l0 hl0
    refine wp_skip ?_
    refine hK3 _ _ ?_; clear hK3
    refine cSeq (fun K8 hK8 => ?_)
    refine cReg ?_
    refine sMv F rfl rfl rfl ?_
    clear F a; intro a F
    refine sMaxB (y := 1) F rfl rfl rfl rfl ?_
    clear F a; intro a F
    refine sAs F rfl rfl rfl ?_
    clear F a; intro a F
    refine sNil ?_
    refine hK8 _ _ ?_; clear hK8
    refine cSeqJ [3, 4, 9] (fun ups w => ∃ z, ups = [] ∧ rightS p z = false ∧ Own w0 none w [.blk b9 (bs 142 z) 41, .blk b4 ([.string p.name, .slice LA p.locs.length LC, .slice IA p.init.length IC, .slice (some ⟨bT, oT, none⟩) p.threads.length TC, b8 p.ask] ++ [c1, c2, c3, c4, c5]) 29]) F (by repeat (first | exact SubR.nil | (apply SubR.cons; · rfl))) ?_ ?_
    ·
      refine cSeq (fun K9 hK9 => ?_)
      refine cReg ?_
      refine sMv F rfl rfl rfl ?_
      clear F a; intro a F
      refine sBin F rfl rfl rfl rfl (bRemB (y := 4) ?_) ?_
      focus decide
      clear F a; intro a F
      refine sNil ?_
      refine hK9 _ _ ?_; clear hK9
      refine wp_block ?_
      refine cSeq (fun K10 hK10 => ?_)
      refine cReg ?_
      refine sBin F rfl rfl rfl rfl (bEqlB (y := 0)) ?_
      clear F a; intro a F
      refine sAs F rfl rfl rfl ?_
      clear F a; intro a F
      refine sNil ?_
      refine hK10 _ _ ?_; clear hK10
      refine cIf F rfl (fun h94 => ?_) (fun h94 => ?_)
      ·
        replace h94 := beqT h94
        have hwA : rightS p (put (startS p) 0 (UInt8.ofNat l0.length + (if much < 1 then 1 else much) % 100 + 1)) = false := wrong0 hl0 (hV.long 0 l0 hl0)
        refine cReg ?_
        refine sFa (f := 3) (k := 3) Tryd.underlying29 rfl Tryd.sizeOf24 rfl rfl F rfl rfl rfl ?_
        clear F a; intro a F
        refine sLd Tryd.isAgg24 F rfl rfl rfl (H.cell 1 rfl rfl) ?_
        clear F a; intro a F
        refine sIx (j := 0) Tryd.underlying24 Tryd.sizeOf53 F rfl rfl rfl rfl ?_ ?_
        focus (first | omega | decide | (simp; omega))
        clear F a; intro a F
        refine sLd Tryd.isAgg53 F rfl rfl rfl (H.arg hT1) ?_
        clear F a; intro a F
        refine sLen Tryd.underlying53 F rfl rfl rfl ?_
        clear F a; intro a F
        refine sCv Tryd.underlying3 Tryd.underlying5 F rfl rfl rfl (wrap8 _) ?_
        clear F a; intro a F
        refine sMv F rfl rfl rfl ?_
        clear F a; intro a F
        refine sBin F rfl rfl rfl rfl (bRemB (y := 100) ?_) ?_
        focus decide
        clear F a; intro a F
        refine sBin F rfl rfl rfl rfl (bAddB) ?_
        clear F a; intro a F
        refine sBin F rfl rfl rfl rfl (bAddB (y := 1)) ?_
        clear F a; intro a F
        refine sFa (f := 0) (k := 0) Tryd.underlying41 rfl Tryd.sizeOf33 rfl rfl F rfl rfl rfl ?_
        clear F a; intro a F
        refine sIa (j := 0) Tryd.underlying33 Tryd.sizeOf32 F rfl rfl rfl rfl ?_ ?_
        focus (first | omega | decide | (simp; omega))
        clear F a; intro a F
        refine sFa (f := 0) (k := 0) Tryd.underlying32 rfl Tryd.sizeOf5 rfl rfl F rfl rfl rfl ?_
        clear F a; intro a F
        refine sStB H 0 Tryd.sizeOf5 F rfl rfl rfl rfl (by omega) ?_
        clear H; intro w H
        refine sNil ?_
        first
          | exact ⟨[], ⟨_, rfl, hwA, H⟩, F.to (by repeat (first | exact trivial | refine Le.cons rfl ?_))⟩
          | exact ⟨[], ⟨_, rfl, hwB, H⟩, F.to (by repeat (first | exact trivial | refine Le.cons rfl ?_))⟩
          | exact ⟨[], ⟨_, rfl, hwC, H⟩, F.to (by repeat (first | exact trivial | refine Le.cons rfl ?_))⟩
          | exact ⟨[], ⟨_, rfl, hwD, H⟩, F.to (by repeat (first | exact trivial | refine Le.cons rfl ?_))⟩
      ·
        replace h94 := beqF h94
        refine cSeq (fun K11 hK11 => ?_)
        refine cReg ?_
        refine sBin F rfl rfl rfl rfl (bEqlB (y := 1)) ?_
        clear F a; intro a F
        refine sAs F rfl rfl rfl ?_
        clear F a; intro a F
        refine sNil ?_
        refine hK11 _ _ ?_; clear hK11
        refine cIf F rfl (fun h109 => ?_) (fun h109 => ?_)
        ·
          replace h109 := beqT h109
          refine cSeq (fun K12 hK12 => ?_)
          refine cSeq (fun K13 hK13 => ?_)
          refine cReg ?_
          refine sFa (f := 3) (k := 3) Tryd.underlying29 rfl Tryd.sizeOf24 rfl rfl F rfl rfl rfl ?_
          clear F a; intro a F
          refine sLd Tryd.isAgg24 F rfl rfl rfl (H.cell 1 rfl rfl) ?_
          clear F a; intro a F
          refine sLen Tryd.underlying24 F rfl rfl rfl ?_
          clear F a; intro a F
          refine sBin F rfl rfl rfl rfl bEql ?_
          clear F a; intro a F
          refine sNil ?_
          refine hK13 _ _ ?_; clear hK13
          refine cIf F rfl (fun h114 => ?_) (fun h114 => ?_)
          ·
            replace h114 := beqT h114
            refine cSeq (fun K14 hK14 => ?_)
            refine cReg ?_
            refine sCall Tryd.call12 F rfl rfl rfl (awake_any _ (hN.own H)) ?_
            rintro e w ⟨rfl, hb⟩
            replace H := H.grow hb; clear hb
            refine ⟨_, rfl, ?_⟩
            clear F a; intro a F
            refine sAs F rfl rfl rfl ?_
            clear F a; intro a F
            refine sNil ?_
            refine hK14 _ _ ?_; clear hK14
            refine wp_ret ?_
            simp only [Exit.inBlock, Exit.then]
            refine bRet Tryd.results8 F rfl ?_
            refine ⟨retB ?_, H.below⟩
            clear F H
            first
              | rfl
              | (exfalso; first | exact h56 hme | exact h41 eE | exact hv h46 | exact h51 rfl | exact h66 (by omega) | (rw [hro] at h72; cases h72; done) | (rw [hro] at h78; cases h78; done) | exact h151 (by omega) | exact h155 hme | (rw [hms] at h160; cases h160; done) | (rw [hz] at h144; cases h144; done) | (rw [hz] at h166; cases h166; done))
          ·
            replace h114 := beqF h114
            have hwB : rightS p (put (startS p) (28 + (much % 8).toNat) (if much < 1 then 1 else much)) = false := wrong1 r8 (by omega) (max1 _)
            refine wp_skip ?_
            refine hK12 _ _ ?_; clear hK12
            refine cReg ?_
            refine sMv F rfl rfl rfl ?_
            clear F a; intro a F
            refine sBin F rfl rfl rfl rfl (bRemB (y := 8) ?_) ?_
            focus decide
            clear F a; intro a F
            refine sMv F rfl rfl rfl ?_
            clear F a; intro a F
            refine sFa (f := 0) (k := 0) Tryd.underlying41 rfl Tryd.sizeOf33 rfl rfl F rfl rfl rfl ?_
            clear F a; intro a F
            refine sIa (j := 3) Tryd.underlying33 Tryd.sizeOf32 F rfl rfl rfl rfl ?_ ?_
            focus (first | omega | decide | (simp; omega))
            clear F a; intro a F
            refine sFa (f := 1) (k := 28) Tryd.underlying32 rfl Tryd.sizeOf30 rfl rfl F rfl rfl rfl ?_
            clear F a; intro a F
            refine sIa1 Tryd.underlying30 Tryd.sizeOf5 F rfl rfl rfl rfl ?_ ?_
            focus (first | omega | decide | (simp; omega))
            clear F a; intro a F
            refine sStB H 0 Tryd.sizeOf5 F rfl rfl rfl rfl (by omega) ?_
            clear H; intro w H
            refine sNil ?_
            first
              | exact ⟨[], ⟨_, rfl, hwA, H⟩, F.to (by repeat (first | exact trivial | refine Le.cons rfl ?_))⟩
              | exact ⟨[], ⟨_, rfl, hwB, H⟩, F.to (by repeat (first | exact trivial | refine Le.cons rfl ?_))⟩
              | exact ⟨[], ⟨_, rfl, hwC, H⟩, F.to (by repeat (first | exact trivial | refine Le.cons rfl ?_))⟩
              | exact ⟨[], ⟨_, rfl, hwD, H⟩, F.to (by repeat (first | exact trivial | refine Le.cons rfl ?_))⟩
        ·
          replace h109 := beqF h109
          refine cSeq (fun K15 hK15 => ?_)
          refine cReg ?_
          refine sBin F rfl rfl rfl rfl (bEqlB (y := 2)) ?_
          clear F a; intro a F
          refine sAs F rfl rfl rfl ?_
          clear F a; intro a F
          refine sNil ?_
          refine hK15 _ _ ?_; clear hK15
          refine cIf F rfl (fun h123 => ?_) (fun h123 => ?_)
          ·
            replace h123 := beqT h123
            refine cSeq (fun K16 hK16 => ?_)
            refine cSeq (fun K17 hK17 => ?_)
            refine cReg ?_
            refine sFa (f := 1) (k := 1) Tryd.underlying29 rfl Tryd.sizeOf22 rfl rfl F rfl rfl rfl ?_
            clear F a; intro a F
            refine sLd Tryd.isAgg22 F rfl rfl rfl (H.cell 1 rfl rfl) ?_
            clear F a; intro a F
            refine sLen Tryd.underlying22 F rfl rfl rfl ?_
            clear F a; intro a F
            refine sBin F rfl rfl rfl rfl bEql ?_
            clear F a; intro a F
            refine sNil ?_
            refine hK17 _ _ ?_; clear hK17
            refine cIf F rfl (fun h128 => ?_) (fun h128 => ?_)
            ·
              replace h128 := beqT h128
              refine cSeq (fun K18 hK18 => ?_)
              refine cReg ?_
              refine sCall Tryd.call12 F rfl rfl rfl (awake_any _ (hN.own H)) ?_
              rintro e w ⟨rfl, hb⟩
              replace H := H.grow hb; clear hb
              refine ⟨_, rfl, ?_⟩
              clear F a; intro a F
              refine sAs F rfl rfl rfl ?_
              clear F a; intro a F
              refine sNil ?_
              refine hK18 _ _ ?_; clear hK18
              refine wp_ret ?_
              simp only [Exit.inBlock, Exit.then]
              refine bRet Tryd.results8 F rfl ?_
              refine ⟨retB ?_, H.below⟩
              clear F H
              first
                | rfl
                | (exfalso; first | exact h56 hme | exact h41 eE | exact hv h46 | exact h51 rfl | exact h66 (by omega) | (rw [hro] at h72; cases h72; done) | (rw [hro] at h78; cases h78; done) | exact h151 (by omega) | exact h155 hme | (rw [hms] at h160; cases h160; done) | (rw [hz] at h144; cases h144; done) | (rw [hz] at h166; cases h166; done))
            ·
              replace h128 := beqF h128
              have hwC : rightS p (put (startS p) (36 + 5 * 1) (if much < 1 then 1 else much)) = false := wrong2 (by have := hV.locs6; omega) (max1 _)
              refine wp_skip ?_
              refine hK16 _ _ ?_; clear hK16
              refine cReg ?_
              refine sMv F rfl rfl rfl ?_
              clear F a; intro a F
              refine sFa (f := 1) (k := 36) Tryd.underlying41 rfl Tryd.sizeOf34 rfl rfl F rfl rfl rfl ?_
              clear F a; intro a F
              refine sIa (j := 5) Tryd.underlying34 Tryd.sizeOf5 F rfl rfl rfl rfl ?_ ?_
              focus (first | omega | decide | (simp; omega))
              clear F a; intro a F
              refine sStB H 0 Tryd.sizeOf5 F rfl rfl rfl rfl (by omega) ?_
              clear H; intro w H
              refine sNil ?_
              first
                | exact ⟨[], ⟨_, rfl, hwA, H⟩, F.to (by repeat (first | exact trivial | refine Le.cons rfl ?_))⟩
                | exact ⟨[], ⟨_, rfl, hwB, H⟩, F.to (by repeat (first | exact trivial | refine Le.cons rfl ?_))⟩
                | exact ⟨[], ⟨_, rfl, hwC, H⟩, F.to (by repeat (first | exact trivial | refine Le.cons rfl ?_))⟩
                | exact ⟨[], ⟨_, rfl, hwD, H⟩, F.to (by repeat (first | exact trivial | refine Le.cons rfl ?_))⟩
          ·
            replace h123 := beqF h123
            have hwD : rightS p (put (startS p) (42 + (much % 4).toNat * 24 + (much % 12).toNat * 2 + 1) (if much < 1 then 1 else much)) = false := (by rw [show 42 + (much % 4).toNat * 24 + (much % 12).toNat * 2 + 1 = 42 + ((much % 4).toNat * 24 + ((much % 12).toNat * 2 + 1)) by omega]; exact wrong3 (by omega) (max1 _))
            refine cReg ?_
            refine sMv F rfl rfl rfl ?_
            clear F a; intro a F
            refine sBin F rfl rfl rfl rfl (bRemB (y := 4) ?_) ?_
            focus decide
            clear F a; intro a F
            refine sMv F rfl rfl rfl ?_
            clear F a; intro a F
            refine sBin F rfl rfl rfl rfl (bRemB (y := 12) ?_) ?_
            focus decide
            clear F a; intro a F
            refine sMv F rfl rfl rfl ?_
            clear F a; intro a F
            refine sFa (f := 2) (k := 42) Tryd.underlying41 rfl Tryd.sizeOf38 rfl rfl F rfl rfl rfl ?_
            clear F a; intro a F
            refine sIa Tryd.underlying38 Tryd.sizeOf37 F rfl rfl rfl rfl ?_ ?_
            focus (first | omega | decide | (simp; omega))
            clear F a; intro a F
            refine sIa Tryd.underlying37 Tryd.sizeOf36 F rfl rfl rfl rfl ?_ ?_
            focus (first | omega | decide | (simp; omega))
            clear F a; intro a F
            refine sFa (f := 1) (k := _ + 1) Tryd.underlying36 rfl Tryd.sizeOf5 rfl rfl F rfl rfl rfl ?_
            clear F a; intro a F
            refine sStB H 0 Tryd.sizeOf5 F rfl rfl rfl rfl (by omega) ?_
            clear H; intro w H
            refine sNil ?_
            first
              | exact ⟨[], ⟨_, rfl, hwA, H⟩, F.to (by repeat (first | exact trivial | refine Le.cons rfl ?_))⟩
              | exact ⟨[], ⟨_, rfl, hwB, H⟩, F.to (by repeat (first | exact trivial | refine Le.cons rfl ?_))⟩
              | exact ⟨[], ⟨_, rfl, hwC, H⟩, F.to (by repeat (first | exact trivial | refine Le.cons rfl ?_))⟩
              | exact ⟨[], ⟨_, rfl, hwD, H⟩, F.to (by repeat (first | exact trivial | refine Le.cons rfl ?_))⟩
    clear F H
    intro ups a w hI F
    obtain ⟨z, rfl, hz, H⟩ := hI
    have hmv := movable_none hz t
    have hme : moveE p z t = 2 := by rw [moveE, hmv]; rfl
    have hms : same 142 (moveS p z t) zb = true := by rw [moveS, hmv]; exact same_iff.2 fun _ _ => rfl
    have hmz : (movesP p z).length = 0 := by rw [moves_none hz]; rfl
    refine cSeq (fun K19 hK19 => ?_)
    refine cReg ?_
    refine sLr Tryd.underlying29 rfl ?si F rfl rfl rfl (H.whole 1 rfl) ?_
    case si => exact info_size Tryd.sizeOf29
    clear F a; intro a F
    refine sLrB Tryd.underlying41 rfl Tryd.sizeOf41 F rfl rfl rfl (H.whole 0 rfl) ?_
    clear F a; intro a F
    refine sMv F rfl rfl rfl ?_
    clear F a; intro a F
    refine sCall Tryd.call13 F rfl rfl rfl (move_any _ p _ (hP0.own H) (hN.own H) z t) ?_
    rintro e w ⟨rfl, hb⟩
    replace H := H.grow hb; clear hb
    refine ⟨_, rfl, ?_⟩
    clear F a; intro a F
    refine sMv F rfl rfl rfl ?_
    clear F a; intro a F
    refine sExt F rfl rfl rfl rfl ?_
    clear F a; intro a F
    refine sExt F rfl rfl rfl rfl ?_
    clear F a; intro a F
    refine sAlB H zB41 F rfl rfl ?_
    clear F a H; intro b17 a w F H
    refine sSrB H 0 Tryd.sizeOf41 F rfl rfl rfl rfl (by omega) ?_
    clear H; intro w H
    rw [lay_all] at H
    refine sAs F rfl rfl rfl ?_
    clear F a; intro a F
    refine sNil ?_
    refine hK19 _ _ ?_; clear hK19
    refine cSeq (fun K20 hK20 => ?_)
    refine cReg ?_
    refine sLr Tryd.underlying29 rfl ?si F rfl rfl rfl (H.whole 2 rfl) ?_
    case si => exact info_size Tryd.sizeOf29
    clear F a; intro a F
    refine sLrB Tryd.underlying41 rfl Tryd.sizeOf41 F rfl rfl rfl (H.whole 1 rfl) ?_
    clear F a; intro a F
    refine sCall Tryd.call25 F rfl rfl rfl (rightA_any _ p _ (hP0.own H) (hN.own H) z) ?_
    rintro e w ⟨rfl, hb⟩
    replace H := H.grow hb; clear hb
    refine ⟨_, rfl, ?_⟩
    clear F a; intro a F
    refine sNot F rfl rfl rfl ?_
    clear F a; intro a F
    refine sMv F rfl rfl rfl ?_
    clear F a; intro a F
    refine F.split 144 rfl ?_ ?_ <;> (clear F; intro h144 F)
    ·
      replace h144 := notT h144
      refine sLr Tryd.underlying29 rfl ?si F rfl rfl rfl (H.whole 2 rfl) ?_
      case si => exact info_size Tryd.sizeOf29
      clear F a; intro a F
      refine sLrB Tryd.underlying41 rfl Tryd.sizeOf41 F rfl rfl rfl (H.whole 1 rfl) ?_
      clear F a; intro a F
      refine sCall Tryd.call10 F rfl rfl rfl (moves_any _ p _ (hP0.own H) (hN.own H) z) ?_
      rintro e w ⟨A3, c3, rfl, H2⟩
      replace H := H.join H2; clear H2
      refine ⟨_, rfl, ?_⟩
      clear F a; intro a F
      refine sLen Tryd.underlying44 F rfl rfl rfl ?_
      clear F a; intro a F
      refine sBin F rfl rfl rfl rfl bEql ?_
      clear F a; intro a F
      refine sPk F rfl rfl rfl rfl ?_
      clear F a; intro a F
      refine sMv F rfl rfl rfl ?_
      clear F a; intro a F
      refine F.split 151 rfl ?_ ?_ <;> (clear F; intro h151 F)
      ·
        replace h151 := beqT h151
        refine sMv F rfl rfl rfl ?_
        clear F a; intro a F
        refine sBin F rfl rfl rfl rfl bEql ?_
        clear F a; intro a F
        refine sPk F rfl rfl rfl rfl ?_
        clear F a; intro a F
        refine sMv F rfl rfl rfl ?_
        clear F a; intro a F
        refine F.split 155 rfl ?_ ?_ <;> (clear F; intro h155 F)
        ·
          replace h155 := beqT h155
          refine sLrB Tryd.underlying41 rfl Tryd.sizeOf41 F rfl rfl rfl (H.whole 1 rfl) ?_
          clear F a; intro a F
          refine sBdB (places := [(0, 36), (36, 6), (42, 96), (138, 4)]) zB41 Tryd.underlying41 (by kernel_rfl) F rfl rfl rfl FillB.nil ?_
          clear F a; intro a F
          refine sBin F rfl rfl rfl rfl (bEqY eT41 gT41 rfl) ?_
          clear F a; intro a F
          refine sPk F rfl rfl rfl rfl ?_
          clear F a; intro a F
          refine sMv F rfl rfl rfl ?_
          clear F a; intro a F
          refine F.split 160 rfl ?_ ?_ <;> (clear F; intro h160 F)
          ·
            refine sLr Tryd.underlying29 rfl ?si F rfl rfl rfl (H.whole 3 rfl) ?_
            case si => exact info_size Tryd.sizeOf29
            clear F a; intro a F
            refine sLrB Tryd.underlying41 rfl Tryd.sizeOf41 F rfl rfl rfl (H.whole 2 rfl) ?_
            clear F a; intro a F
            refine sCall Tryd.call28 F rfl rfl rfl (overA_any _ p _ (hP0.own H) (hN.own H) z) ?_
            rintro e w ⟨rfl, hb⟩
            replace H := H.grow hb; clear hb
            refine ⟨_, rfl, ?_⟩
            clear F a; intro a F
            refine sNot F rfl rfl rfl ?_
            clear F a; intro a F
            refine sPk F rfl rfl rfl rfl ?_
            clear F a; intro a F
            refine sMv F rfl rfl rfl ?_
            clear F a; intro a F
            refine F.split 166 rfl ?_ ?_ <;> (clear F; intro h166 F)
            ·
              replace h166 := notT h166
              refine sCall Tryd.call12 F rfl rfl rfl (awake_any _ (hN.own H)) ?_
              rintro e w ⟨rfl, hb⟩
              replace H := H.grow hb; clear hb
              refine ⟨_, rfl, ?_⟩
              clear F a; intro a F
              refine sPk F rfl rfl rfl rfl ?_
              clear F a; intro a F
              refine sAs F rfl rfl rfl ?_
              clear F a; intro a F
              refine sNil ?_
              refine hK20 _ _ ?_; clear hK20
              refine wp_ret ?_
              refine bRet Tryd.results8 F rfl ?_
              refine ⟨retB ?_, H.below⟩
              clear F H
              first
                | rfl
                | (exfalso; first | exact h56 hme | exact h41 eE | exact hv h46 | exact h51 rfl | exact h66 (by omega) | (rw [hro] at h72; cases h72; done) | (rw [hro] at h78; cases h78; done) | exact h151 (by omega) | exact h155 hme | (rw [hms] at h160; cases h160; done) | (rw [hz] at h144; cases h144; done) | (rw [hz] at h166; cases h166; done))
            ·
              replace h166 := notF h166
              refine sSk F rfl rfl ?_
              clear F a; intro a F
              refine sPk F rfl rfl rfl rfl ?_
              clear F a; intro a F
              refine sAs F rfl rfl rfl ?_
              clear F a; intro a F
              refine sNil ?_
              refine hK20 _ _ ?_; clear hK20
              refine wp_ret ?_
              refine bRet Tryd.results8 F rfl ?_
              refine ⟨retB ?_, H.below⟩
              clear F H
              first
                | rfl
                | (exfalso; first | exact h56 hme | exact h41 eE | exact hv h46 | exact h51 rfl | exact h66 (by omega) | (rw [hro] at h72; cases h72; done) | (rw [hro] at h78; cases h78; done) | exact h151 (by omega) | exact h155 hme | (rw [hms] at h160; cases h160; done) | (rw [hz] at h144; cases h144; done) | (rw [hz] at h166; cases h166; done))
          ·
            refine sSk F rfl rfl ?_
            clear F a; intro a F
            refine sSk F rfl rfl ?_
            clear F a; intro a F
            refine sSk F rfl rfl ?_
            clear F a; intro a F
            refine sSk F rfl rfl ?_
            clear F a; intro a F
            refine sPk F rfl rfl rfl rfl ?_
            clear F a; intro a F
            refine sMv F rfl rfl rfl ?_
            clear F a; intro a F
            refine sSk F rfl rfl ?_
            clear F a; intro a F
            refine sPk F rfl rfl rfl rfl ?_
            clear F a; intro a F
            refine sAs F rfl rfl rfl ?_
            clear F a; intro a F
            refine sNil ?_
            refine hK20 _ _ ?_; clear hK20
            refine wp_ret ?_
            refine bRet Tryd.results8 F rfl ?_
            refine ⟨retB ?_, H.below⟩
            clear F H
            first
              | rfl
              | (exfalso; first | exact h56 hme | exact h41 eE | exact hv h46 | exact h51 rfl | exact h66 (by omega) | (rw [hro] at h72; cases h72; done) | (rw [hro] at h78; cases h78; done) | exact h151 (by omega) | exact h155 hme | (rw [hms] at h160; cases h160; done) | (rw [hz] at h144; cases h144; done) | (rw [hz] at h166; cases h166; done))
        ·
          replace h155 := beqF h155
          refine sSk F rfl rfl ?_
          clear F a; intro a F
          refine sSk F rfl rfl ?_
          clear F a; intro a F
          refine sSk F rfl rfl ?_
          clear F a; intro a F
          refine sPk F rfl rfl rfl rfl ?_
          clear F a; intro a F
          refine sMv F rfl rfl rfl ?_
          clear F a; intro a F
          refine sSk F rfl rfl ?_
          clear F a; intro a F
          refine sSk F rfl rfl ?_
          clear F a; intro a F
          refine sSk F rfl rfl ?_
          clear F a; intro a F
          refine sSk F rfl rfl ?_
          clear F a; intro a F
          refine sPk F rfl rfl rfl rfl ?_
          clear F a; intro a F
          refine sMv F rfl rfl rfl ?_
          clear F a; intro a F
          refine sSk F rfl rfl ?_
          clear F a; intro a F
          refine sPk F rfl rfl rfl rfl ?_
          clear F a; intro a F
          refine sAs F rfl rfl rfl ?_
          clear F a; intro a F
          refine sNil ?_
          refine hK20 _ _ ?_; clear hK20
          refine wp_ret ?_
          refine bRet Tryd.results8 F rfl ?_
          refine ⟨retB ?_, H.below⟩
          clear F H
          first
            | rfl
            | (exfalso; first | exact h56 hme | exact h41 eE | exact hv h46 | exact h51 rfl | exact h66 (by omega) | (rw [hro] at h72; cases h72; done) | (rw [hro] at h78; cases h78; done) | exact h151 (by omega) | exact h155 hme | (rw [hms] at h160; cases h160; done) | (rw [hz] at h144; cases h144; done) | (rw [hz] at h166; cases h166; done))
      ·
        replace h151 := beqF h151
        refine sSk F rfl rfl ?_
        clear F a; intro a F
        refine sSk F rfl rfl ?_
        clear F a; intro a F
        refine sPk F rfl rfl rfl rfl ?_
        clear F a; intro a F
        refine sMv F rfl rfl rfl ?_
        clear F a; intro a F
        refine sSk F rfl rfl ?_
        clear F a; intro a F
        refine sSk F rfl rfl ?_
        clear F a; intro a F
        refine sSk F rfl rfl ?_
        clear F a; intro a F
        refine sPk F rfl rfl rfl rfl ?_
        clear F a; intro a F
        refine sMv F rfl rfl rfl ?_
        clear F a; intro a F
        refine sSk F rfl rfl ?_
        clear F a; intro a F
        refine sSk F rfl rfl ?_
        clear F a; intro a F
        refine sSk F rfl rfl ?_
        clear F a; intro a F
        refine sSk F rfl rfl ?_
        clear F a; intro a F
        refine sPk F rfl rfl rfl rfl ?_
        clear F a; intro a F
        refine sMv F rfl rfl rfl ?_
        clear F a; intro a F
        refine sSk F rfl rfl ?_
        clear F a; intro a F
        refine sPk F rfl rfl rfl rfl ?_
        clear F a; intro a F
        refine sAs F rfl rfl rfl ?_
        clear F a; intro a F
        refine sNil ?_
        refine hK20 _ _ ?_; clear hK20
        refine wp_ret ?_
        refine bRet Tryd.results8 F rfl ?_
        refine ⟨retB ?_, H.below⟩
        clear F H
        first
          | rfl
          | (exfalso; first | exact h56 hme | exact h41 eE | exact hv h46 | exact h51 rfl | exact h66 (by omega) | (rw [hro] at h72; cases h72; done) | (rw [hro] at h78; cases h78; done) | exact h151 (by omega) | exact h155 hme | (rw [hms] at h160; cases h160; done) | (rw [hz] at h144; cases h144; done) | (rw [hz] at h166; cases h166; done))
    ·
      replace h144 := notF h144
      refine sSk F rfl rfl ?_
      clear F a; intro a F
      refine sSk F rfl rfl ?_
      clear F a; intro a F
      refine sSk F rfl rfl ?_
      clear F a; intro a F
      refine sSk F rfl rfl ?_
      clear F a; intro a F
      refine sSk F rfl rfl ?_
      clear F a; intro a F
      refine sPk F rfl rfl rfl rfl ?_
      clear F a; intro a F
      refine sMv F rfl rfl rfl ?_
      clear F a; intro a F
      refine sSk F rfl rfl ?_
      clear F a; intro a F
      refine sSk F rfl rfl ?_
      clear F a; intro a F
      refine sPk F rfl rfl rfl rfl ?_
      clear F a; intro a F
      refine sMv F rfl rfl rfl ?_
      clear F a; intro a F
      refine sSk F rfl rfl ?_
      clear F a; intro a F
      refine sSk F rfl rfl ?_
      clear F a; intro a F
      refine sSk F rfl rfl ?_
      clear F a; intro a F
      refine sPk F rfl rfl rfl rfl ?_
      clear F a; intro a F
      refine sMv F rfl rfl rfl ?_
      clear F a; intro a F
      refine sSk F rfl rfl ?_
      clear F a; intro a F
      refine sSk F rfl rfl ?_
      clear F a; intro a F
      refine sSk F rfl rfl ?_
      clear F a; intro a F
      refine sSk F rfl rfl ?_
      clear F a; intro a F
      refine sPk F rfl rfl rfl rfl ?_
      clear F a; intro a F
      refine sMv F rfl rfl rfl ?_
      clear F a; intro a F
      refine sSk F rfl rfl ?_
      clear F a; intro a F
      refine sPk F rfl rfl rfl rfl ?_
      clear F a; intro a F
      refine sAs F rfl rfl rfl ?_
      clear F a; intro a F
      refine sNil ?_
      refine hK20 _ _ ?_; clear hK20
      refine wp_ret ?_
      refine bRet Tryd.results8 F rfl ?_
      refine ⟨retB ?_, H.below⟩
      clear F H
      first
        | rfl
        | (exfalso; first | exact h56 hme | exact h41 eE | exact hv h46 | exact h51 rfl | exact h66 (by omega) | (rw [hro] at h72; cases h72; done) | (rw [hro] at h78; cases h78; done) | exact h151 (by omega) | exact h155 hme | (rw [hms] at h160; cases h160; done) | (rw [hz] at h144; cases h144; done) | (rw [hz] at h166; cases h166; done))
end Go.Proofs.YtfemniboggnbiaaDoor
