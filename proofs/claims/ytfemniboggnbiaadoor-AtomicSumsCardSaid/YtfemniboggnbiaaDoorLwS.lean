/-
  WALK2. The law AtomicSteps. Conditions: the program and the picks lie in memory; block 0 holds the table of needs.
-/
import Derived.Test.YtfemniboggnbiaaDoorLwK
set_option linter.unusedSimpArgs false
set_option linter.unusedVariables false
namespace Go.Proofs.YtfemniboggnbiaaDoor
open Go.RowKit
set_option maxRecDepth 100000

theorem told_ok (p : Prg) (s : By) (t : Int) : movable p s t = (moveE p s t == 0) := by
  unfold moveE; cases movable p s t <;> rfl
theorem over_ok {p : Prg} {s : By} (h : rightS p s = true) : (rightS p s && (enabledP p s).isEmpty) = (((movesP p s).length : Int) == 0) := by
  rw [movesP, if_pos h, h]
  cases enabledP p s with
  | nil => rfl
  | cons x r => simp; omega
theorem movable_of {p : Prg} {s : By} {t : Int} (h : movable p s t = true) : ∃ k : Nat, t = k ∧ k ∈ movesP p s := by
  unfold movable at h
  obtain ⟨k, h1, h2⟩ := List.any_eq_true.1 h
  exact ⟨k, (by simpa using h2 : (k : Int) = t).symm, h1⟩
theorem loc_lt {p : Prg} (h : rightErr p = 0) {t : Nat} {l : List Ins} {i : Nat} {x : Ins} (hl : p.threads[t]? = some l) (hx : l[i]? = some x) : x.loc.toNat < 6 := by
  have hv := valid h
  have hi := inses_at (hv.ins t l hl) hx
  have h1 : (x == x.needed) = true := ins_cond hi 1 (by omega)
  have h1 := eq_of_beq h1
  have h3 : (!hasB x.op 2 || decide ((x.loc.toNat : Int) < (p.locs.length : Int))) = true := ins_cond hi 3 (by omega)
  cases hb : hasB x.op 2 with
  | true =>
    rw [hb] at h3
    have : ((x.loc.toNat : Int) < (p.locs.length : Int)) := by simpa using h3
    have := hv.locs6
    omega
  | false =>
    have : x.loc = x.needed.loc := by rw [← h1]
    simp only [Ins.needed, hb, cond_false] at this
    rw [this]; decide
section
variable {p : Prg} {s z : By} {t : Nat} {l : List Ins} {x : Ins}
theorem StepOf.back (h : StepOf p s z t l x) (hloc : x.loc.toNat < 6) : same 142 (put (lay z (t * 9) 9 (cut s (t * 9))) (36 + x.loc.toNat) (s (36 + x.loc.toNat))) s = true := by
  rw [same_iff]
  intro i _
  have h4 := h.t4
  unfold put lay cut
  split
  · rename_i e; rw [e]
  · rename_i e
    split
    · rename_i h1; congr 1; omega
    · rename_i h1; rw [h.at', if_neg h1, if_neg (fun q => e q.2)]
theorem StepOf.localMem (h : StepOf p s z t l x) (hL : isLocal x = true) : same 6 (cut z 36) (cut s 36) = true := by
  rw [same_iff]
  exact fun i _ => h.mem (.inl hL)
end
theorem steps_any (cs : List Value) (p : Prg) (w0 : World) (hP : ProgAt w0 cs p) (hN : NeedsAt w0) (PA : Option Addr) (PC : Nat) (picks : List UInt8) (hB : BytesAt w0 PA picks) (hBn : picks.length ≤ 9223372036854775807) (hBc : picks.length ≤ PC) (t : Int) :
    Calls Tryd.prog 6 #[.agg cs.toArray, .slice PA picks.length PC, .int .i64 t] w0 fun e w' => e = .returned (.bool true) ∧ Below w0.heap.size w0 w' := by
  have H := Own.start w0 none
  have hP0 := hP
  obtain ⟨LA, LC, IA, IC, TA, TC, h, ccs, hp⟩ := hP
  obtain ⟨c1, c2, c3, c4, c5, rfl⟩ := len5 (condAt_len hp.cond)
  have hcs := hp.cs
  subst hcs
  refine enterF Tryd.func6 rfl Tryd.ntmps6 rfl (fun a F => ?_)
  refine cSeq (fun K1 hK1 => ?_)
  refine cReg ?_
  refine sBx H F rfl rfl rfl ?_
  clear F a H; intro b3 a w F H
  refine sAs F rfl rfl rfl ?_
  clear F a; intro a F
  refine sNil ?_
  refine hK1 _ _ ?_; clear hK1
  refine cSeq (fun K2 hK2 => ?_)
  refine cReg ?_
  refine sLr Tryd.underlying29 rfl ?si F rfl rfl rfl (H.whole 0 rfl) ?_
  case si => exact info_size Tryd.sizeOf29
  clear F a; intro a F
  refine sMv F rfl rfl rfl ?_
  clear F a; intro a F
  refine sCall Tryd.call9 F rfl rfl rfl (behind_any _ p _ (hP0.own H) (hN.own H) PA PC picks (RowsAt.own hB H) hBn hBc) ?_
  rintro e w ⟨rfl, hb⟩
  replace H := H.grow hb; clear hb
  refine ⟨_, rfl, ?_⟩
  clear F a; intro a F
  refine sMv F rfl rfl rfl ?_
  clear F a; intro a F
  refine sExt F rfl rfl rfl rfl ?_
  clear F a; intro a F
  refine sExt F rfl rfl rfl rfl ?_
  clear F a; intro a F
  refine sAlB H zB41 F rfl rfl ?_
  clear F a H; intro b7 a w F H
  refine sSrB H 0 Tryd.sizeOf41 F rfl rfl rfl rfl (by omega) ?_
  clear H; intro w H
  rw [lay_all] at H
  refine sAs F rfl rfl rfl ?_
  clear F a; intro a F
  refine sNil ?_
  refine hK2 _ _ ?_; clear hK2
  refine cSeq (fun K3 hK3 => ?_)
  refine cSeq (fun K4 hK4 => ?_)
  refine cReg ?_
  refine sMv F rfl rfl rfl ?_
  clear F a; intro a F
  refine sNot F rfl rfl rfl ?_
  clear F a; intro a F
  refine sNil ?_
  refine hK4 _ _ ?_; clear hK4
  refine cIf F rfl (fun h24 => ?_) (fun h24 => ?_)
  ·
    replace h24 := notT h24
    have hv : rightErr p ≠ 0 := by simpa using h24
    refine cSeq (fun K5 hK5 => ?_)
    refine cReg ?_
    refine sLr Tryd.underlying29 rfl ?si F rfl rfl rfl (H.whole 1 rfl) ?_
    case si => exact info_size Tryd.sizeOf29
    clear F a; intro a F
    refine sCall Tryd.call11 F rfl rfl rfl (right_any' _ p _ (hP0.own H) (hN.own H)) ?_
    rintro e w ⟨rfl, hb⟩
    replace H := H.grow hb; clear hb
    refine ⟨_, rfl, ?_⟩
    clear F a; intro a F
    refine sBin F rfl rfl rfl rfl bNeq ?_
    clear F a; intro a F
    refine sMv F rfl rfl rfl ?_
    clear F a; intro a F
    refine F.split 28 rfl ?_ ?_ <;> (clear F; intro h28 F)
    ·
      replace h28 := bneT h28
      refine sCall Tryd.call12 F rfl rfl rfl (awake_any _ (hN.own H)) ?_
      rintro e w ⟨rfl, hb⟩
      replace H := H.grow hb; clear hb
      refine ⟨_, rfl, ?_⟩
      clear F a; intro a F
      refine sPk F rfl rfl rfl rfl ?_
      clear F a; intro a F
      refine sAs F rfl rfl rfl ?_
      clear F a; intro a F
      refine sNil ?_
      refine hK5 _ _ ?_; clear hK5
      refine wp_ret ?_
      simp only [Exit.then]
      refine bRet Tryd.results6 F rfl ?_
      exact ⟨retB rfl, H.below⟩
    ·
      replace h28 := bneF h28
      exact absurd h28 hv
  ·
    replace h24 := notF h24
    have hv : rightErr p = 0 := by simpa using h24
    have hr : rightS p (behS p picks) = true := by rw [behS, if_pos hv]; exact behF_right _ _ (start_right hv)
    generalize behS p picks = s at H F hr
    refine wp_skip ?_
    refine hK3 _ _ ?_; clear hK3
    refine cSeq (fun K6 hK6 => ?_)
    refine cReg ?_
    refine sAs F rfl rfl rfl ?_
    clear F a; intro a F
    refine sNil ?_
    refine hK6 _ _ ?_; clear hK6
    refine cSeq (fun K7 hK7 => ?_)
    refine cSeq (fun K8 hK8 => ?_)
    refine cReg ?_
    refine sLr Tryd.underlying29 rfl ?si F rfl rfl rfl (H.whole 1 rfl) ?_
    case si => exact info_size Tryd.sizeOf29
    clear F a; intro a F
    refine sLrB Tryd.underlying41 rfl Tryd.sizeOf41 F rfl rfl rfl (H.whole 0 rfl) ?_
    clear F a; intro a F
    refine sCall Tryd.call10 F rfl rfl rfl (moves_any _ p _ (hP0.own H) (hN.own H) s) ?_
    rintro e w ⟨A, c, rfl, H2⟩
    replace H := H.join H2; clear H2
    refine ⟨_, rfl, ?_⟩
    clear F a; intro a F
    refine sLen Tryd.underlying44 F rfl rfl rfl ?_
    clear F a; intro a F
    refine sMv F rfl rfl rfl ?_
    clear F a; intro a F
    refine sNil ?_
    refine hK8 _ _ ?_; clear hK8
    refine wp_block ?_
    refine cLoopR [2, 3, 7, 33, 34] (fun m ups w => ∃ (j : Nat) (b : Bool), m = (movesP p s).length - j ∧ ups = [(9, .bool b), (35, .int .i64 (j : Int))] ∧ j ≤ (movesP p s).length ∧ b = ((movesP p s).take j).any (fun k => (k : Int) == t) ∧ Own w0 none w [.rws 3 1 (.slice A (movesP p s).length c) (intRows (movesP p s)), .blk b7 (bs 142 s) 41, .blk b3 ([.string p.name, .slice LA p.locs.length LC, .slice IA p.init.length IC, .slice TA p.threads.length TC, b8 p.ask] ++ [c1, c2, c3, c4, c5]) 29]) F ((movesP p s).length) [(9, .bool false), (35, .int .i64 ((0 : Nat) : Int))] (by repeat (first | exact SubR.nil | (apply SubR.cons; · rfl))) ?_ ?_ ?_
    · exact ⟨0, false, rfl, rfl, by omega, rfl, H⟩
    · repeat (first | exact trivial | refine Le.cons rfl ?_)
    clear F
    clear H
    intro m ups a w hI F
    obtain ⟨j, b, rfl, rfl, hj, hb, H⟩ := hI
    have hbn := (H.rwsLen 0 rfl).2
    simp only [maxLen] at hbn
    refine cSeq (fun K9 hK9 => ?_)
    refine cReg ?_
    refine sBin F rfl rfl rfl rfl bLss ?_
    clear F a; intro a F
    refine sNil ?_
    refine hK9 _ _ ?_; clear hK9
    refine cSeq (fun K10 hK10 => ?_)
    refine cIf F rfl (fun h36 => ?_) (fun h36 => ?_)
    ·
      replace h36 := of_decide_eq_true h36
      obtain ⟨k, hk⟩ : ∃ k, (movesP p s)[j]? = some k := ⟨_, List.getElem?_eq_getElem (by omega)⟩
      obtain ⟨bL, oL, rfl, hL⟩ := H.intAt 0 rfl hk
      refine wp_skip ?_
      refine hK10 _ _ ?_; clear hK10
      refine cSeq (fun K11 hK11 => ?_)
      refine wp_block ?_
      refine cSeq (fun K12 hK12 => ?_)
      refine cReg ?_
      refine sIx Tryd.underlying44 Tryd.sizeOf3 F rfl rfl rfl rfl ?_ ?_
      focus (first | omega | decide | (simp; omega))
      clear F a; intro a F
      refine sLd Tryd.isAgg3 F rfl rfl rfl hL ?_
      clear F a; intro a F
      refine sAs F rfl rfl rfl ?_
      clear F a; intro a F
      refine sNil ?_
      refine hK12 _ _ ?_; clear hK12
      refine cReg ?_
      refine sMv F rfl rfl rfl ?_
      clear F a; intro a F
      refine sMv F rfl rfl rfl ?_
      clear F a; intro a F
      refine F.split 40 rfl ?_ ?_ <;> (clear F; intro h40 F)
      ·
        refine sSk F rfl rfl ?_
        clear F a; intro a F
        refine sSk F rfl rfl ?_
        clear F a; intro a F
        refine sSk F rfl rfl ?_
        clear F a; intro a F
        refine sPk F rfl rfl rfl rfl ?_
        clear F a; intro a F
        refine sAs F rfl rfl rfl ?_
        clear F a; intro a F
        refine sNil ?_
        refine hK11 _ _ ?_; clear hK11
        refine cReg ?_
        refine sBin F rfl rfl rfl rfl (bAddN (j := 1) ?_) ?_
        focus omega
        clear F a; intro a F
        refine sMv F rfl rfl rfl ?_
        clear F a; intro a F
        refine sNil ?_
        have hs : ∀ q, q = (b || ((k : Int) == t)) → q = ((movesP p s).take (j + 1)).any (fun k => (k : Int) == t) := fun q hq => by
          rw [hq, hb, List.take_add_one, hk, List.any_append]; simp
        first
          | exact ⟨_, by omega, _, ⟨j + 1, true, rfl, rfl, by omega, hs true (by rw [h40]; rfl), H⟩, F.to (by repeat (first | exact trivial | refine Le.cons rfl ?_))⟩
          | exact ⟨_, by omega, _, ⟨j + 1, ((k : Int) == t), rfl, rfl, by omega, hs _ (by rw [h40]; rfl), H⟩, F.to (by repeat (first | exact trivial | refine Le.cons rfl ?_))⟩
      ·
        refine sMv F rfl rfl rfl ?_
        clear F a; intro a F
        refine sMv F rfl rfl rfl ?_
        clear F a; intro a F
        refine sBin F rfl rfl rfl rfl bEql ?_
        clear F a; intro a F
        refine sPk F rfl rfl rfl rfl ?_
        clear F a; intro a F
        refine sAs F rfl rfl rfl ?_
        clear F a; intro a F
        refine sNil ?_
        refine hK11 _ _ ?_; clear hK11
        refine cReg ?_
        refine sBin F rfl rfl rfl rfl (bAddN (j := 1) ?_) ?_
        focus omega
        clear F a; intro a F
        refine sMv F rfl rfl rfl ?_
        clear F a; intro a F
        refine sNil ?_
        have hs : ∀ q, q = (b || ((k : Int) == t)) → q = ((movesP p s).take (j + 1)).any (fun k => (k : Int) == t) := fun q hq => by
          rw [hq, hb, List.take_add_one, hk, List.any_append]; simp
        first
          | exact ⟨_, by omega, _, ⟨j + 1, true, rfl, rfl, by omega, hs true (by rw [h40]; rfl), H⟩, F.to (by repeat (first | exact trivial | refine Le.cons rfl ?_))⟩
          | exact ⟨_, by omega, _, ⟨j + 1, ((k : Int) == t), rfl, rfl, by omega, hs _ (by rw [h40]; rfl), H⟩, F.to (by repeat (first | exact trivial | refine Le.cons rfl ?_))⟩
    ·
      replace h36 := of_decide_eq_false h36
      have hb2 : b = movable p s t := by rw [hb, List.take_of_length_le (by omega)]; rfl
      subst hb2
      refine wp_exit ?_
      refine hK7 _ _ ?_; clear hK7
      refine cSeq (fun K13 hK13 => ?_)
      refine cReg ?_
      refine sLr Tryd.underlying29 rfl ?si F rfl rfl rfl (H.whole 2 rfl) ?_
      case si => exact info_size Tryd.sizeOf29
      clear F a; intro a F
      refine sLrB Tryd.underlying41 rfl Tryd.sizeOf41 F rfl rfl rfl (H.whole 1 rfl) ?_
      clear F a; intro a F
      refine sMv F rfl rfl rfl ?_
      clear F a; intro a F
      refine sCall Tryd.call13 F rfl rfl rfl (move_any _ p _ (hP0.own H) (hN.own H) s t) ?_
      rintro e w ⟨rfl, hb⟩
      replace H := H.grow hb; clear hb
      refine ⟨_, rfl, ?_⟩
      clear F a; intro a F
      refine sMv F rfl rfl rfl ?_
      clear F a; intro a F
      refine sExt F rfl rfl rfl rfl ?_
      clear F a; intro a F
      refine sExt F rfl rfl rfl rfl ?_
      clear F a; intro a F
      refine sAlB H zB41 F rfl rfl ?_
      clear F a H; intro b12 a w F H
      refine sSrB H 0 Tryd.sizeOf41 F rfl rfl rfl rfl (by omega) ?_
      clear H; intro w H
      rw [lay_all] at H
      refine sAs F rfl rfl rfl ?_
      clear F a; intro a F
      refine sNil ?_
      refine hK13 _ _ ?_; clear hK13
      refine cSeqJ [2, 3, 7, 9, 12] (fun ups w => ups = [] ∧ Own w0 none w [.blk b12 (bs 142 (moveS p s t)) 41, .rws 3 1 (.slice A (movesP p s).length c) (intRows (movesP p s)), .blk b7 (bs 142 s) 41, .blk b3 ([.string p.name, .slice LA p.locs.length LC, .slice IA p.init.length IC, .slice TA p.threads.length TC, b8 p.ask] ++ [c1, c2, c3, c4, c5]) 29]) F (by repeat (first | exact SubR.nil | (apply SubR.cons; · rfl))) ?_ ?_
      ·
        refine cSeq (fun K14 hK14 => ?_)
        refine cReg ?_
        refine sLr Tryd.underlying29 rfl ?si F rfl rfl rfl (H.whole 3 rfl) ?_
        case si => exact info_size Tryd.sizeOf29
        clear F a; intro a F
        refine sLrB Tryd.underlying41 rfl Tryd.sizeOf41 F rfl rfl rfl (H.whole 2 rfl) ?_
        clear F a; intro a F
        refine sCall Tryd.call25 F rfl rfl rfl (rightA_any _ p _ (hP0.own H) (hN.own H) s) ?_
        rintro e w ⟨rfl, hb⟩
        replace H := H.grow hb; clear hb
        refine ⟨_, rfl, ?_⟩
        clear F a; intro a F
        refine sNot F rfl rfl rfl ?_
        clear F a; intro a F
        refine sMv F rfl rfl rfl ?_
        clear F a; intro a F
        refine F.split 57 rfl ?_ ?_ <;> (clear F; intro h57 F)
        ·
          replace h57 := notT h57
          exact notEq hr h57
        ·
          replace h57 := notF h57
          refine sMv F rfl rfl rfl ?_
          clear F a; intro a F
          refine sMv F rfl rfl rfl ?_
          clear F a; intro a F
          refine sBin F rfl rfl rfl rfl bEql ?_
          clear F a; intro a F
          refine sBin F rfl rfl rfl rfl (bBoolNe Tryd.underlying4) ?_
          clear F a; intro a F
          refine sPk F rfl rfl rfl rfl ?_
          clear F a; intro a F
          refine sMv F rfl rfl rfl ?_
          clear F a; intro a F
          refine F.split 63 rfl ?_ ?_ <;> (clear F; intro h63 F)
          ·
            replace h63 := nbeqT h63
            exact absurd (told_ok p s t) h63
          ·
            replace h63 := nbeqF h63
            refine sMv F rfl rfl rfl ?_
            clear F a; intro a F
            refine sNot F rfl rfl rfl ?_
            clear F a; intro a F
            refine sMv F rfl rfl rfl ?_
            clear F a; intro a F
            refine F.split 66 rfl ?_ ?_ <;> (clear F; intro h66 F)
            ·
              replace h66 := notT h66
              refine sMv F rfl rfl rfl ?_
              clear F a; intro a F
              refine sBin F rfl rfl rfl rfl bNeq ?_
              clear F a; intro a F
              refine sMv F rfl rfl rfl ?_
              clear F a; intro a F
              refine F.split 69 rfl ?_ ?_ <;> (clear F; intro h69 F)
              ·
                replace h69 := bneT h69
                exact absurd (by rw [moveE, h66]; rfl) h69
              ·
                replace h69 := bneF h69
                refine sLrB Tryd.underlying41 rfl Tryd.sizeOf41 F rfl rfl rfl (H.whole 0 rfl) ?_
                clear F a; intro a F
                refine sBdB (places := [(0, 36), (36, 6), (42, 96), (138, 4)]) zB41 Tryd.underlying41 (by kernel_rfl) F rfl rfl rfl FillB.nil ?_
                clear F a; intro a F
                refine sBin F rfl rfl rfl rfl (bNeY eT41 gT41 rfl) ?_
                clear F a; intro a F
                refine sPk F rfl rfl rfl rfl ?_
                clear F a; intro a F
                refine sPk F rfl rfl rfl rfl ?_
                clear F a; intro a F
                refine sPk F rfl rfl rfl rfl ?_
                clear F a; intro a F
                refine sNil ?_
                refine hK14 _ _ ?_; clear hK14
                refine cIf F rfl (fun h75 => ?_) (fun h75 => ?_)
                ·
                  replace h75 := notT h75
                  (rw [moveS, h66] at h75; exact notEq (same_iff.2 fun _ _ => rfl) h75)
                ·
                  replace h75 := notF h75
                  refine wp_skip ?_
                  exact ⟨[], ⟨rfl, H⟩, F.to (by repeat (first | exact trivial | refine Le.cons rfl ?_))⟩
            ·
              replace h66 := notF h66
              refine sSk F rfl rfl ?_
              clear F a; intro a F
              refine sSk F rfl rfl ?_
              clear F a; intro a F
              refine sSk F rfl rfl ?_
              clear F a; intro a F
              refine sSk F rfl rfl ?_
              clear F a; intro a F
              refine sSk F rfl rfl ?_
              clear F a; intro a F
              refine sSk F rfl rfl ?_
              clear F a; intro a F
              refine sSk F rfl rfl ?_
              clear F a; intro a F
              refine sPk F rfl rfl rfl rfl ?_
              clear F a; intro a F
              refine sPk F rfl rfl rfl rfl ?_
              clear F a; intro a F
              refine sNil ?_
              refine hK14 _ _ ?_; clear hK14
              refine cIfF F rfl ?_
              refine wp_skip ?_
              exact ⟨[], ⟨rfl, H⟩, F.to (by repeat (first | exact trivial | refine Le.cons rfl ?_))⟩
      clear F H
      intro ups a w hI F
      obtain ⟨rfl, H⟩ := hI
      refine cSeq (fun K15 hK15 => ?_)
      refine cSeq (fun K16 hK16 => ?_)
      refine cReg ?_
      refine sMv F rfl rfl rfl ?_
      clear F a; intro a F
      refine sNot F rfl rfl rfl ?_
      clear F a; intro a F
      refine sNil ?_
      refine hK16 _ _ ?_; clear hK16
      refine cIf F rfl (fun h77 => ?_) (fun h77 => ?_)
      ·
        replace h77 := notT h77
        refine cSeq (fun K17 hK17 => ?_)
        refine cRegRO (by kernel_rfl) H ?_
        replace H := H.drew
        refine eTake (k := 0) (i := 0) rfl (by kernel_rfl) F rfl rfl rfl rfl (fun w H => rLr Tryd.underlying29 rfl ?si F rfl (H.whole 3 rfl)) (H.sel [0, 1, 2, 3] rfl rfl) (fun _ _ _ h => h) ?_
        case si => exact info_size Tryd.sizeOf29
        clear F a; intro a F
        refine eTake (k := 1) (i := 1) rfl (by kernel_rfl) F rfl rfl rfl rfl (fun w H => rLrB Tryd.underlying41 rfl Tryd.sizeOf41 F rfl (H.whole 2 rfl)) (H.sel [0, 1, 2, 3] rfl rfl) (fun _ _ _ h => h) ?_
        clear F a; intro a F
        refine eTake (k := 2) (i := 3) rfl (by kernel_rfl) F rfl rfl rfl rfl (fun w H => rLr Tryd.underlying29 rfl ?si F rfl (H.whole 3 rfl)) (H.sel [0, 1, 2, 3] rfl rfl) (fun _ _ _ h => h) ?_
        case si => exact info_size Tryd.sizeOf29
        clear F a; intro a F
        refine eTake (k := 3) (i := 4) rfl (by kernel_rfl) F rfl rfl rfl rfl (fun w H => rLrB Tryd.underlying41 rfl Tryd.sizeOf41 F rfl (H.whole 2 rfl)) (H.sel [0, 1, 2, 3] rfl rfl) (fun _ _ _ h => h) ?_
        clear F a; intro a F
        refine eOne (k := 4) (i := 2) rfl (by kernel_rfl) F rfl (oCall Tryd.call28 F rfl rfl (overA_any _ p _ (hP0.own H) (hN.own H) s) ?_)
        rintro e w ⟨rfl, hb⟩
        replace H := H.grow hb; clear hb
        refine ⟨_, rfl, ?_⟩
        clear F a; intro a F
        refine eKeep (H.sel [0, 1, 2, 3] rfl rfl) ?_
        refine eOne (k := 5) (i := 5) rfl (by kernel_rfl) F rfl (oCall Tryd.call10 F rfl rfl (moves_any _ p _ (hP0.own H) (hN.own H) s) ?_)
        rintro e w ⟨A3, c3, rfl, H2⟩
        replace H := H.join H2; clear H2
        refine ⟨_, rfl, ?_⟩
        clear F a; intro a F
        refine ePartO (by kernel_rfl) H ?_
        refine eTake (k := 6) (i := 6) rfl (by kernel_rfl) F rfl rfl rfl rfl (fun w H => rLen Tryd.underlying44 F rfl) (H.sel [0, 1, 2, 3, 4] rfl rfl) (fun _ _ _ h => h) ?_
        clear F a; intro a F
        refine eTakeF (k := 7) (i := 7) rfl (by kernel_rfl) F rfl rfl rfl (fun w => rBin F rfl rfl bEql) (H.sel [0, 1, 2, 3, 4] rfl rfl) (fun _ _ _ h => h) ?_
        clear F a; intro a F
        refine eTakeF (k := 8) (i := 8) rfl (by kernel_rfl) F rfl rfl rfl (fun w => rBin F rfl rfl (bBoolEq Tryd.underlying4)) (H.sel [0, 1, 2, 3, 4] rfl rfl) (fun _ _ _ h => h) ?_
        clear F a; intro a F
        refine eTakeF (k := 9) (i := 9) rfl (by kernel_rfl) F rfl rfl rfl (fun w => rMv F rfl) (H.sel [0, 1, 2, 3, 4] rfl rfl) (fun _ _ _ h => h) ?_
        clear F a; intro a F
        refine F.split 87 rfl ?_ ?_ <;> (clear F; intro h87 F)
        ·
          replace h87 := beqT h87
          refine eOne (k := 10) (i := 10) rfl (by kernel_rfl) F rfl (oCall Tryd.call12 F rfl rfl (awake_any _ (hN.own H)) ?_)
          rintro e w ⟨rfl, hb⟩
          replace H := H.grow hb; clear hb
          refine ⟨_, rfl, ?_⟩
          clear F a; intro a F
          refine ePartO (by kernel_rfl) H ?_
          refine eTakeF (k := 11) (i := 11) rfl (by kernel_rfl) F rfl rfl rfl (fun w => rPk F rfl rfl) (H.sel [0, 1, 2, 3, 4] rfl rfl) (fun _ _ _ h => h) ?_
          clear F a; intro a F
          refine eTakeF (k := 12) (i := 12) rfl (by kernel_rfl) F rfl rfl rfl (fun w => rAs F rfl) (H.sel [0, 1, 2, 3, 4] rfl rfl) (fun _ _ _ h => h) ?_
          clear F a; intro a F
          refine eNil (k := 13) (by kernel_rfl) ?_
          refine hK17 _ _ ?_; clear hK17
          refine wp_ret ?_
          simp only [Exit.then]
          refine bRet Tryd.results6 F rfl ?_
          exact ⟨retB rfl, H.below⟩
        ·
          replace h87 := beqF h87
          exact absurd (over_ok hr) h87
      ·
        replace h77 := notF h77
        have hmv : movable p s t = true := h77
        obtain ⟨k, rfl, hkm⟩ := movable_of hmv
        obtain ⟨l, x, hst⟩ := stepOf hv (mem_moves hkm).2
        have hloc := loc_lt hv hst.hl hst.hx
        have hk4 := hst.t4
        have eM : moveS p s (k : Int) = stepP p s k := by rw [moveS, hmv, if_pos rfl, Int.toNat_natCast]
        rw [eM] at H
        obtain ⟨bT, oT, BT, CT, rfl, hT1, hT2, hT3⟩ := hp.threads k l hst.hl
        have hpcl : (s (k * 9)).toNat < l.length := hst.lt
        obtain ⟨bI, oI, rfl, hI⟩ := hT2 (s (k * 9)).toNat x.cells (by rw [List.getElem?_map, show l[(s (k * 9)).toNat]? = some x from hst.hx]; rfl)
        have hkl : k < p.threads.length := (List.getElem?_eq_some_iff.1 hst.hl).1
        refine wp_skip ?_
        refine hK15 _ _ ?_; clear hK15
        refine cSeq (fun K18 hK18 => ?_)
        refine cRegRO (by kernel_rfl) H ?_
        replace H := H.drew
        refine eTakeF (k := 0) (i := 0) rfl (by kernel_rfl) F rfl rfl rfl (fun w => rFa (f := 3) (k := 3) Tryd.underlying29 rfl Tryd.sizeOf24 rfl rfl F rfl) (H.sel [0, 1, 2, 3] rfl rfl) (fun _ _ _ h => h) ?_
        clear F a; intro a F
        refine eTake (k := 1) (i := 1) rfl (by kernel_rfl) F rfl rfl rfl rfl (fun w H => rLd Tryd.isAgg24 F rfl (H.cell 3 rfl rfl)) (H.sel [0, 1, 2, 3] rfl rfl) (fun _ _ _ h => h) ?_
        clear F a; intro a F
        refine eTakeF (k := 2) (i := 2) rfl (by kernel_rfl) F rfl rfl rfl (fun w => rMv F rfl) (H.sel [0, 1, 2, 3] rfl rfl) (fun _ _ _ h => h) ?_
        clear F a; intro a F
        refine eTakeF (k := 3) (i := 3) rfl (by kernel_rfl) F rfl rfl rfl (fun w => rIx Tryd.underlying24 Tryd.sizeOf53 F rfl rfl ?_) (H.sel [0, 1, 2, 3] rfl rfl) (fun _ _ _ h => h) ?_
        focus (first | omega | decide | (simp; omega))
        clear F a; intro a F
        refine eTake (k := 4) (i := 4) rfl (by kernel_rfl) F rfl rfl rfl rfl (fun w H => rLd Tryd.isAgg53 F rfl (H.arg hT1)) (H.sel [0, 1, 2, 3] rfl rfl) (fun _ _ _ h => h) ?_
        clear F a; intro a F
        refine eTakeF (k := 5) (i := 5) rfl (by kernel_rfl) F rfl rfl rfl (fun w => rMv F rfl) (H.sel [0, 1, 2, 3] rfl rfl) (fun _ _ _ h => h) ?_
        clear F a; intro a F
        refine eTakeF (k := 6) (i := 6) rfl (by kernel_rfl) F rfl rfl rfl (fun w => rFa (f := 0) (k := 0) Tryd.underlying41 rfl Tryd.sizeOf33 rfl rfl F rfl) (H.sel [0, 1, 2, 3] rfl rfl) (fun _ _ _ h => h) ?_
        clear F a; intro a F
        refine eTakeF (k := 7) (i := 7) rfl (by kernel_rfl) F rfl rfl rfl (fun w => rIaZ Tryd.underlying33 Tryd.sizeOf32 F rfl rfl ?_) (H.sel [0, 1, 2, 3] rfl rfl) (fun _ _ _ h => h) ?_
        focus (first | omega | decide | (simp; omega))
        clear F a; intro a F
        refine eTakeF (k := 8) (i := 8) rfl (by kernel_rfl) F rfl rfl rfl (fun w => rFaZ (f := 0) Tryd.underlying32 rfl Tryd.sizeOf5 rfl rfl F rfl) (H.sel [0, 1, 2, 3] rfl rfl) (fun _ _ _ h => h) ?_
        clear F a; intro a F
        refine eTake (k := 9) (i := 9) rfl (by kernel_rfl) F rfl rfl rfl rfl (fun w H => rLd Tryd.isAgg5 F rfl (H.cellB 2 rfl (by omega))) (H.sel [0, 1, 2, 3] rfl rfl) (fun _ _ _ h => h) ?_
        clear F a; intro a F
        refine eTakeF (k := 10) (i := 10) rfl (by kernel_rfl) F rfl rfl rfl (fun w => rIx Tryd.underlying53 Tryd.sizeOf52 F rfl rfl ?_) (H.sel [0, 1, 2, 3] rfl rfl) (fun _ _ _ h => h) ?_
        focus exact hpcl
        clear F a; intro a F
        refine eTake (k := 11) (i := 11) rfl (by kernel_rfl) F rfl rfl rfl rfl (fun w H => rLr Tryd.underlying52 rfl ?si F rfl (H.argR hI)) (H.sel [0, 1, 2, 3] rfl rfl) (fun _ _ _ h => h) ?_
        case si => exact info_size Tryd.sizeOf52
        clear F a; intro a F
        refine eOne (k := 12) (i := 12) rfl (by kernel_rfl) F rfl (oAl H Tryd.zeroValue52 F rfl ?_)
        clear F a H; intro b14 a w F H
        refine eKeep (H.sel [1, 2, 3, 4] rfl rfl) ?_
        refine eOne (k := 13) (i := 13) rfl (by kernel_rfl) F rfl (oSr H 0 ?si F rfl rfl ?s1 rfl rfl ?_)
        case si => exact info_size Tryd.sizeOf52
        case s1 => first | rfl | (repeat (first | exact one_nil | (apply one_cons; · first | rfl | assumption | exact one_bif rfl rfl)))
        clear H; intro w H
        refine ePartO (by kernel_rfl) H ?_
        refine eNil (k := 14) (by kernel_rfl) ?_
        refine hK18 _ _ ?_; clear hK18
        refine cSeq (fun K19 hK19 => ?_)
        refine cReg ?_
        refine sLrB Tryd.underlying41 rfl Tryd.sizeOf41 F rfl rfl rfl (H.whole 1 rfl) ?_
        clear F a; intro a F
        refine sAlB H zB41 F rfl rfl ?_
        clear F a H; intro b15 a w F H
        refine sSrB H 0 Tryd.sizeOf41 F rfl rfl rfl rfl (by omega) ?_
        clear H; intro w H
        rw [lay_all] at H
        refine sNil ?_
        refine hK19 _ _ ?_; clear hK19
        refine cSeq (fun K20 hK20 => ?_)
        refine cReg ?_
        refine sMv F rfl rfl rfl ?_
        clear F a; intro a F
        refine sMv F rfl rfl rfl ?_
        clear F a; intro a F
        refine sFa (f := 0) (k := 0) Tryd.underlying41 rfl Tryd.sizeOf33 rfl rfl F rfl rfl rfl ?_
        clear F a; intro a F
        refine sIaZ Tryd.underlying33 Tryd.sizeOf32 F rfl rfl rfl rfl ?_ ?_
        focus (first | omega | decide | (simp; omega))
        clear F a; intro a F
        refine sLrB Tryd.underlying32 rfl Tryd.sizeOf32 F rfl rfl rfl (H.rangeB 4 _ 9 rfl (by omega)) ?_
        clear F a; intro a F
        refine sFa (f := 0) (k := 0) Tryd.underlying41 rfl Tryd.sizeOf33 rfl rfl F rfl rfl rfl ?_
        clear F a; intro a F
        refine sIaZ Tryd.underlying33 Tryd.sizeOf32 F rfl rfl rfl rfl ?_ ?_
        focus (first | omega | decide | (simp; omega))
        clear F a; intro a F
        refine sSrB H 0 Tryd.sizeOf32 F rfl rfl rfl rfl (by omega) ?_
        clear H; intro w H
        refine sNil ?_
        refine hK20 _ _ ?_; clear hK20
        refine cSeq (fun K21 hK21 => ?_)
        refine cRegRO (by kernel_rfl) H ?_
        replace H := H.drew
        refine eTakeF (k := 0) (i := 0) rfl (by kernel_rfl) F rfl rfl rfl (fun w => rFa (f := 2) (k := 2) Tryd.underlying52 rfl Tryd.sizeOf5 rfl rfl F rfl) (H.sel [0, 1, 2, 3, 4, 5] rfl rfl) (fun _ _ _ h => h) ?_
        clear F a; intro a F
        refine eTake (k := 1) (i := 1) rfl (by kernel_rfl) F rfl rfl rfl rfl (fun w H => rLd Tryd.isAgg5 F rfl (H.cell 1 rfl rfl)) (H.sel [0, 1, 2, 3, 4, 5] rfl rfl) (fun _ _ _ h => h) ?_
        clear F a; intro a F
        refine eTakeF (k := 2) (i := 2) rfl (by kernel_rfl) F rfl rfl rfl (fun w => rFa (f := 2) (k := 2) Tryd.underlying52 rfl Tryd.sizeOf5 rfl rfl F rfl) (H.sel [0, 1, 2, 3, 4, 5] rfl rfl) (fun _ _ _ h => h) ?_
        clear F a; intro a F
        refine eTake (k := 3) (i := 3) rfl (by kernel_rfl) F rfl rfl rfl rfl (fun w H => rLd Tryd.isAgg5 F rfl (H.cell 1 rfl rfl)) (H.sel [0, 1, 2, 3, 4, 5] rfl rfl) (fun _ _ _ h => h) ?_
        clear F a; intro a F
        refine eTakeF (k := 4) (i := 4) rfl (by kernel_rfl) F rfl rfl rfl (fun w => rFa (f := 1) (k := 36) Tryd.underlying41 rfl Tryd.sizeOf34 rfl rfl F rfl) (H.sel [0, 1, 2, 3, 4, 5] rfl rfl) (fun _ _ _ h => h) ?_
        clear F a; intro a F
        refine eTakeF (k := 5) (i := 5) rfl (by kernel_rfl) F rfl rfl rfl (fun w => rIa1 Tryd.underlying34 Tryd.sizeOf5 F rfl rfl ?_) (H.sel [0, 1, 2, 3, 4, 5] rfl rfl) (fun _ _ _ h => h) ?_
        focus (first | omega | decide | (simp; omega))
        clear F a; intro a F
        refine eTake (k := 6) (i := 6) rfl (by kernel_rfl) F rfl rfl rfl rfl (fun w H => rLd Tryd.isAgg5 F rfl (H.cellB 4 rfl (by omega))) (H.sel [0, 1, 2, 3, 4, 5] rfl rfl) (fun _ _ _ h => h) ?_
        clear F a; intro a F
        refine eTakeF (k := 7) (i := 7) rfl (by kernel_rfl) F rfl rfl rfl (fun w => rFa (f := 1) (k := 36) Tryd.underlying41 rfl Tryd.sizeOf34 rfl rfl F rfl) (H.sel [0, 1, 2, 3, 4, 5] rfl rfl) (fun _ _ _ h => h) ?_
        clear F a; intro a F
        refine eTakeF (k := 8) (i := 8) rfl (by kernel_rfl) F rfl rfl rfl (fun w => rIa1 Tryd.underlying34 Tryd.sizeOf5 F rfl rfl ?_) (H.sel [0, 1, 2, 3, 4, 5] rfl rfl) (fun _ _ _ h => h) ?_
        focus (first | omega | decide | (simp; omega))
        clear F a; intro a F
        refine eOne (k := 9) (i := 9) rfl (by kernel_rfl) F rfl (oStB H 0 Tryd.sizeOf5 F rfl rfl rfl (by omega) ?_)
        clear H; intro w H
        refine ePartO (by kernel_rfl) H ?_
        refine eNil (k := 10) (by kernel_rfl) ?_
        refine hK21 _ _ ?_; clear hK21
        refine cSeq (fun K22 hK22 => ?_)
        refine cReg ?_
        refine sFa (f := 0) (k := 0) Tryd.underlying52 rfl Tryd.sizeOf5 rfl rfl F rfl rfl rfl ?_
        clear F a; intro a F
        refine sLd Tryd.isAgg5 F rfl rfl rfl (H.cell 1 rfl rfl) ?_
        clear F a; intro a F
        refine sBin F rfl rfl rfl rfl (bEqlB (y := 3)) ?_
        clear F a; intro a F
        refine sMv F rfl rfl rfl ?_
        clear F a; intro a F
        refine F.split 122 rfl ?_ ?_ <;> (clear F; intro h122 F)
        ·
          replace h122 := beqT h122
          refine sSk F rfl rfl ?_
          clear F a; intro a F
          refine sSk F rfl rfl ?_
          clear F a; intro a F
          refine sSk F rfl rfl ?_
          clear F a; intro a F
          refine sPk F rfl rfl rfl rfl ?_
          clear F a; intro a F
          refine sMv F rfl rfl rfl ?_
          clear F a; intro a F
          refine sSk F rfl rfl ?_
          clear F a; intro a F
          refine sSk F rfl rfl ?_
          clear F a; intro a F
          refine sSk F rfl rfl ?_
          clear F a; intro a F
          refine sPk F rfl rfl rfl rfl ?_
          clear F a; intro a F
          refine sAs F rfl rfl rfl ?_
          clear F a; intro a F
          refine sNil ?_
          refine hK22 _ _ ?_; clear hK22
          refine cSeq (fun K23 hK23 => ?_)
          refine cRegRO (by kernel_rfl) H ?_
          replace H := H.drew
          refine eTake (k := 0) (i := 0) rfl (by kernel_rfl) F rfl rfl rfl rfl (fun w H => rLrB Tryd.underlying41 rfl Tryd.sizeOf41 F rfl (H.whole 0 rfl)) (H.sel [0, 1, 2, 3, 4, 5] rfl rfl) (fun _ _ _ h => h) ?_
          clear F a; intro a F
          refine eTake (k := 1) (i := 1) rfl (by kernel_rfl) F rfl rfl rfl rfl (fun w H => rLrB Tryd.underlying41 rfl Tryd.sizeOf41 F rfl (H.whole 4 rfl)) (H.sel [0, 1, 2, 3, 4, 5] rfl rfl) (fun _ _ _ h => h) ?_
          clear F a; intro a F
          refine eTakeF (k := 2) (i := 2) rfl (by kernel_rfl) F rfl rfl rfl (fun w => rBin F rfl rfl (bEqY eT41 gT41 rfl)) (H.sel [0, 1, 2, 3, 4, 5] rfl rfl) (fun _ _ _ h => h) ?_
          clear F a; intro a F
          refine eTakeF (k := 3) (i := 3) rfl (by kernel_rfl) F rfl rfl rfl (fun w => rMv F rfl) (H.sel [0, 1, 2, 3, 4, 5] rfl rfl) (fun _ _ _ h => h) ?_
          clear F a; intro a F
          refine F.split 135 rfl ?_ ?_ <;> (clear F; intro h135 F)
          ·
            refine eTake (k := 4) (i := 4) rfl (by kernel_rfl) F rfl rfl rfl rfl (fun w H => rLr Tryd.underlying29 rfl ?si F rfl (H.whole 5 rfl)) (H.sel [0, 1, 2, 3, 4, 5] rfl rfl) (fun _ _ _ h => h) ?_
            case si => exact info_size Tryd.sizeOf29
            clear F a; intro a F
            refine eTake (k := 5) (i := 5) rfl (by kernel_rfl) F rfl rfl rfl rfl (fun w H => rLrB Tryd.underlying41 rfl Tryd.sizeOf41 F rfl (H.whole 2 rfl)) (H.sel [0, 1, 2, 3, 4, 5] rfl rfl) (fun _ _ _ h => h) ?_
            clear F a; intro a F
            refine eOne (k := 6) (i := 6) rfl (by kernel_rfl) F rfl (oCall Tryd.call25 F rfl rfl (rightA_any _ p _ (hP0.own H) (hN.own H) (stepP p s k)) ?_)
            rintro e w ⟨rfl, hb⟩
            replace H := H.grow hb; clear hb
            refine ⟨_, rfl, ?_⟩
            clear F a; intro a F
            refine ePartO (by kernel_rfl) H ?_
            refine eTakeF (k := 7) (i := 7) rfl (by kernel_rfl) F rfl rfl rfl (fun w => rPk F rfl rfl) (H.sel [0, 1, 2, 3, 4, 5] rfl rfl) (fun _ _ _ h => h) ?_
            clear F a; intro a F
            refine eTakeF (k := 8) (i := 8) rfl (by kernel_rfl) F rfl rfl rfl (fun w => rMv F rfl) (H.sel [0, 1, 2, 3, 4, 5] rfl rfl) (fun _ _ _ h => h) ?_
            clear F a; intro a F
            refine F.split 140 rfl ?_ ?_ <;> (clear F; intro h140 F)
            ·
              refine eTakeF (k := 9) (i := 9) rfl (by kernel_rfl) F rfl rfl rfl (fun w => rMv F rfl) (H.sel [0, 1, 2, 3, 4, 5] rfl rfl) (fun _ _ _ h => h) ?_
              clear F a; intro a F
              refine eTakeF (k := 10) (i := 10) rfl (by kernel_rfl) F rfl rfl rfl (fun w => rFa (f := 0) (k := 0) Tryd.underlying41 rfl Tryd.sizeOf33 rfl rfl F rfl) (H.sel [0, 1, 2, 3, 4, 5] rfl rfl) (fun _ _ _ h => h) ?_
              clear F a; intro a F
              refine eTakeF (k := 11) (i := 11) rfl (by kernel_rfl) F rfl rfl rfl (fun w => rIaZ Tryd.underlying33 Tryd.sizeOf32 F rfl rfl ?_) (H.sel [0, 1, 2, 3, 4, 5] rfl rfl) (fun _ _ _ h => h) ?_
              focus (first | omega | decide | (simp; omega))
              clear F a; intro a F
              refine eTakeF (k := 12) (i := 12) rfl (by kernel_rfl) F rfl rfl rfl (fun w => rFaZ (f := 0) Tryd.underlying32 rfl Tryd.sizeOf5 rfl rfl F rfl) (H.sel [0, 1, 2, 3, 4, 5] rfl rfl) (fun _ _ _ h => h) ?_
              clear F a; intro a F
              refine eTake (k := 13) (i := 13) rfl (by kernel_rfl) F rfl rfl rfl rfl (fun w H => rLd Tryd.isAgg5 F rfl (H.cellB 2 rfl (by omega))) (H.sel [0, 1, 2, 3, 4, 5] rfl rfl) (fun _ _ _ h => h) ?_
              clear F a; intro a F
              refine eTakeF (k := 14) (i := 14) rfl (by kernel_rfl) F rfl rfl rfl (fun w => rMv F rfl) (H.sel [0, 1, 2, 3, 4, 5] rfl rfl) (fun _ _ _ h => h) ?_
              clear F a; intro a F
              refine eTakeF (k := 15) (i := 15) rfl (by kernel_rfl) F rfl rfl rfl (fun w => rFa (f := 0) (k := 0) Tryd.underlying41 rfl Tryd.sizeOf33 rfl rfl F rfl) (H.sel [0, 1, 2, 3, 4, 5] rfl rfl) (fun _ _ _ h => h) ?_
              clear F a; intro a F
              refine eTakeF (k := 16) (i := 16) rfl (by kernel_rfl) F rfl rfl rfl (fun w => rIaZ Tryd.underlying33 Tryd.sizeOf32 F rfl rfl ?_) (H.sel [0, 1, 2, 3, 4, 5] rfl rfl) (fun _ _ _ h => h) ?_
              focus (first | omega | decide | (simp; omega))
              clear F a; intro a F
              refine eTakeF (k := 17) (i := 17) rfl (by kernel_rfl) F rfl rfl rfl (fun w => rFaZ (f := 0) Tryd.underlying32 rfl Tryd.sizeOf5 rfl rfl F rfl) (H.sel [0, 1, 2, 3, 4, 5] rfl rfl) (fun _ _ _ h => h) ?_
              clear F a; intro a F
              refine eTake (k := 18) (i := 18) rfl (by kernel_rfl) F rfl rfl rfl rfl (fun w H => rLd Tryd.isAgg5 F rfl (H.cellB 4 rfl (by omega))) (H.sel [0, 1, 2, 3, 4, 5] rfl rfl) (fun _ _ _ h => h) ?_
              clear F a; intro a F
              refine eTakeF (k := 19) (i := 19) rfl (by kernel_rfl) F rfl rfl rfl (fun w => rBin F rfl rfl bGtrB) (H.sel [0, 1, 2, 3, 4, 5] rfl rfl) (fun _ _ _ h => h) ?_
              clear F a; intro a F
              refine eTakeF (k := 20) (i := 20) rfl (by kernel_rfl) F rfl rfl rfl (fun w => rPk F rfl rfl) (H.sel [0, 1, 2, 3, 4, 5] rfl rfl) (fun _ _ _ h => h) ?_
              clear F a; intro a F
              refine eTakeF (k := 21) (i := 21) rfl (by kernel_rfl) F rfl rfl rfl (fun w => rMv F rfl) (H.sel [0, 1, 2, 3, 4, 5] rfl rfl) (fun _ _ _ h => h) ?_
              clear F a; intro a F
              refine F.split 153 rfl ?_ ?_ <;> (clear F; intro h153 F)
              ·
                replace h153 := of_decide_eq_true h153
                refine eTakeF (k := 22) (i := 22) rfl (by kernel_rfl) F rfl rfl rfl (fun w => rMv F rfl) (H.sel [0, 1, 2, 3, 4, 5] rfl rfl) (fun _ _ _ h => h) ?_
                clear F a; intro a F
                refine eTakeF (k := 23) (i := 23) rfl (by kernel_rfl) F rfl rfl rfl (fun w => rNot F rfl) (H.sel [0, 1, 2, 3, 4, 5] rfl rfl) (fun _ _ _ h => h) ?_
                clear F a; intro a F
                refine eTakeF (k := 24) (i := 24) rfl (by kernel_rfl) F rfl rfl rfl (fun w => rMv F rfl) (H.sel [0, 1, 2, 3, 4, 5] rfl rfl) (fun _ _ _ h => h) ?_
                clear F a; intro a F
                refine eTakeF (k := 25) (i := 25) rfl (by kernel_rfl) F rfl rfl rfl (fun w => rFa (f := 1) (k := 36) Tryd.underlying41 rfl Tryd.sizeOf34 rfl rfl F rfl) (H.sel [0, 1, 2, 3, 4, 5] rfl rfl) (fun _ _ _ h => h) ?_
                clear F a; intro a F
                refine eTake (k := 26) (i := 26) rfl (by kernel_rfl) F rfl rfl rfl rfl (fun w H => rLrB Tryd.underlying34 rfl Tryd.sizeOf34 F rfl (H.rangeB 2 _ 6 rfl (by omega))) (H.sel [0, 1, 2, 3, 4, 5] rfl rfl) (fun _ _ _ h => h) ?_
                clear F a; intro a F
                refine eTakeF (k := 27) (i := 27) rfl (by kernel_rfl) F rfl rfl rfl (fun w => rFa (f := 1) (k := 36) Tryd.underlying41 rfl Tryd.sizeOf34 rfl rfl F rfl) (H.sel [0, 1, 2, 3, 4, 5] rfl rfl) (fun _ _ _ h => h) ?_
                clear F a; intro a F
                refine eTake (k := 28) (i := 28) rfl (by kernel_rfl) F rfl rfl rfl rfl (fun w H => rLrB Tryd.underlying34 rfl Tryd.sizeOf34 F rfl (H.rangeB 4 _ 6 rfl (by omega))) (H.sel [0, 1, 2, 3, 4, 5] rfl rfl) (fun _ _ _ h => h) ?_
                clear F a; intro a F
                refine eTakeF (k := 29) (i := 29) rfl (by kernel_rfl) F rfl rfl rfl (fun w => rBin F rfl rfl (bEqY eT34 gT34 rfl)) (H.sel [0, 1, 2, 3, 4, 5] rfl rfl) (fun _ _ _ h => h) ?_
                clear F a; intro a F
                refine eTakeF (k := 30) (i := 30) rfl (by kernel_rfl) F rfl rfl rfl (fun w => rPk F rfl rfl) (H.sel [0, 1, 2, 3, 4, 5] rfl rfl) (fun _ _ _ h => h) ?_
                clear F a; intro a F
                refine eTakeF (k := 31) (i := 31) rfl (by kernel_rfl) F rfl rfl rfl (fun w => rPk F rfl rfl) (H.sel [0, 1, 2, 3, 4, 5] rfl rfl) (fun _ _ _ h => h) ?_
                clear F a; intro a F
                refine eTakeF (k := 32) (i := 32) rfl (by kernel_rfl) F rfl rfl rfl (fun w => rMv F rfl) (H.sel [0, 1, 2, 3, 4, 5] rfl rfl) (fun _ _ _ h => h) ?_
                clear F a; intro a F
                refine F.split 164 rfl ?_ ?_ <;> (clear F; intro h164 F)
                ·
                  refine eTake (k := 33) (i := 33) rfl (by kernel_rfl) F rfl rfl rfl rfl (fun w H => rLr Tryd.underlying29 rfl ?si F rfl (H.whole 5 rfl)) (H.sel [0, 1, 2, 3, 4, 5] rfl rfl) (fun _ _ _ h => h) ?_
                  case si => exact info_size Tryd.sizeOf29
                  clear F a; intro a F
                  refine eTake (k := 34) (i := 34) rfl (by kernel_rfl) F rfl rfl rfl rfl (fun w H => rLrB Tryd.underlying41 rfl Tryd.sizeOf41 F rfl (H.whole 4 rfl)) (H.sel [0, 1, 2, 3, 4, 5] rfl rfl) (fun _ _ _ h => h) ?_
                  clear F a; intro a F
                  refine eOne (k := 35) (i := 35) rfl (by kernel_rfl) F rfl (oCall Tryd.call28 F rfl rfl (overA_any _ p _ (hP0.own H) (hN.own H) s) ?_)
                  rintro e w ⟨rfl, hb⟩
                  replace H := H.grow hb; clear hb
                  refine ⟨_, rfl, ?_⟩
                  clear F a; intro a F
                  refine ePartO (by kernel_rfl) H ?_
                  refine eTakeF (k := 36) (i := 36) rfl (by kernel_rfl) F rfl rfl rfl (fun w => rNot F rfl) (H.sel [0, 1, 2, 3, 4, 5] rfl rfl) (fun _ _ _ h => h) ?_
                  clear F a; intro a F
                  refine eTakeF (k := 37) (i := 37) rfl (by kernel_rfl) F rfl rfl rfl (fun w => rPk F rfl rfl) (H.sel [0, 1, 2, 3, 4, 5] rfl rfl) (fun _ _ _ h => h) ?_
                  clear F a; intro a F
                  refine eTakeF (k := 38) (i := 38) rfl (by kernel_rfl) F rfl rfl rfl (fun w => rMv F rfl) (H.sel [0, 1, 2, 3, 4, 5] rfl rfl) (fun _ _ _ h => h) ?_
                  clear F a; intro a F
                  refine F.split 170 rfl ?_ ?_ <;> (clear F; intro h170 F)
                  ·
                    replace h170 := notT h170
                    refine eOne (k := 39) (i := 39) rfl (by kernel_rfl) F rfl (oCall Tryd.call12 F rfl rfl (awake_any _ (hN.own H)) ?_)
                    rintro e w ⟨rfl, hb⟩
                    replace H := H.grow hb; clear hb
                    refine ⟨_, rfl, ?_⟩
                    clear F a; intro a F
                    refine ePartO (by kernel_rfl) H ?_
                    refine eTakeF (k := 40) (i := 40) rfl (by kernel_rfl) F rfl rfl rfl (fun w => rPk F rfl rfl) (H.sel [0, 1, 2, 3, 4, 5] rfl rfl) (fun _ _ _ h => h) ?_
                    clear F a; intro a F
                    refine eTakeF (k := 41) (i := 41) rfl (by kernel_rfl) F rfl rfl rfl (fun w => rAs F rfl) (H.sel [0, 1, 2, 3, 4, 5] rfl rfl) (fun _ _ _ h => h) ?_
                    clear F a; intro a F
                    refine eNil (k := 42) (by kernel_rfl) ?_
                    refine hK23 _ _ ?_; clear hK23
                    refine wp_ret ?_
                    refine bRet Tryd.results6 F rfl ?_
                    exact ⟨retB rfl, H.below⟩
                  ·
                    replace h170 := notF h170
                    (refine notEq h170 ?_
                     have hmem := (mem_moves hkm).2
                     cases hq : enabledP p s with
                     | nil => rw [hq] at hmem; simp at hmem
                     | cons a r => simp)
                ·
                  exact notEq (hst.localMem (by simp [isLocal, *])) h164
              ·
                replace h153 := of_decide_eq_false h153
                exact absurd (UInt8.lt_iff_toNat_lt.2 hst.up) h153
            ·
              exact notEq (hst.right hr) h140
          ·
            exact notEq (hst.back hloc) h135
        ·
          replace h122 := beqF h122
          refine sFa (f := 0) (k := 0) Tryd.underlying52 rfl Tryd.sizeOf5 rfl rfl F rfl rfl rfl ?_
          clear F a; intro a F
          refine sLd Tryd.isAgg5 F rfl rfl rfl (H.cell 1 rfl rfl) ?_
          clear F a; intro a F
          refine sBin F rfl rfl rfl rfl (bEqlB (y := 8)) ?_
          clear F a; intro a F
          refine sPk F rfl rfl rfl rfl ?_
          clear F a; intro a F
          refine sMv F rfl rfl rfl ?_
          clear F a; intro a F
          refine F.split 127 rfl ?_ ?_ <;> (clear F; intro h127 F)
          ·
            replace h127 := beqT h127
            refine sSk F rfl rfl ?_
            clear F a; intro a F
            refine sSk F rfl rfl ?_
            clear F a; intro a F
            refine sSk F rfl rfl ?_
            clear F a; intro a F
            refine sPk F rfl rfl rfl rfl ?_
            clear F a; intro a F
            refine sAs F rfl rfl rfl ?_
            clear F a; intro a F
            refine sNil ?_
            refine hK22 _ _ ?_; clear hK22
            refine cSeq (fun K24 hK24 => ?_)
            refine cRegRO (by kernel_rfl) H ?_
            replace H := H.drew
            refine eTake (k := 0) (i := 0) rfl (by kernel_rfl) F rfl rfl rfl rfl (fun w H => rLrB Tryd.underlying41 rfl Tryd.sizeOf41 F rfl (H.whole 0 rfl)) (H.sel [0, 1, 2, 3, 4, 5] rfl rfl) (fun _ _ _ h => h) ?_
            clear F a; intro a F
            refine eTake (k := 1) (i := 1) rfl (by kernel_rfl) F rfl rfl rfl rfl (fun w H => rLrB Tryd.underlying41 rfl Tryd.sizeOf41 F rfl (H.whole 4 rfl)) (H.sel [0, 1, 2, 3, 4, 5] rfl rfl) (fun _ _ _ h => h) ?_
            clear F a; intro a F
            refine eTakeF (k := 2) (i := 2) rfl (by kernel_rfl) F rfl rfl rfl (fun w => rBin F rfl rfl (bEqY eT41 gT41 rfl)) (H.sel [0, 1, 2, 3, 4, 5] rfl rfl) (fun _ _ _ h => h) ?_
            clear F a; intro a F
            refine eTakeF (k := 3) (i := 3) rfl (by kernel_rfl) F rfl rfl rfl (fun w => rMv F rfl) (H.sel [0, 1, 2, 3, 4, 5] rfl rfl) (fun _ _ _ h => h) ?_
            clear F a; intro a F
            refine F.split 135 rfl ?_ ?_ <;> (clear F; intro h135 F)
            ·
              refine eTake (k := 4) (i := 4) rfl (by kernel_rfl) F rfl rfl rfl rfl (fun w H => rLr Tryd.underlying29 rfl ?si F rfl (H.whole 5 rfl)) (H.sel [0, 1, 2, 3, 4, 5] rfl rfl) (fun _ _ _ h => h) ?_
              case si => exact info_size Tryd.sizeOf29
              clear F a; intro a F
              refine eTake (k := 5) (i := 5) rfl (by kernel_rfl) F rfl rfl rfl rfl (fun w H => rLrB Tryd.underlying41 rfl Tryd.sizeOf41 F rfl (H.whole 2 rfl)) (H.sel [0, 1, 2, 3, 4, 5] rfl rfl) (fun _ _ _ h => h) ?_
              clear F a; intro a F
              refine eOne (k := 6) (i := 6) rfl (by kernel_rfl) F rfl (oCall Tryd.call25 F rfl rfl (rightA_any _ p _ (hP0.own H) (hN.own H) (stepP p s k)) ?_)
              rintro e w ⟨rfl, hb⟩
              replace H := H.grow hb; clear hb
              refine ⟨_, rfl, ?_⟩
              clear F a; intro a F
              refine ePartO (by kernel_rfl) H ?_
              refine eTakeF (k := 7) (i := 7) rfl (by kernel_rfl) F rfl rfl rfl (fun w => rPk F rfl rfl) (H.sel [0, 1, 2, 3, 4, 5] rfl rfl) (fun _ _ _ h => h) ?_
              clear F a; intro a F
              refine eTakeF (k := 8) (i := 8) rfl (by kernel_rfl) F rfl rfl rfl (fun w => rMv F rfl) (H.sel [0, 1, 2, 3, 4, 5] rfl rfl) (fun _ _ _ h => h) ?_
              clear F a; intro a F
              refine F.split 140 rfl ?_ ?_ <;> (clear F; intro h140 F)
              ·
                refine eTakeF (k := 9) (i := 9) rfl (by kernel_rfl) F rfl rfl rfl (fun w => rMv F rfl) (H.sel [0, 1, 2, 3, 4, 5] rfl rfl) (fun _ _ _ h => h) ?_
                clear F a; intro a F
                refine eTakeF (k := 10) (i := 10) rfl (by kernel_rfl) F rfl rfl rfl (fun w => rFa (f := 0) (k := 0) Tryd.underlying41 rfl Tryd.sizeOf33 rfl rfl F rfl) (H.sel [0, 1, 2, 3, 4, 5] rfl rfl) (fun _ _ _ h => h) ?_
                clear F a; intro a F
                refine eTakeF (k := 11) (i := 11) rfl (by kernel_rfl) F rfl rfl rfl (fun w => rIaZ Tryd.underlying33 Tryd.sizeOf32 F rfl rfl ?_) (H.sel [0, 1, 2, 3, 4, 5] rfl rfl) (fun _ _ _ h => h) ?_
                focus (first | omega | decide | (simp; omega))
                clear F a; intro a F
                refine eTakeF (k := 12) (i := 12) rfl (by kernel_rfl) F rfl rfl rfl (fun w => rFaZ (f := 0) Tryd.underlying32 rfl Tryd.sizeOf5 rfl rfl F rfl) (H.sel [0, 1, 2, 3, 4, 5] rfl rfl) (fun _ _ _ h => h) ?_
                clear F a; intro a F
                refine eTake (k := 13) (i := 13) rfl (by kernel_rfl) F rfl rfl rfl rfl (fun w H => rLd Tryd.isAgg5 F rfl (H.cellB 2 rfl (by omega))) (H.sel [0, 1, 2, 3, 4, 5] rfl rfl) (fun _ _ _ h => h) ?_
                clear F a; intro a F
                refine eTakeF (k := 14) (i := 14) rfl (by kernel_rfl) F rfl rfl rfl (fun w => rMv F rfl) (H.sel [0, 1, 2, 3, 4, 5] rfl rfl) (fun _ _ _ h => h) ?_
                clear F a; intro a F
                refine eTakeF (k := 15) (i := 15) rfl (by kernel_rfl) F rfl rfl rfl (fun w => rFa (f := 0) (k := 0) Tryd.underlying41 rfl Tryd.sizeOf33 rfl rfl F rfl) (H.sel [0, 1, 2, 3, 4, 5] rfl rfl) (fun _ _ _ h => h) ?_
                clear F a; intro a F
                refine eTakeF (k := 16) (i := 16) rfl (by kernel_rfl) F rfl rfl rfl (fun w => rIaZ Tryd.underlying33 Tryd.sizeOf32 F rfl rfl ?_) (H.sel [0, 1, 2, 3, 4, 5] rfl rfl) (fun _ _ _ h => h) ?_
                focus (first | omega | decide | (simp; omega))
                clear F a; intro a F
                refine eTakeF (k := 17) (i := 17) rfl (by kernel_rfl) F rfl rfl rfl (fun w => rFaZ (f := 0) Tryd.underlying32 rfl Tryd.sizeOf5 rfl rfl F rfl) (H.sel [0, 1, 2, 3, 4, 5] rfl rfl) (fun _ _ _ h => h) ?_
                clear F a; intro a F
                refine eTake (k := 18) (i := 18) rfl (by kernel_rfl) F rfl rfl rfl rfl (fun w H => rLd Tryd.isAgg5 F rfl (H.cellB 4 rfl (by omega))) (H.sel [0, 1, 2, 3, 4, 5] rfl rfl) (fun _ _ _ h => h) ?_
                clear F a; intro a F
                refine eTakeF (k := 19) (i := 19) rfl (by kernel_rfl) F rfl rfl rfl (fun w => rBin F rfl rfl bGtrB) (H.sel [0, 1, 2, 3, 4, 5] rfl rfl) (fun _ _ _ h => h) ?_
                clear F a; intro a F
                refine eTakeF (k := 20) (i := 20) rfl (by kernel_rfl) F rfl rfl rfl (fun w => rPk F rfl rfl) (H.sel [0, 1, 2, 3, 4, 5] rfl rfl) (fun _ _ _ h => h) ?_
                clear F a; intro a F
                refine eTakeF (k := 21) (i := 21) rfl (by kernel_rfl) F rfl rfl rfl (fun w => rMv F rfl) (H.sel [0, 1, 2, 3, 4, 5] rfl rfl) (fun _ _ _ h => h) ?_
                clear F a; intro a F
                refine F.split 153 rfl ?_ ?_ <;> (clear F; intro h153 F)
                ·
                  replace h153 := of_decide_eq_true h153
                  refine eTakeF (k := 22) (i := 22) rfl (by kernel_rfl) F rfl rfl rfl (fun w => rMv F rfl) (H.sel [0, 1, 2, 3, 4, 5] rfl rfl) (fun _ _ _ h => h) ?_
                  clear F a; intro a F
                  refine eTakeF (k := 23) (i := 23) rfl (by kernel_rfl) F rfl rfl rfl (fun w => rNot F rfl) (H.sel [0, 1, 2, 3, 4, 5] rfl rfl) (fun _ _ _ h => h) ?_
                  clear F a; intro a F
                  refine eTakeF (k := 24) (i := 24) rfl (by kernel_rfl) F rfl rfl rfl (fun w => rMv F rfl) (H.sel [0, 1, 2, 3, 4, 5] rfl rfl) (fun _ _ _ h => h) ?_
                  clear F a; intro a F
                  refine eTakeF (k := 25) (i := 25) rfl (by kernel_rfl) F rfl rfl rfl (fun w => rFa (f := 1) (k := 36) Tryd.underlying41 rfl Tryd.sizeOf34 rfl rfl F rfl) (H.sel [0, 1, 2, 3, 4, 5] rfl rfl) (fun _ _ _ h => h) ?_
                  clear F a; intro a F
                  refine eTake (k := 26) (i := 26) rfl (by kernel_rfl) F rfl rfl rfl rfl (fun w H => rLrB Tryd.underlying34 rfl Tryd.sizeOf34 F rfl (H.rangeB 2 _ 6 rfl (by omega))) (H.sel [0, 1, 2, 3, 4, 5] rfl rfl) (fun _ _ _ h => h) ?_
                  clear F a; intro a F
                  refine eTakeF (k := 27) (i := 27) rfl (by kernel_rfl) F rfl rfl rfl (fun w => rFa (f := 1) (k := 36) Tryd.underlying41 rfl Tryd.sizeOf34 rfl rfl F rfl) (H.sel [0, 1, 2, 3, 4, 5] rfl rfl) (fun _ _ _ h => h) ?_
                  clear F a; intro a F
                  refine eTake (k := 28) (i := 28) rfl (by kernel_rfl) F rfl rfl rfl rfl (fun w H => rLrB Tryd.underlying34 rfl Tryd.sizeOf34 F rfl (H.rangeB 4 _ 6 rfl (by omega))) (H.sel [0, 1, 2, 3, 4, 5] rfl rfl) (fun _ _ _ h => h) ?_
                  clear F a; intro a F
                  refine eTakeF (k := 29) (i := 29) rfl (by kernel_rfl) F rfl rfl rfl (fun w => rBin F rfl rfl (bEqY eT34 gT34 rfl)) (H.sel [0, 1, 2, 3, 4, 5] rfl rfl) (fun _ _ _ h => h) ?_
                  clear F a; intro a F
                  refine eTakeF (k := 30) (i := 30) rfl (by kernel_rfl) F rfl rfl rfl (fun w => rPk F rfl rfl) (H.sel [0, 1, 2, 3, 4, 5] rfl rfl) (fun _ _ _ h => h) ?_
                  clear F a; intro a F
                  refine eTakeF (k := 31) (i := 31) rfl (by kernel_rfl) F rfl rfl rfl (fun w => rPk F rfl rfl) (H.sel [0, 1, 2, 3, 4, 5] rfl rfl) (fun _ _ _ h => h) ?_
                  clear F a; intro a F
                  refine eTakeF (k := 32) (i := 32) rfl (by kernel_rfl) F rfl rfl rfl (fun w => rMv F rfl) (H.sel [0, 1, 2, 3, 4, 5] rfl rfl) (fun _ _ _ h => h) ?_
                  clear F a; intro a F
                  refine F.split 164 rfl ?_ ?_ <;> (clear F; intro h164 F)
                  ·
                    refine eTake (k := 33) (i := 33) rfl (by kernel_rfl) F rfl rfl rfl rfl (fun w H => rLr Tryd.underlying29 rfl ?si F rfl (H.whole 5 rfl)) (H.sel [0, 1, 2, 3, 4, 5] rfl rfl) (fun _ _ _ h => h) ?_
                    case si => exact info_size Tryd.sizeOf29
                    clear F a; intro a F
                    refine eTake (k := 34) (i := 34) rfl (by kernel_rfl) F rfl rfl rfl rfl (fun w H => rLrB Tryd.underlying41 rfl Tryd.sizeOf41 F rfl (H.whole 4 rfl)) (H.sel [0, 1, 2, 3, 4, 5] rfl rfl) (fun _ _ _ h => h) ?_
                    clear F a; intro a F
                    refine eOne (k := 35) (i := 35) rfl (by kernel_rfl) F rfl (oCall Tryd.call28 F rfl rfl (overA_any _ p _ (hP0.own H) (hN.own H) s) ?_)
                    rintro e w ⟨rfl, hb⟩
                    replace H := H.grow hb; clear hb
                    refine ⟨_, rfl, ?_⟩
                    clear F a; intro a F
                    refine ePartO (by kernel_rfl) H ?_
                    refine eTakeF (k := 36) (i := 36) rfl (by kernel_rfl) F rfl rfl rfl (fun w => rNot F rfl) (H.sel [0, 1, 2, 3, 4, 5] rfl rfl) (fun _ _ _ h => h) ?_
                    clear F a; intro a F
                    refine eTakeF (k := 37) (i := 37) rfl (by kernel_rfl) F rfl rfl rfl (fun w => rPk F rfl rfl) (H.sel [0, 1, 2, 3, 4, 5] rfl rfl) (fun _ _ _ h => h) ?_
                    clear F a; intro a F
                    refine eTakeF (k := 38) (i := 38) rfl (by kernel_rfl) F rfl rfl rfl (fun w => rMv F rfl) (H.sel [0, 1, 2, 3, 4, 5] rfl rfl) (fun _ _ _ h => h) ?_
                    clear F a; intro a F
                    refine F.split 170 rfl ?_ ?_ <;> (clear F; intro h170 F)
                    ·
                      replace h170 := notT h170
                      refine eOne (k := 39) (i := 39) rfl (by kernel_rfl) F rfl (oCall Tryd.call12 F rfl rfl (awake_any _ (hN.own H)) ?_)
                      rintro e w ⟨rfl, hb⟩
                      replace H := H.grow hb; clear hb
                      refine ⟨_, rfl, ?_⟩
                      clear F a; intro a F
                      refine ePartO (by kernel_rfl) H ?_
                      refine eTakeF (k := 40) (i := 40) rfl (by kernel_rfl) F rfl rfl rfl (fun w => rPk F rfl rfl) (H.sel [0, 1, 2, 3, 4, 5] rfl rfl) (fun _ _ _ h => h) ?_
                      clear F a; intro a F
                      refine eTakeF (k := 41) (i := 41) rfl (by kernel_rfl) F rfl rfl rfl (fun w => rAs F rfl) (H.sel [0, 1, 2, 3, 4, 5] rfl rfl) (fun _ _ _ h => h) ?_
                      clear F a; intro a F
                      refine eNil (k := 42) (by kernel_rfl) ?_
                      refine hK24 _ _ ?_; clear hK24
                      refine wp_ret ?_
                      refine bRet Tryd.results6 F rfl ?_
                      exact ⟨retB rfl, H.below⟩
                    ·
                      replace h170 := notF h170
                      (refine notEq h170 ?_
                       have hmem := (mem_moves hkm).2
                       cases hq : enabledP p s with
                       | nil => rw [hq] at hmem; simp at hmem
                       | cons a r => simp)
                  ·
                    exact notEq (hst.localMem (by simp [isLocal, *])) h164
                ·
                  replace h153 := of_decide_eq_false h153
                  exact absurd (UInt8.lt_iff_toNat_lt.2 hst.up) h153
              ·
                exact notEq (hst.right hr) h140
            ·
              exact notEq (hst.back hloc) h135
          ·
            replace h127 := beqF h127
            refine sFa (f := 0) (k := 0) Tryd.underlying52 rfl Tryd.sizeOf5 rfl rfl F rfl rfl rfl ?_
            clear F a; intro a F
            refine sLd Tryd.isAgg5 F rfl rfl rfl (H.cell 1 rfl rfl) ?_
            clear F a; intro a F
            refine sBin F rfl rfl rfl rfl (bEqlB (y := 7)) ?_
            clear F a; intro a F
            refine sPk F rfl rfl rfl rfl ?_
            clear F a; intro a F
            refine sAs F rfl rfl rfl ?_
            clear F a; intro a F
            refine sNil ?_
            refine hK22 _ _ ?_; clear hK22
            refine cSeq (fun K25 hK25 => ?_)
            refine cRegRO (by kernel_rfl) H ?_
            replace H := H.drew
            refine eTake (k := 0) (i := 0) rfl (by kernel_rfl) F rfl rfl rfl rfl (fun w H => rLrB Tryd.underlying41 rfl Tryd.sizeOf41 F rfl (H.whole 0 rfl)) (H.sel [0, 1, 2, 3, 4, 5] rfl rfl) (fun _ _ _ h => h) ?_
            clear F a; intro a F
            refine eTake (k := 1) (i := 1) rfl (by kernel_rfl) F rfl rfl rfl rfl (fun w H => rLrB Tryd.underlying41 rfl Tryd.sizeOf41 F rfl (H.whole 4 rfl)) (H.sel [0, 1, 2, 3, 4, 5] rfl rfl) (fun _ _ _ h => h) ?_
            clear F a; intro a F
            refine eTakeF (k := 2) (i := 2) rfl (by kernel_rfl) F rfl rfl rfl (fun w => rBin F rfl rfl (bEqY eT41 gT41 rfl)) (H.sel [0, 1, 2, 3, 4, 5] rfl rfl) (fun _ _ _ h => h) ?_
            clear F a; intro a F
            refine eTakeF (k := 3) (i := 3) rfl (by kernel_rfl) F rfl rfl rfl (fun w => rMv F rfl) (H.sel [0, 1, 2, 3, 4, 5] rfl rfl) (fun _ _ _ h => h) ?_
            clear F a; intro a F
            refine F.split 135 rfl ?_ ?_ <;> (clear F; intro h135 F)
            ·
              refine eTake (k := 4) (i := 4) rfl (by kernel_rfl) F rfl rfl rfl rfl (fun w H => rLr Tryd.underlying29 rfl ?si F rfl (H.whole 5 rfl)) (H.sel [0, 1, 2, 3, 4, 5] rfl rfl) (fun _ _ _ h => h) ?_
              case si => exact info_size Tryd.sizeOf29
              clear F a; intro a F
              refine eTake (k := 5) (i := 5) rfl (by kernel_rfl) F rfl rfl rfl rfl (fun w H => rLrB Tryd.underlying41 rfl Tryd.sizeOf41 F rfl (H.whole 2 rfl)) (H.sel [0, 1, 2, 3, 4, 5] rfl rfl) (fun _ _ _ h => h) ?_
              clear F a; intro a F
              refine eOne (k := 6) (i := 6) rfl (by kernel_rfl) F rfl (oCall Tryd.call25 F rfl rfl (rightA_any _ p _ (hP0.own H) (hN.own H) (stepP p s k)) ?_)
              rintro e w ⟨rfl, hb⟩
              replace H := H.grow hb; clear hb
              refine ⟨_, rfl, ?_⟩
              clear F a; intro a F
              refine ePartO (by kernel_rfl) H ?_
              refine eTakeF (k := 7) (i := 7) rfl (by kernel_rfl) F rfl rfl rfl (fun w => rPk F rfl rfl) (H.sel [0, 1, 2, 3, 4, 5] rfl rfl) (fun _ _ _ h => h) ?_
              clear F a; intro a F
              refine eTakeF (k := 8) (i := 8) rfl (by kernel_rfl) F rfl rfl rfl (fun w => rMv F rfl) (H.sel [0, 1, 2, 3, 4, 5] rfl rfl) (fun _ _ _ h => h) ?_
              clear F a; intro a F
              refine F.split 140 rfl ?_ ?_ <;> (clear F; intro h140 F)
              ·
                refine eTakeF (k := 9) (i := 9) rfl (by kernel_rfl) F rfl rfl rfl (fun w => rMv F rfl) (H.sel [0, 1, 2, 3, 4, 5] rfl rfl) (fun _ _ _ h => h) ?_
                clear F a; intro a F
                refine eTakeF (k := 10) (i := 10) rfl (by kernel_rfl) F rfl rfl rfl (fun w => rFa (f := 0) (k := 0) Tryd.underlying41 rfl Tryd.sizeOf33 rfl rfl F rfl) (H.sel [0, 1, 2, 3, 4, 5] rfl rfl) (fun _ _ _ h => h) ?_
                clear F a; intro a F
                refine eTakeF (k := 11) (i := 11) rfl (by kernel_rfl) F rfl rfl rfl (fun w => rIaZ Tryd.underlying33 Tryd.sizeOf32 F rfl rfl ?_) (H.sel [0, 1, 2, 3, 4, 5] rfl rfl) (fun _ _ _ h => h) ?_
                focus (first | omega | decide | (simp; omega))
                clear F a; intro a F
                refine eTakeF (k := 12) (i := 12) rfl (by kernel_rfl) F rfl rfl rfl (fun w => rFaZ (f := 0) Tryd.underlying32 rfl Tryd.sizeOf5 rfl rfl F rfl) (H.sel [0, 1, 2, 3, 4, 5] rfl rfl) (fun _ _ _ h => h) ?_
                clear F a; intro a F
                refine eTake (k := 13) (i := 13) rfl (by kernel_rfl) F rfl rfl rfl rfl (fun w H => rLd Tryd.isAgg5 F rfl (H.cellB 2 rfl (by omega))) (H.sel [0, 1, 2, 3, 4, 5] rfl rfl) (fun _ _ _ h => h) ?_
                clear F a; intro a F
                refine eTakeF (k := 14) (i := 14) rfl (by kernel_rfl) F rfl rfl rfl (fun w => rMv F rfl) (H.sel [0, 1, 2, 3, 4, 5] rfl rfl) (fun _ _ _ h => h) ?_
                clear F a; intro a F
                refine eTakeF (k := 15) (i := 15) rfl (by kernel_rfl) F rfl rfl rfl (fun w => rFa (f := 0) (k := 0) Tryd.underlying41 rfl Tryd.sizeOf33 rfl rfl F rfl) (H.sel [0, 1, 2, 3, 4, 5] rfl rfl) (fun _ _ _ h => h) ?_
                clear F a; intro a F
                refine eTakeF (k := 16) (i := 16) rfl (by kernel_rfl) F rfl rfl rfl (fun w => rIaZ Tryd.underlying33 Tryd.sizeOf32 F rfl rfl ?_) (H.sel [0, 1, 2, 3, 4, 5] rfl rfl) (fun _ _ _ h => h) ?_
                focus (first | omega | decide | (simp; omega))
                clear F a; intro a F
                refine eTakeF (k := 17) (i := 17) rfl (by kernel_rfl) F rfl rfl rfl (fun w => rFaZ (f := 0) Tryd.underlying32 rfl Tryd.sizeOf5 rfl rfl F rfl) (H.sel [0, 1, 2, 3, 4, 5] rfl rfl) (fun _ _ _ h => h) ?_
                clear F a; intro a F
                refine eTake (k := 18) (i := 18) rfl (by kernel_rfl) F rfl rfl rfl rfl (fun w H => rLd Tryd.isAgg5 F rfl (H.cellB 4 rfl (by omega))) (H.sel [0, 1, 2, 3, 4, 5] rfl rfl) (fun _ _ _ h => h) ?_
                clear F a; intro a F
                refine eTakeF (k := 19) (i := 19) rfl (by kernel_rfl) F rfl rfl rfl (fun w => rBin F rfl rfl bGtrB) (H.sel [0, 1, 2, 3, 4, 5] rfl rfl) (fun _ _ _ h => h) ?_
                clear F a; intro a F
                refine eTakeF (k := 20) (i := 20) rfl (by kernel_rfl) F rfl rfl rfl (fun w => rPk F rfl rfl) (H.sel [0, 1, 2, 3, 4, 5] rfl rfl) (fun _ _ _ h => h) ?_
                clear F a; intro a F
                refine eTakeF (k := 21) (i := 21) rfl (by kernel_rfl) F rfl rfl rfl (fun w => rMv F rfl) (H.sel [0, 1, 2, 3, 4, 5] rfl rfl) (fun _ _ _ h => h) ?_
                clear F a; intro a F
                refine F.split 153 rfl ?_ ?_ <;> (clear F; intro h153 F)
                ·
                  replace h153 := of_decide_eq_true h153
                  refine eTakeF (k := 22) (i := 22) rfl (by kernel_rfl) F rfl rfl rfl (fun w => rMv F rfl) (H.sel [0, 1, 2, 3, 4, 5] rfl rfl) (fun _ _ _ h => h) ?_
                  clear F a; intro a F
                  refine eTakeF (k := 23) (i := 23) rfl (by kernel_rfl) F rfl rfl rfl (fun w => rNot F rfl) (H.sel [0, 1, 2, 3, 4, 5] rfl rfl) (fun _ _ _ h => h) ?_
                  clear F a; intro a F
                  refine eTakeF (k := 24) (i := 24) rfl (by kernel_rfl) F rfl rfl rfl (fun w => rMv F rfl) (H.sel [0, 1, 2, 3, 4, 5] rfl rfl) (fun _ _ _ h => h) ?_
                  clear F a; intro a F
                  refine F.split 156 rfl ?_ ?_ <;> (clear F; intro h156 F)
                  ·
                    replace h156 := notT h156
                    replace h156 := beqF h156
                    refine eSkip (k := 25) (i := 25) rfl (by kernel_rfl) F rfl rfl rfl (H.sel [0, 1, 2, 3, 4, 5] rfl rfl) (fun _ _ _ h => h) ?_
                    clear F a; intro a F
                    refine eSkip (k := 26) (i := 26) rfl (by kernel_rfl) F rfl rfl rfl (H.sel [0, 1, 2, 3, 4, 5] rfl rfl) (fun _ _ _ h => h) ?_
                    clear F a; intro a F
                    refine eSkip (k := 27) (i := 27) rfl (by kernel_rfl) F rfl rfl rfl (H.sel [0, 1, 2, 3, 4, 5] rfl rfl) (fun _ _ _ h => h) ?_
                    clear F a; intro a F
                    refine eSkip (k := 28) (i := 28) rfl (by kernel_rfl) F rfl rfl rfl (H.sel [0, 1, 2, 3, 4, 5] rfl rfl) (fun _ _ _ h => h) ?_
                    clear F a; intro a F
                    refine eSkip (k := 29) (i := 29) rfl (by kernel_rfl) F rfl rfl rfl (H.sel [0, 1, 2, 3, 4, 5] rfl rfl) (fun _ _ _ h => h) ?_
                    clear F a; intro a F
                    refine eTakeF (k := 30) (i := 30) rfl (by kernel_rfl) F rfl rfl rfl (fun w => rPk F rfl rfl) (H.sel [0, 1, 2, 3, 4, 5] rfl rfl) (fun _ _ _ h => h) ?_
                    clear F a; intro a F
                    refine eTakeF (k := 31) (i := 31) rfl (by kernel_rfl) F rfl rfl rfl (fun w => rPk F rfl rfl) (H.sel [0, 1, 2, 3, 4, 5] rfl rfl) (fun _ _ _ h => h) ?_
                    clear F a; intro a F
                    refine eTakeF (k := 32) (i := 32) rfl (by kernel_rfl) F rfl rfl rfl (fun w => rMv F rfl) (H.sel [0, 1, 2, 3, 4, 5] rfl rfl) (fun _ _ _ h => h) ?_
                    clear F a; intro a F
                    refine eTake (k := 33) (i := 33) rfl (by kernel_rfl) F rfl rfl rfl rfl (fun w H => rLr Tryd.underlying29 rfl ?si F rfl (H.whole 5 rfl)) (H.sel [0, 1, 2, 3, 4, 5] rfl rfl) (fun _ _ _ h => h) ?_
                    case si => exact info_size Tryd.sizeOf29
                    clear F a; intro a F
                    refine eTake (k := 34) (i := 34) rfl (by kernel_rfl) F rfl rfl rfl rfl (fun w H => rLrB Tryd.underlying41 rfl Tryd.sizeOf41 F rfl (H.whole 4 rfl)) (H.sel [0, 1, 2, 3, 4, 5] rfl rfl) (fun _ _ _ h => h) ?_
                    clear F a; intro a F
                    refine eOne (k := 35) (i := 35) rfl (by kernel_rfl) F rfl (oCall Tryd.call28 F rfl rfl (overA_any _ p _ (hP0.own H) (hN.own H) s) ?_)
                    rintro e w ⟨rfl, hb⟩
                    replace H := H.grow hb; clear hb
                    refine ⟨_, rfl, ?_⟩
                    clear F a; intro a F
                    refine ePartO (by kernel_rfl) H ?_
                    refine eTakeF (k := 36) (i := 36) rfl (by kernel_rfl) F rfl rfl rfl (fun w => rNot F rfl) (H.sel [0, 1, 2, 3, 4, 5] rfl rfl) (fun _ _ _ h => h) ?_
                    clear F a; intro a F
                    refine eTakeF (k := 37) (i := 37) rfl (by kernel_rfl) F rfl rfl rfl (fun w => rPk F rfl rfl) (H.sel [0, 1, 2, 3, 4, 5] rfl rfl) (fun _ _ _ h => h) ?_
                    clear F a; intro a F
                    refine eTakeF (k := 38) (i := 38) rfl (by kernel_rfl) F rfl rfl rfl (fun w => rMv F rfl) (H.sel [0, 1, 2, 3, 4, 5] rfl rfl) (fun _ _ _ h => h) ?_
                    clear F a; intro a F
                    refine F.split 170 rfl ?_ ?_ <;> (clear F; intro h170 F)
                    ·
                      replace h170 := notT h170
                      refine eOne (k := 39) (i := 39) rfl (by kernel_rfl) F rfl (oCall Tryd.call12 F rfl rfl (awake_any _ (hN.own H)) ?_)
                      rintro e w ⟨rfl, hb⟩
                      replace H := H.grow hb; clear hb
                      refine ⟨_, rfl, ?_⟩
                      clear F a; intro a F
                      refine ePartO (by kernel_rfl) H ?_
                      refine eTakeF (k := 40) (i := 40) rfl (by kernel_rfl) F rfl rfl rfl (fun w => rPk F rfl rfl) (H.sel [0, 1, 2, 3, 4, 5] rfl rfl) (fun _ _ _ h => h) ?_
                      clear F a; intro a F
                      refine eTakeF (k := 41) (i := 41) rfl (by kernel_rfl) F rfl rfl rfl (fun w => rAs F rfl) (H.sel [0, 1, 2, 3, 4, 5] rfl rfl) (fun _ _ _ h => h) ?_
                      clear F a; intro a F
                      refine eNil (k := 42) (by kernel_rfl) ?_
                      refine hK25 _ _ ?_; clear hK25
                      refine wp_ret ?_
                      refine bRet Tryd.results6 F rfl ?_
                      exact ⟨retB rfl, H.below⟩
                    ·
                      replace h170 := notF h170
                      (refine notEq h170 ?_
                       have hmem := (mem_moves hkm).2
                       cases hq : enabledP p s with
                       | nil => rw [hq] at hmem; simp at hmem
                       | cons a r => simp)
                  ·
                    replace h156 := notF h156
                    replace h156 := beqT h156
                    refine eTakeF (k := 25) (i := 25) rfl (by kernel_rfl) F rfl rfl rfl (fun w => rFa (f := 1) (k := 36) Tryd.underlying41 rfl Tryd.sizeOf34 rfl rfl F rfl) (H.sel [0, 1, 2, 3, 4, 5] rfl rfl) (fun _ _ _ h => h) ?_
                    clear F a; intro a F
                    refine eTake (k := 26) (i := 26) rfl (by kernel_rfl) F rfl rfl rfl rfl (fun w H => rLrB Tryd.underlying34 rfl Tryd.sizeOf34 F rfl (H.rangeB 2 _ 6 rfl (by omega))) (H.sel [0, 1, 2, 3, 4, 5] rfl rfl) (fun _ _ _ h => h) ?_
                    clear F a; intro a F
                    refine eTakeF (k := 27) (i := 27) rfl (by kernel_rfl) F rfl rfl rfl (fun w => rFa (f := 1) (k := 36) Tryd.underlying41 rfl Tryd.sizeOf34 rfl rfl F rfl) (H.sel [0, 1, 2, 3, 4, 5] rfl rfl) (fun _ _ _ h => h) ?_
                    clear F a; intro a F
                    refine eTake (k := 28) (i := 28) rfl (by kernel_rfl) F rfl rfl rfl rfl (fun w H => rLrB Tryd.underlying34 rfl Tryd.sizeOf34 F rfl (H.rangeB 4 _ 6 rfl (by omega))) (H.sel [0, 1, 2, 3, 4, 5] rfl rfl) (fun _ _ _ h => h) ?_
                    clear F a; intro a F
                    refine eTakeF (k := 29) (i := 29) rfl (by kernel_rfl) F rfl rfl rfl (fun w => rBin F rfl rfl (bEqY eT34 gT34 rfl)) (H.sel [0, 1, 2, 3, 4, 5] rfl rfl) (fun _ _ _ h => h) ?_
                    clear F a; intro a F
                    refine eTakeF (k := 30) (i := 30) rfl (by kernel_rfl) F rfl rfl rfl (fun w => rPk F rfl rfl) (H.sel [0, 1, 2, 3, 4, 5] rfl rfl) (fun _ _ _ h => h) ?_
                    clear F a; intro a F
                    refine eTakeF (k := 31) (i := 31) rfl (by kernel_rfl) F rfl rfl rfl (fun w => rPk F rfl rfl) (H.sel [0, 1, 2, 3, 4, 5] rfl rfl) (fun _ _ _ h => h) ?_
                    clear F a; intro a F
                    refine eTakeF (k := 32) (i := 32) rfl (by kernel_rfl) F rfl rfl rfl (fun w => rMv F rfl) (H.sel [0, 1, 2, 3, 4, 5] rfl rfl) (fun _ _ _ h => h) ?_
                    clear F a; intro a F
                    refine F.split 164 rfl ?_ ?_ <;> (clear F; intro h164 F)
                    ·
                      refine eTake (k := 33) (i := 33) rfl (by kernel_rfl) F rfl rfl rfl rfl (fun w H => rLr Tryd.underlying29 rfl ?si F rfl (H.whole 5 rfl)) (H.sel [0, 1, 2, 3, 4, 5] rfl rfl) (fun _ _ _ h => h) ?_
                      case si => exact info_size Tryd.sizeOf29
                      clear F a; intro a F
                      refine eTake (k := 34) (i := 34) rfl (by kernel_rfl) F rfl rfl rfl rfl (fun w H => rLrB Tryd.underlying41 rfl Tryd.sizeOf41 F rfl (H.whole 4 rfl)) (H.sel [0, 1, 2, 3, 4, 5] rfl rfl) (fun _ _ _ h => h) ?_
                      clear F a; intro a F
                      refine eOne (k := 35) (i := 35) rfl (by kernel_rfl) F rfl (oCall Tryd.call28 F rfl rfl (overA_any _ p _ (hP0.own H) (hN.own H) s) ?_)
                      rintro e w ⟨rfl, hb⟩
                      replace H := H.grow hb; clear hb
                      refine ⟨_, rfl, ?_⟩
                      clear F a; intro a F
                      refine ePartO (by kernel_rfl) H ?_
                      refine eTakeF (k := 36) (i := 36) rfl (by kernel_rfl) F rfl rfl rfl (fun w => rNot F rfl) (H.sel [0, 1, 2, 3, 4, 5] rfl rfl) (fun _ _ _ h => h) ?_
                      clear F a; intro a F
                      refine eTakeF (k := 37) (i := 37) rfl (by kernel_rfl) F rfl rfl rfl (fun w => rPk F rfl rfl) (H.sel [0, 1, 2, 3, 4, 5] rfl rfl) (fun _ _ _ h => h) ?_
                      clear F a; intro a F
                      refine eTakeF (k := 38) (i := 38) rfl (by kernel_rfl) F rfl rfl rfl (fun w => rMv F rfl) (H.sel [0, 1, 2, 3, 4, 5] rfl rfl) (fun _ _ _ h => h) ?_
                      clear F a; intro a F
                      refine F.split 170 rfl ?_ ?_ <;> (clear F; intro h170 F)
                      ·
                        replace h170 := notT h170
                        refine eOne (k := 39) (i := 39) rfl (by kernel_rfl) F rfl (oCall Tryd.call12 F rfl rfl (awake_any _ (hN.own H)) ?_)
                        rintro e w ⟨rfl, hb⟩
                        replace H := H.grow hb; clear hb
                        refine ⟨_, rfl, ?_⟩
                        clear F a; intro a F
                        refine ePartO (by kernel_rfl) H ?_
                        refine eTakeF (k := 40) (i := 40) rfl (by kernel_rfl) F rfl rfl rfl (fun w => rPk F rfl rfl) (H.sel [0, 1, 2, 3, 4, 5] rfl rfl) (fun _ _ _ h => h) ?_
                        clear F a; intro a F
                        refine eTakeF (k := 41) (i := 41) rfl (by kernel_rfl) F rfl rfl rfl (fun w => rAs F rfl) (H.sel [0, 1, 2, 3, 4, 5] rfl rfl) (fun _ _ _ h => h) ?_
                        clear F a; intro a F
                        refine eNil (k := 42) (by kernel_rfl) ?_
                        refine hK25 _ _ ?_; clear hK25
                        refine wp_ret ?_
                        refine bRet Tryd.results6 F rfl ?_
                        exact ⟨retB rfl, H.below⟩
                      ·
                        replace h170 := notF h170
                        (refine notEq h170 ?_
                         have hmem := (mem_moves hkm).2
                         cases hq : enabledP p s with
                         | nil => rw [hq] at hmem; simp at hmem
                         | cons a r => simp)
                    ·
                      exact notEq (hst.localMem (by simp [isLocal, *])) h164
                ·
                  replace h153 := of_decide_eq_false h153
                  exact absurd (UInt8.lt_iff_toNat_lt.2 hst.up) h153
              ·
                exact notEq (hst.right hr) h140
            ·
              exact notEq (hst.back hloc) h135
end Go.Proofs.YtfemniboggnbiaaDoor
