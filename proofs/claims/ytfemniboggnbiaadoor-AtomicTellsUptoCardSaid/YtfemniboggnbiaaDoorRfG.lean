/-
  WALK2. Layer 13's reference: Move, Final, Play. Conditions: the program lies in memory; its condition's depth is a number that an int holds.
-/
import Derived.Test.YtfemniboggnbiaaDoorRfF
set_option linter.unusedSimpArgs false
set_option linter.unusedVariables false
namespace Go.Proofs.YtfemniboggnbiaaDoor
open Go.RowKit
set_option maxRecDepth 100000

theorem movable_may {p : Prg} {s : By} {t : Int} : movable p s t = (rightS p s && mayI p s t) := by
  cases hr : rightS p s with
  | false => unfold movable; rw [movesP, if_neg (by rw [hr]; simp)]; rfl
  | true =>
    rw [Bool.true_and, Bool.eq_iff_iff]
    unfold movable mayI
    rw [movesP, if_pos hr, List.any_eq_true]
    constructor
    · rintro ⟨k, hk, h2⟩
      have e : (k : Int) = t := by simpa using h2
      subst e
      have := (List.mem_filter.1 hk).2
      simp [this]
    · intro h
      simp only [Bool.and_eq_true, decide_eq_true_eq] at h
      refine ⟨t.toNat, ?_, by simp; omega⟩
      unfold enabledP
      rw [List.mem_filter]
      refine ⟨?_, h.2⟩
      rw [List.mem_range]
      have := h.2
      unfold mayP at this
      split at this
      · rename_i l hl; exact (List.getElem?_eq_some_iff.1 hl).1
      · cases this
theorem local_not {x : Ins} {t : By} (h : isLocal x = false) : localP x t = t := by
  have h3 : x.op ≠ 3 := fun e => by simp [isLocal, e] at h
  have h8 : x.op ≠ 8 := fun e => by simp [isLocal, e] at h
  have h7 : x.op ≠ 7 := fun e => by simp [isLocal, e] at h
  rw [localP, if_neg h3, if_neg h8, if_neg h7]
/-- A state behind a move, as the reference lays it. -/
theorem lay_move {x : Ins} {s : By} {k : Nat} {T' : By} (hL : isLocal x = false) (hT : ∀ i, i < 9 → T' i = farP x (cut s (k * 9)) (s (36 + x.loc.toNat)) i) : ∀ i, i < 142 → lay (put s (36 + x.loc.toNat) (hasP x (cut s (k * 9)) (s (36 + x.loc.toNat)))) (k * 9) 9 T' i = moveP x s k i := fun i _ => by
  unfold moveP
  rw [hL]
  simp only [Bool.false_eq_true, if_false]
  unfold lay
  split
  · exact hT _ (by omega)
  · rfl
theorem final_step2 {s f : By} {j : Nat} (hj : j < 4) (hf : ∀ i, i < 32 → f i = if i < j * 8 then finalP s i else 0) :
    ∀ i, i < 32 → lay f (j * 8) 8 (cut s (j * 9 + 1)) i = if i < (j + 1) * 8 then finalP s i else 0 := fun i hi => by
  unfold lay
  by_cases h : j * 8 ≤ i ∧ i < j * 8 + 8
  · rw [if_pos h, if_pos (by omega)]
    unfold finalP cut
    rw [if_pos (by omega)]
    congr 1
    omega
  · rw [if_neg h, hf i hi]
    by_cases h2 : i < j * 8
    · rw [if_pos h2, if_pos (by omega)]
    · rw [if_neg h2, if_neg (by omega)]
set_option maxHeartbeats 2000000 in
theorem r13move_any (cs : List Value) (p : Prg) (w0 : World) (hP : ProgAt w0 cs p) (hd : deepC p.cond ≤ 9223372036854775807) (s : By) (t : Int) :
    Calls Tryd.prog 24 #[.agg cs.toArray, .agg (bs 142 s).toArray, .int .i64 t] w0 fun e w' => e = .returned (.tuple #[.agg (bs 142 (moveS p s t)).toArray, .int .i64 (moveE p s t)]) ∧ Below w0.heap.size w0 w' := by
  have H := Own.start w0 none
  have hP0 := hP
  have hmm := movable_may (p := p) (s := s) (t := t)
  obtain ⟨LA, LC, IA, IC, TA, TC, h, ccs, hp⟩ := hP
  obtain ⟨c1, c2, c3, c4, c5, rfl⟩ := len5 (condAt_len hp.cond)
  have hcs := hp.cs
  subst hcs
  refine enterF Tryd.func24 rfl Tryd.ntmps24 rfl (fun a F => ?_)
  refine cSeq (fun K1 hK1 => ?_)
  refine cReg ?_
  refine sBx H F rfl rfl rfl ?_
  clear F a H; intro b3 a w F H
  refine sBxB H F rfl rfl rfl ?_
  clear F a H; intro b4 a w F H
  refine sAlB H zB41 F rfl rfl ?_
  clear F a H; intro b6 a w F H
  refine sAs F rfl rfl rfl ?_
  clear F a; intro a F
  refine sNil ?_
  refine hK1 _ _ ?_; clear hK1
  refine cSeq (fun K2 hK2 => ?_)
  refine cSeq (fun K3 hK3 => ?_)
  refine cReg ?_
  refine sLr Tryd.underlying29 rfl ?si F rfl rfl rfl (H.whole 2 rfl) ?_
  case si => exact info_size Tryd.sizeOf29
  clear F a; intro a F
  refine sLrB Tryd.underlying41 rfl Tryd.sizeOf41 F rfl rfl rfl (H.whole 1 rfl) ?_
  clear F a; intro a F
  refine sCall Tryd.call26 F rfl rfl rfl (r13right_any _ p _ (hP0.own H) hd s) ?_
  rintro e w ⟨rfl, hb⟩
  replace H := H.grow hb; clear hb
  refine ⟨_, rfl, ?_⟩
  clear F a; intro a F
  refine sNot F rfl rfl rfl ?_
  clear F a; intro a F
  refine sMv F rfl rfl rfl ?_
  clear F a; intro a F
  refine F.split 16 rfl ?_ ?_ <;> (clear F; intro h16 F)
  ·
   replace h16 := notT h16
   refine sSk F rfl rfl ?_
   clear F a; intro a F
   refine sSk F rfl rfl ?_
   clear F a; intro a F
   refine sSk F rfl rfl ?_
   clear F a; intro a F
   refine sSk F rfl rfl ?_
   clear F a; intro a F
   refine sSk F rfl rfl ?_
   clear F a; intro a F
   refine sPk F rfl rfl rfl rfl ?_
   clear F a; intro a F
   refine sNil ?_
   refine hK3 _ _ ?_; clear hK3
   refine cIfT F rfl ?_
   refine cSeq (fun K4 hK4 => ?_)
   refine cReg ?_
   refine sBdB (places := [(0, 36), (36, 6), (42, 96), (138, 4)]) zB41 Tryd.underlying41 (by kernel_rfl) F rfl rfl rfl FillB.nil ?_
   clear F a; intro a F
   refine sSrB H 0 Tryd.sizeOf41 F rfl rfl rfl rfl (by omega) ?_
   clear H; intro w H
   rw [lay_all] at H
   refine sAs F rfl rfl rfl ?_
   clear F a; intro a F
   refine sNil ?_
   refine hK4 _ _ ?_; clear hK4
   refine wp_ret ?_
   simp only [Exit.then]
   refine bRetB1 Tryd.results24 F rfl rfl Tryd.underlying41 rfl Tryd.sizeOf41 H 0 rfl ?_
   first
     | exact ⟨by rw [moveS, moveE, hmm, h16]; rfl, H.below⟩
     | exact ⟨by rw [moveS, moveE, hmm, hr, h22]; rfl, H.below⟩
     | (refine ⟨?_, H.below⟩
        clear F H
        rw [eM, eE, eP]
        refine retBs (lay_move hL fun i hi => ?_)
        rw [farP, if_neg h64]
        have hl := lay_regs (t := cut s (k * 9)) (dst := x.dst) (v := s (36 + x.loc.toNat))
        by_cases h0 : i = 0
        · subst h0
          simp [put, lay]
        · simp only [put, if_neg h0]
          exact hl i hi)
     | (refine ⟨?_, H.below⟩
        clear F H
        rw [eM, eE, eP]
        refine retBs (lay_move hL fun i hi => ?_)
        rw [farP, if_pos h64])
     | (refine ⟨?_, H.below⟩
        clear F H
        have hL : isLocal x = true := h47
        rw [eM, eE, eP, moveP, if_pos hL])
  ·
   replace h16 := notF h16
   have hr : rightS p s = true := h16
   have hv : rightErr p = 0 := right_of hr
   have hv4 := (valid hv).thr4
   refine sLr Tryd.underlying29 rfl ?si F rfl rfl rfl (H.whole 2 rfl) ?_
   case si => exact info_size Tryd.sizeOf29
   clear F a; intro a F
   refine sLrB Tryd.underlying41 rfl Tryd.sizeOf41 F rfl rfl rfl (H.whole 1 rfl) ?_
   clear F a; intro a F
   refine sMv F rfl rfl rfl ?_
   clear F a; intro a F
   refine sCall Tryd.call43 F rfl rfl rfl (rmay_any _ p _ (hP0.own H) hv4 s t) ?_
   rintro e w ⟨rfl, hb⟩
   replace H := H.grow hb; clear hb
   refine ⟨_, rfl, ?_⟩
   clear F a; intro a F
   refine sNot F rfl rfl rfl ?_
   clear F a; intro a F
   refine sPk F rfl rfl rfl rfl ?_
   clear F a; intro a F
   refine sNil ?_
   refine hK3 _ _ ?_; clear hK3
   refine cIf F rfl (fun h22 => ?_) (fun h22 => ?_)
   ·
    replace h22 := notT h22
    refine cSeq (fun K5 hK5 => ?_)
    refine cReg ?_
    refine sBdB (places := [(0, 36), (36, 6), (42, 96), (138, 4)]) zB41 Tryd.underlying41 (by kernel_rfl) F rfl rfl rfl FillB.nil ?_
    clear F a; intro a F
    refine sSrB H 0 Tryd.sizeOf41 F rfl rfl rfl rfl (by omega) ?_
    clear H; intro w H
    rw [lay_all] at H
    refine sAs F rfl rfl rfl ?_
    clear F a; intro a F
    refine sNil ?_
    refine hK5 _ _ ?_; clear hK5
    refine wp_ret ?_
    simp only [Exit.then]
    refine bRetB1 Tryd.results24 F rfl rfl Tryd.underlying41 rfl Tryd.sizeOf41 H 0 rfl ?_
    first
      | exact ⟨by rw [moveS, moveE, hmm, h16]; rfl, H.below⟩
      | exact ⟨by rw [moveS, moveE, hmm, hr, h22]; rfl, H.below⟩
      | (refine ⟨?_, H.below⟩
         clear F H
         rw [eM, eE, eP]
         refine retBs (lay_move hL fun i hi => ?_)
         rw [farP, if_neg h64]
         have hl := lay_regs (t := cut s (k * 9)) (dst := x.dst) (v := s (36 + x.loc.toNat))
         by_cases h0 : i = 0
         · subst h0
           simp [put, lay]
         · simp only [put, if_neg h0]
           exact hl i hi)
      | (refine ⟨?_, H.below⟩
         clear F H
         rw [eM, eE, eP]
         refine retBs (lay_move hL fun i hi => ?_)
         rw [farP, if_pos h64])
      | (refine ⟨?_, H.below⟩
         clear F H
         have hL : isLocal x = true := h47
         rw [eM, eE, eP, moveP, if_pos hL])
   ·
    replace h22 := notF h22
    have hmay : mayI p s t = true := h22
    have hmv : movable p s t = true := by rw [hmm, hr, hmay]; rfl
    obtain ⟨k, rfl, hkm⟩ := movable_ofR hmv
    obtain ⟨l, x, hst⟩ := stepOf hv (mem_moves hkm).2
    have hloc := loc_ltR hv hst.hl hst.hx
    have hk4 := hst.t4
    have eM : moveS p s (k : Int) = stepP p s k := by rw [moveS, hmv, if_pos rfl, Int.toNat_natCast]
    have eE : moveE p s (k : Int) = 0 := by rw [moveE, hmv, if_pos rfl]
    obtain ⟨bT, oT, BT, CT, rfl, hT1, hT2, hT3⟩ := hp.threads k l hst.hl
    have hpcl : (s (k * 9)).toNat < l.length := hst.lt
    obtain ⟨bI, oI, rfl, hI⟩ := hT2 (s (k * 9)).toNat x.cells (by rw [List.getElem?_map, show l[(s (k * 9)).toNat]? = some x from hst.hx]; rfl)
    have hkl : k < p.threads.length := (List.getElem?_eq_some_iff.1 hst.hl).1
    have eP : stepP p s k = moveP x s k := stepP_at hst.hl hst.hx
    refine wp_skip ?_
    refine hK2 _ _ ?_; clear hK2
    refine cSeq (fun K6 hK6 => ?_)
    refine cRegRO (by kernel_rfl) H ?_
    replace H := H.drew
    refine eTakeF (k := 0) (i := 0) rfl (by kernel_rfl) F rfl rfl rfl (fun w => rFa (f := 3) (k := 3) Tryd.underlying29 rfl Tryd.sizeOf24 rfl rfl F rfl) (H.sel [0, 1, 2] rfl rfl) (fun _ _ _ h => h) ?_
    clear F a; intro a F
    refine eTake (k := 1) (i := 1) rfl (by kernel_rfl) F rfl rfl rfl rfl (fun w H => rLd Tryd.isAgg24 F rfl (H.cell 2 rfl rfl)) (H.sel [0, 1, 2] rfl rfl) (fun _ _ _ h => h) ?_
    clear F a; intro a F
    refine eTakeF (k := 2) (i := 2) rfl (by kernel_rfl) F rfl rfl rfl (fun w => rMv F rfl) (H.sel [0, 1, 2] rfl rfl) (fun _ _ _ h => h) ?_
    clear F a; intro a F
    refine eTakeF (k := 3) (i := 3) rfl (by kernel_rfl) F rfl rfl rfl (fun w => rIx Tryd.underlying24 Tryd.sizeOf53 F rfl rfl ?_) (H.sel [0, 1, 2] rfl rfl) (fun _ _ _ h => h) ?_
    focus (first | omega | decide | (simp; omega))
    clear F a; intro a F
    refine eTake (k := 4) (i := 4) rfl (by kernel_rfl) F rfl rfl rfl rfl (fun w H => rLd Tryd.isAgg53 F rfl (H.arg hT1)) (H.sel [0, 1, 2] rfl rfl) (fun _ _ _ h => h) ?_
    clear F a; intro a F
    refine eTakeF (k := 5) (i := 5) rfl (by kernel_rfl) F rfl rfl rfl (fun w => rMv F rfl) (H.sel [0, 1, 2] rfl rfl) (fun _ _ _ h => h) ?_
    clear F a; intro a F
    refine eTakeF (k := 6) (i := 6) rfl (by kernel_rfl) F rfl rfl rfl (fun w => rFa (f := 0) (k := 0) Tryd.underlying41 rfl Tryd.sizeOf33 rfl rfl F rfl) (H.sel [0, 1, 2] rfl rfl) (fun _ _ _ h => h) ?_
    clear F a; intro a F
    refine eTakeF (k := 7) (i := 7) rfl (by kernel_rfl) F rfl rfl rfl (fun w => rIaZ Tryd.underlying33 Tryd.sizeOf32 F rfl rfl ?_) (H.sel [0, 1, 2] rfl rfl) (fun _ _ _ h => h) ?_
    focus (first | omega | decide | (simp; omega))
    clear F a; intro a F
    refine eTakeF (k := 8) (i := 8) rfl (by kernel_rfl) F rfl rfl rfl (fun w => rFaZ (f := 0) Tryd.underlying32 rfl Tryd.sizeOf5 rfl rfl F rfl) (H.sel [0, 1, 2] rfl rfl) (fun _ _ _ h => h) ?_
    clear F a; intro a F
    refine eTake (k := 9) (i := 9) rfl (by kernel_rfl) F rfl rfl rfl rfl (fun w H => rLd Tryd.isAgg5 F rfl (H.cellB 1 rfl (by omega))) (H.sel [0, 1, 2] rfl rfl) (fun _ _ _ h => h) ?_
    clear F a; intro a F
    refine eTakeF (k := 10) (i := 10) rfl (by kernel_rfl) F rfl rfl rfl (fun w => rCv Tryd.underlying5 Tryd.underlying3 F rfl (wrapB _)) (H.sel [0, 1, 2] rfl rfl) (fun _ _ _ h => h) ?_
    clear F a; intro a F
    refine eTakeF (k := 11) (i := 11) rfl (by kernel_rfl) F rfl rfl rfl (fun w => rIx Tryd.underlying53 Tryd.sizeOf52 F rfl rfl ?_) (H.sel [0, 1, 2] rfl rfl) (fun _ _ _ h => h) ?_
    focus exact hpcl
    clear F a; intro a F
    refine eTake (k := 12) (i := 12) rfl (by kernel_rfl) F rfl rfl rfl rfl (fun w H => rLr Tryd.underlying52 rfl ?si F rfl (H.argR hI)) (H.sel [0, 1, 2] rfl rfl) (fun _ _ _ h => h) ?_
    case si => exact info_size Tryd.sizeOf52
    clear F a; intro a F
    refine eOne (k := 13) (i := 13) rfl (by kernel_rfl) F rfl (oAl H Tryd.zeroValue52 F rfl ?_)
    clear F a H; intro b8 a w F H
    refine eKeep (H.sel [1, 2, 3] rfl rfl) ?_
    refine eOne (k := 14) (i := 14) rfl (by kernel_rfl) F rfl (oSr H 0 ?si F rfl rfl ?s1 rfl rfl ?_)
    case si => exact info_size Tryd.sizeOf52
    case s1 => first | rfl | (repeat (first | exact one_nil | (apply one_cons; · first | rfl | assumption | exact one_bif rfl rfl)))
    clear H; intro w H
    refine ePartO (by kernel_rfl) H ?_
    refine eNil (k := 15) (by kernel_rfl) ?_
    refine hK6 _ _ ?_; clear hK6
    refine cSeq (fun K7 hK7 => ?_)
    refine cRegRO (by kernel_rfl) H ?_
    replace H := H.drew
    refine eTake (k := 0) (i := 0) rfl (by kernel_rfl) F rfl rfl rfl rfl (fun w H => rLr Tryd.underlying52 rfl ?si F rfl (H.whole 0 rfl)) (H.sel [0, 1, 2, 3] rfl rfl) (fun _ _ _ h => h) ?_
    case si => exact info_size Tryd.sizeOf52
    clear F a; intro a F
    refine eTakeF (k := 1) (i := 1) rfl (by kernel_rfl) F rfl rfl rfl (fun w => rMv F rfl) (H.sel [0, 1, 2, 3] rfl rfl) (fun _ _ _ h => h) ?_
    clear F a; intro a F
    refine eTakeF (k := 2) (i := 2) rfl (by kernel_rfl) F rfl rfl rfl (fun w => rFa (f := 0) (k := 0) Tryd.underlying41 rfl Tryd.sizeOf33 rfl rfl F rfl) (H.sel [0, 1, 2, 3] rfl rfl) (fun _ _ _ h => h) ?_
    clear F a; intro a F
    refine eTakeF (k := 3) (i := 3) rfl (by kernel_rfl) F rfl rfl rfl (fun w => rIaZ Tryd.underlying33 Tryd.sizeOf32 F rfl rfl ?_) (H.sel [0, 1, 2, 3] rfl rfl) (fun _ _ _ h => h) ?_
    focus (first | omega | decide | (simp; omega))
    clear F a; intro a F
    refine eTake (k := 4) (i := 4) rfl (by kernel_rfl) F rfl rfl rfl rfl (fun w H => rLrB Tryd.underlying32 rfl Tryd.sizeOf32 F rfl (H.rangeB 2 _ 9 rfl (by omega))) (H.sel [0, 1, 2, 3] rfl rfl) (fun _ _ _ h => h) ?_
    clear F a; intro a F
    refine eJoin F H [2, 4, 6, 8] 10 [true, true, true, true, true, true, true, true, true, true, false, false] (fun rs ups w => ∃ b9, ups = [(44, .agg (bs 9 (localP x (cut s (k * 9)))).toArray), (45, .bool (isLocal x)), (9, .pointer (some ⟨b9, 0, none⟩))] ∧ Own w0 none w ((.blk b9 (bs 9 zb) 32) :: rs)) (by repeat (first | exact SubR.nil | (apply SubR.cons; · rfl))) ?_ (fun hJ => ?_)
    rotate_left
    ·
     refine eTwo (k := 5) (i := 5) (j := 9) (by kernel_rfl) F rfl rfl rfl rfl ?_ ?_
     ·
      refine oCall Tryd.call20 F rfl rfl (rlocal_any x (cut s (k * 9)) _) ?_
      rintro e w ⟨rfl, hb⟩
      replace H := H.grow hb; clear hb
      refine ⟨_, rfl, ?_⟩
      clear F a; intro a F
      refine eKeep (H.sel [0, 1, 2, 3] rfl rfl) ?_
      refine eTakeF (k := 6) (i := 6) rfl (by kernel_rfl) F rfl rfl rfl (fun w => rMv F rfl) (H.sel [0, 1, 2, 3] rfl rfl) (fun _ _ _ h => h) ?_
      clear F a; intro a F
      refine eTakeF (k := 7) (i := 7) rfl (by kernel_rfl) F rfl rfl rfl (fun w => rExt F rfl rfl) (H.sel [0, 1, 2, 3] rfl rfl) (fun _ _ _ h => h) ?_
      clear F a; intro a F
      refine eTakeF (k := 8) (i := 8) rfl (by kernel_rfl) F rfl rfl rfl (fun w => rExt F rfl rfl) (H.sel [0, 1, 2, 3] rfl rfl) (fun _ _ _ h => h) ?_
      clear F a; intro a F
      refine eOne (k := 9) (i := 9) rfl (by kernel_rfl) F rfl (oAlB H zB32 F rfl ?_)
      clear F a H; intro b9 a w F H
      refine eKeep (H.sel [1, 2, 3, 4] rfl rfl) ?_
      exact eGo hJ (by kernel_rfl) _ ⟨b9, rfl, H.sel [0, 1, 2, 3, 4] rfl rfl⟩ (F.to (by repeat (first | exact trivial | refine Le.cons rfl ?_)))
     ·
      refine oAlB H zB32 F rfl ?_
      clear F a H; intro b9 a w F H
      refine eKeep (H.sel [1, 2, 3, 4] rfl rfl) ?_
      refine eOne (k := 6) (i := 5) rfl (by kernel_rfl) F rfl (oCall Tryd.call20 F rfl rfl (rlocal_any x (cut s (k * 9)) _) ?_)
      rintro e w ⟨rfl, hb⟩
      replace H := H.grow hb; clear hb
      refine ⟨_, rfl, ?_⟩
      clear F a; intro a F
      refine eKeep (H.sel [1, 2, 3, 4] rfl rfl) ?_
      refine eTakeF (k := 7) (i := 6) rfl (by kernel_rfl) F rfl rfl rfl (fun w => rMv F rfl) (H.sel [1, 2, 3, 4] rfl rfl) (fun _ _ _ h => h) ?_
      clear F a; intro a F
      refine eTakeF (k := 8) (i := 7) rfl (by kernel_rfl) F rfl rfl rfl (fun w => rExt F rfl rfl) (H.sel [1, 2, 3, 4] rfl rfl) (fun _ _ _ h => h) ?_
      clear F a; intro a F
      refine eTakeF (k := 9) (i := 8) rfl (by kernel_rfl) F rfl rfl rfl (fun w => rExt F rfl rfl) (H.sel [1, 2, 3, 4] rfl rfl) (fun _ _ _ h => h) ?_
      clear F a; intro a F
      exact eGo hJ (by kernel_rfl) _ ⟨b9, rfl, H.sel [0, 1, 2, 3, 4] rfl rfl⟩ (F.to (by repeat (first | exact trivial | refine Le.cons rfl ?_)))
    clear F H; intro ups a w hI F
    obtain ⟨b9, rfl, H⟩ := hI
    refine eOne (k := 10) (i := 10) rfl (by kernel_rfl) F rfl (oSrB H 0 Tryd.sizeOf32 F rfl rfl rfl (by omega) ?_)
    clear H; intro w H
    rw [lay_all] at H
    refine ePartO (by kernel_rfl) H ?_
    refine eTakeF (k := 11) (i := 11) rfl (by kernel_rfl) F rfl rfl rfl (fun w => rAs F rfl) (H.sel [0, 1, 2, 3, 4] rfl rfl) (fun _ _ _ h => h) ?_
    clear F a; intro a F
    refine eNil (k := 12) (by kernel_rfl) ?_
    refine hK7 _ _ ?_; clear hK7
    refine cSeq (fun K8 hK8 => ?_)
    refine cSeq (fun K9 hK9 => ?_)
    refine cReg ?_
    refine sMv F rfl rfl rfl ?_
    clear F a; intro a F
    refine sNot F rfl rfl rfl ?_
    clear F a; intro a F
    refine sNil ?_
    refine hK9 _ _ ?_; clear hK9
    refine cIf F rfl (fun h47 => ?_) (fun h47 => ?_)
    ·
     replace h47 := notT h47
     have hL : isLocal x = false := h47
     rw [local_not hL] at H
     refine cSeq (fun K10 hK10 => ?_)
     refine cReg ?_
     refine sFa (f := 2) (k := 2) Tryd.underlying52 rfl Tryd.sizeOf5 rfl rfl F rfl rfl rfl ?_
     clear F a; intro a F
     refine sLd Tryd.isAgg5 F rfl rfl rfl (H.cell 1 rfl rfl) ?_
     clear F a; intro a F
     refine sFa (f := 1) (k := 36) Tryd.underlying41 rfl Tryd.sizeOf34 rfl rfl F rfl rfl rfl ?_
     clear F a; intro a F
     refine sIa1 Tryd.underlying34 Tryd.sizeOf5 F rfl rfl rfl rfl ?_ ?_
     focus (first | omega | decide | (simp; omega))
     clear F a; intro a F
     refine sLd Tryd.isAgg5 F rfl rfl rfl (H.cellB 3 rfl (by omega)) ?_
     clear F a; intro a F
     refine sAs F rfl rfl rfl ?_
     clear F a; intro a F
     refine sNil ?_
     refine hK10 _ _ ?_; clear hK10
     refine cSeq (fun K11 hK11 => ?_)
     refine cRegRO (by kernel_rfl) H ?_
     replace H := H.drew
     refine eTakeF (k := 0) (i := 0) rfl (by kernel_rfl) F rfl rfl rfl (fun w => rFa (f := 2) (k := 2) Tryd.underlying52 rfl Tryd.sizeOf5 rfl rfl F rfl) (H.sel [0, 1, 2, 3, 4] rfl rfl) (fun _ _ _ h => h) ?_
     clear F a; intro a F
     refine eTake (k := 1) (i := 1) rfl (by kernel_rfl) F rfl rfl rfl rfl (fun w H => rLd Tryd.isAgg5 F rfl (H.cell 1 rfl rfl)) (H.sel [0, 1, 2, 3, 4] rfl rfl) (fun _ _ _ h => h) ?_
     clear F a; intro a F
     refine eTake (k := 2) (i := 2) rfl (by kernel_rfl) F rfl rfl rfl rfl (fun w H => rLr Tryd.underlying52 rfl ?si F rfl (H.whole 1 rfl)) (H.sel [0, 1, 2, 3, 4] rfl rfl) (fun _ _ _ h => h) ?_
     case si => exact info_size Tryd.sizeOf52
     clear F a; intro a F
     refine eTakeF (k := 3) (i := 3) rfl (by kernel_rfl) F rfl rfl rfl (fun w => rFa (f := 1) (k := 1) Tryd.underlying32 rfl Tryd.sizeOf30 rfl rfl F rfl) (H.sel [0, 1, 2, 3, 4] rfl rfl) (fun _ _ _ h => h) ?_
     clear F a; intro a F
     refine eTake (k := 4) (i := 4) rfl (by kernel_rfl) F rfl rfl rfl rfl (fun w H => rLrB Tryd.underlying30 rfl Tryd.sizeOf30 F rfl (H.rangeB 0 _ 8 rfl (by omega))) (H.sel [0, 1, 2, 3, 4] rfl rfl) (fun _ _ _ h => h) ?_
     clear F a; intro a F
     refine eTakeF (k := 5) (i := 5) rfl (by kernel_rfl) F rfl rfl rfl (fun w => rMv F rfl) (H.sel [0, 1, 2, 3, 4] rfl rfl) (fun _ _ _ h => h) ?_
     clear F a; intro a F
     refine eTakeF (k := 6) (i := 7) rfl (by kernel_rfl) F rfl rfl rfl (fun w => rFa (f := 1) (k := 36) Tryd.underlying41 rfl Tryd.sizeOf34 rfl rfl F rfl) (H.sel [0, 1, 2, 3, 4] rfl rfl) (fun _ _ _ h => h) ?_
     clear F a; intro a F
     refine eOne (k := 7) (i := 6) rfl (by kernel_rfl) F rfl (oCall Tryd.call44 F rfl rfl (rhas_any x (cut s (k * 9)) _ _) ?_)
     rintro e w ⟨rfl, hb⟩
     replace H := H.grow hb; clear hb
     refine ⟨_, rfl, ?_⟩
     clear F a; intro a F
     refine eKeep (H.sel [0, 1, 2, 3, 4] rfl rfl) ?_
     refine eTakeF (k := 8) (i := 8) rfl (by kernel_rfl) F rfl rfl rfl (fun w => rIa1 Tryd.underlying34 Tryd.sizeOf5 F rfl rfl ?_) (H.sel [0, 1, 2, 3, 4] rfl rfl) (fun _ _ _ h => h) ?_
     focus (first | omega | decide | (simp; omega))
     clear F a; intro a F
     refine eOne (k := 9) (i := 9) rfl (by kernel_rfl) F rfl (oStB H 3 Tryd.sizeOf5 F rfl rfl rfl (by omega) ?_)
     clear H; intro w H
     refine ePartO (by kernel_rfl) H ?_
     refine eNil (k := 10) (by kernel_rfl) ?_
     refine hK11 _ _ ?_; clear hK11
     refine cSeq (fun K12 hK12 => ?_)
     refine cSeq (fun K13 hK13 => ?_)
     refine cReg ?_
     refine sFa (f := 0) (k := 0) Tryd.underlying52 rfl Tryd.sizeOf5 rfl rfl F rfl rfl rfl ?_
     clear F a; intro a F
     refine sLd Tryd.isAgg5 F rfl rfl rfl (H.cell 1 rfl rfl) ?_
     clear F a; intro a F
     refine sBin F rfl rfl rfl rfl (bNeqB (y := 2)) ?_
     clear F a; intro a F
     refine sNil ?_
     refine hK13 _ _ ?_; clear hK13
     refine cIf F rfl (fun h64 => ?_) (fun h64 => ?_)
     ·
      replace h64 := bneT h64
      refine cReg ?_
      refine sFa (f := 1) (k := 1) Tryd.underlying32 rfl Tryd.sizeOf30 rfl rfl F rfl rfl rfl ?_
      clear F a; intro a F
      refine sLrB Tryd.underlying30 rfl Tryd.sizeOf30 F rfl rfl rfl (H.rangeB 0 _ 8 rfl (by omega)) ?_
      clear F a; intro a F
      refine sFa (f := 1) (k := 1) Tryd.underlying52 rfl Tryd.sizeOf5 rfl rfl F rfl rfl rfl ?_
      clear F a; intro a F
      refine sLd Tryd.isAgg5 F rfl rfl rfl (H.cell 1 rfl rfl) ?_
      clear F a; intro a F
      refine sMv F rfl rfl rfl ?_
      clear F a; intro a F
      refine sCall Tryd.call40 F rfl rfl rfl (rwith_any (cut (cut s (k * 9)) 1) x.dst _ _) ?_
      rintro e w ⟨rfl, hb⟩
      replace H := H.grow hb; clear hb
      refine ⟨_, rfl, ?_⟩
      clear F a; intro a F
      refine sFa (f := 1) (k := 1) Tryd.underlying32 rfl Tryd.sizeOf30 rfl rfl F rfl rfl rfl ?_
      clear F a; intro a F
      refine sSrB H 0 Tryd.sizeOf30 F rfl rfl rfl rfl (by omega) ?_
      clear H; intro w H
      refine sNil ?_
      refine hK12 _ _ ?_; clear hK12
      refine cReg ?_
      refine sFa (f := 0) (k := 0) Tryd.underlying32 rfl Tryd.sizeOf5 rfl rfl F rfl rfl rfl ?_
      clear F a; intro a F
      refine sLd Tryd.isAgg5 F rfl rfl rfl (H.cellB 0 rfl (by omega)) ?_
      clear F a; intro a F
      refine sBin F rfl rfl rfl rfl (bAddB (y := 1)) ?_
      clear F a; intro a F
      refine sFa (f := 0) (k := 0) Tryd.underlying32 rfl Tryd.sizeOf5 rfl rfl F rfl rfl rfl ?_
      clear F a; intro a F
      refine sStB H 0 Tryd.sizeOf5 F rfl rfl rfl rfl (by omega) ?_
      clear H; intro w H
      refine sNil ?_
      refine hK8 _ _ ?_; clear hK8
      refine cSeq (fun K14 hK14 => ?_)
      refine cReg ?_
      refine sMv F rfl rfl rfl ?_
      clear F a; intro a F
      refine sLrB Tryd.underlying32 rfl Tryd.sizeOf32 F rfl rfl rfl (H.whole 0 rfl) ?_
      clear F a; intro a F
      refine sFa (f := 0) (k := 0) Tryd.underlying41 rfl Tryd.sizeOf33 rfl rfl F rfl rfl rfl ?_
      clear F a; intro a F
      refine sIaZ Tryd.underlying33 Tryd.sizeOf32 F rfl rfl rfl rfl ?_ ?_
      focus (first | omega | decide | (simp; omega))
      clear F a; intro a F
      refine sSrB H 3 Tryd.sizeOf32 F rfl rfl rfl rfl (by omega) ?_
      clear H; intro w H
      refine sNil ?_
      refine hK14 _ _ ?_; clear hK14
      refine cSeq (fun K15 hK15 => ?_)
      refine cReg ?_
      refine sLrB Tryd.underlying41 rfl Tryd.sizeOf41 F rfl rfl rfl (H.whole 3 rfl) ?_
      clear F a; intro a F
      refine sSrB H 2 Tryd.sizeOf41 F rfl rfl rfl rfl (by omega) ?_
      clear H; intro w H
      rw [lay_all] at H
      refine sAs F rfl rfl rfl ?_
      clear F a; intro a F
      refine sNil ?_
      refine hK15 _ _ ?_; clear hK15
      refine wp_ret ?_
      refine bRetB1 Tryd.results24 F rfl rfl Tryd.underlying41 rfl Tryd.sizeOf41 H 2 rfl ?_
      first
        | exact ⟨by rw [moveS, moveE, hmm, h16]; rfl, H.below⟩
        | exact ⟨by rw [moveS, moveE, hmm, hr, h22]; rfl, H.below⟩
        | (refine ⟨?_, H.below⟩
           clear F H
           rw [eM, eE, eP]
           refine retBs (lay_move hL fun i hi => ?_)
           rw [farP, if_neg h64]
           have hl := lay_regs (t := cut s (k * 9)) (dst := x.dst) (v := s (36 + x.loc.toNat))
           by_cases h0 : i = 0
           · subst h0
             simp [put, lay]
           · simp only [put, if_neg h0]
             exact hl i hi)
        | (refine ⟨?_, H.below⟩
           clear F H
           rw [eM, eE, eP]
           refine retBs (lay_move hL fun i hi => ?_)
           rw [farP, if_pos h64])
        | (refine ⟨?_, H.below⟩
           clear F H
           have hL : isLocal x = true := h47
           rw [eM, eE, eP, moveP, if_pos hL])
     ·
      replace h64 := bneF h64
      refine wp_skip ?_
      refine hK12 _ _ ?_; clear hK12
      refine cReg ?_
      refine sFa (f := 0) (k := 0) Tryd.underlying32 rfl Tryd.sizeOf5 rfl rfl F rfl rfl rfl ?_
      clear F a; intro a F
      refine sLd Tryd.isAgg5 F rfl rfl rfl (H.cellB 0 rfl (by omega)) ?_
      clear F a; intro a F
      refine sBin F rfl rfl rfl rfl (bAddB (y := 1)) ?_
      clear F a; intro a F
      refine sFa (f := 0) (k := 0) Tryd.underlying32 rfl Tryd.sizeOf5 rfl rfl F rfl rfl rfl ?_
      clear F a; intro a F
      refine sStB H 0 Tryd.sizeOf5 F rfl rfl rfl rfl (by omega) ?_
      clear H; intro w H
      refine sNil ?_
      refine hK8 _ _ ?_; clear hK8
      refine cSeq (fun K16 hK16 => ?_)
      refine cReg ?_
      refine sMv F rfl rfl rfl ?_
      clear F a; intro a F
      refine sLrB Tryd.underlying32 rfl Tryd.sizeOf32 F rfl rfl rfl (H.whole 0 rfl) ?_
      clear F a; intro a F
      refine sFa (f := 0) (k := 0) Tryd.underlying41 rfl Tryd.sizeOf33 rfl rfl F rfl rfl rfl ?_
      clear F a; intro a F
      refine sIaZ Tryd.underlying33 Tryd.sizeOf32 F rfl rfl rfl rfl ?_ ?_
      focus (first | omega | decide | (simp; omega))
      clear F a; intro a F
      refine sSrB H 3 Tryd.sizeOf32 F rfl rfl rfl rfl (by omega) ?_
      clear H; intro w H
      refine sNil ?_
      refine hK16 _ _ ?_; clear hK16
      refine cSeq (fun K17 hK17 => ?_)
      refine cReg ?_
      refine sLrB Tryd.underlying41 rfl Tryd.sizeOf41 F rfl rfl rfl (H.whole 3 rfl) ?_
      clear F a; intro a F
      refine sSrB H 2 Tryd.sizeOf41 F rfl rfl rfl rfl (by omega) ?_
      clear H; intro w H
      rw [lay_all] at H
      refine sAs F rfl rfl rfl ?_
      clear F a; intro a F
      refine sNil ?_
      refine hK17 _ _ ?_; clear hK17
      refine wp_ret ?_
      refine bRetB1 Tryd.results24 F rfl rfl Tryd.underlying41 rfl Tryd.sizeOf41 H 2 rfl ?_
      first
        | exact ⟨by rw [moveS, moveE, hmm, h16]; rfl, H.below⟩
        | exact ⟨by rw [moveS, moveE, hmm, hr, h22]; rfl, H.below⟩
        | (refine ⟨?_, H.below⟩
           clear F H
           rw [eM, eE, eP]
           refine retBs (lay_move hL fun i hi => ?_)
           rw [farP, if_neg h64]
           have hl := lay_regs (t := cut s (k * 9)) (dst := x.dst) (v := s (36 + x.loc.toNat))
           by_cases h0 : i = 0
           · subst h0
             simp [put, lay]
           · simp only [put, if_neg h0]
             exact hl i hi)
        | (refine ⟨?_, H.below⟩
           clear F H
           rw [eM, eE, eP]
           refine retBs (lay_move hL fun i hi => ?_)
           rw [farP, if_pos h64])
        | (refine ⟨?_, H.below⟩
           clear F H
           have hL : isLocal x = true := h47
           rw [eM, eE, eP, moveP, if_pos hL])
    ·
     replace h47 := notF h47
     refine wp_skip ?_
     refine hK8 _ _ ?_; clear hK8
     refine cSeq (fun K18 hK18 => ?_)
     refine cReg ?_
     refine sMv F rfl rfl rfl ?_
     clear F a; intro a F
     refine sLrB Tryd.underlying32 rfl Tryd.sizeOf32 F rfl rfl rfl (H.whole 0 rfl) ?_
     clear F a; intro a F
     refine sFa (f := 0) (k := 0) Tryd.underlying41 rfl Tryd.sizeOf33 rfl rfl F rfl rfl rfl ?_
     clear F a; intro a F
     refine sIaZ Tryd.underlying33 Tryd.sizeOf32 F rfl rfl rfl rfl ?_ ?_
     focus (first | omega | decide | (simp; omega))
     clear F a; intro a F
     refine sSrB H 3 Tryd.sizeOf32 F rfl rfl rfl rfl (by omega) ?_
     clear H; intro w H
     refine sNil ?_
     refine hK18 _ _ ?_; clear hK18
     refine cSeq (fun K19 hK19 => ?_)
     refine cReg ?_
     refine sLrB Tryd.underlying41 rfl Tryd.sizeOf41 F rfl rfl rfl (H.whole 3 rfl) ?_
     clear F a; intro a F
     refine sSrB H 2 Tryd.sizeOf41 F rfl rfl rfl rfl (by omega) ?_
     clear H; intro w H
     rw [lay_all] at H
     refine sAs F rfl rfl rfl ?_
     clear F a; intro a F
     refine sNil ?_
     refine hK19 _ _ ?_; clear hK19
     refine wp_ret ?_
     refine bRetB1 Tryd.results24 F rfl rfl Tryd.underlying41 rfl Tryd.sizeOf41 H 2 rfl ?_
     first
       | exact ⟨by rw [moveS, moveE, hmm, h16]; rfl, H.below⟩
       | exact ⟨by rw [moveS, moveE, hmm, hr, h22]; rfl, H.below⟩
       | (refine ⟨?_, H.below⟩
          clear F H
          rw [eM, eE, eP]
          refine retBs (lay_move hL fun i hi => ?_)
          rw [farP, if_neg h64]
          have hl := lay_regs (t := cut s (k * 9)) (dst := x.dst) (v := s (36 + x.loc.toNat))
          by_cases h0 : i = 0
          · subst h0
            simp [put, lay]
          · simp only [put, if_neg h0]
            exact hl i hi)
       | (refine ⟨?_, H.below⟩
          clear F H
          rw [eM, eE, eP]
          refine retBs (lay_move hL fun i hi => ?_)
          rw [farP, if_pos h64])
       | (refine ⟨?_, H.below⟩
          clear F H
          have hL : isLocal x = true := h47
          rw [eM, eE, eP, moveP, if_pos hL])
theorem r13final_any (s : By) (w0 : World) :
    Calls Tryd.prog 30 #[.agg (bs 142 s).toArray] w0 fun e w' => e = .returned (.agg (bs 38 (finalP s)).toArray) ∧ Below w0.heap.size w0 w' := by
  have H := Own.start w0 none
  refine enterF Tryd.func30 rfl Tryd.ntmps30 rfl (fun a F => ?_)
  refine cSeq (fun K1 hK1 => ?_)
  refine cReg ?_
  refine sBxB H F rfl rfl rfl ?_
  clear F a H; intro b1 a w F H
  refine sAlB H zB65 F rfl rfl ?_
  clear F a H; intro b2 a w F H
  refine sNil ?_
  refine hK1 _ _ ?_; clear hK1
  refine cSeq (fun K2 hK2 => ?_)
  refine cReg ?_
  refine sAlB H zB65 F rfl rfl ?_
  clear F a H; intro b3 a w F H
  refine sNil ?_
  refine hK2 _ _ ?_; clear hK2
  refine cSeq (fun K3 hK3 => ?_)
  refine cSeq (fun K4 hK4 => ?_)
  refine cReg ?_
  refine sAs F rfl rfl rfl ?_
  clear F a; intro a F
  refine sNil ?_
  refine hK4 _ _ ?_; clear hK4
  refine wp_block ?_
  refine cLoopR [1, 2, 3] (fun m ups w => ∃ (j : Nat) (f : By), m = 4 - j ∧ ups = [(4, .int .i64 ((j : Nat) : Int))] ∧ j ≤ 4 ∧ (∀ i, i < 32 → f i = if i < j * 8 then finalP s i else 0) ∧ Own w0 none w [.blk b3 (bs 38 f) 65, .blk b2 (bs 38 zb) 65, .blk b1 (bs 142 s) 41]) F (4) [(4, .int .i64 ((0 : Nat) : Int))] (by repeat (first | exact SubR.nil | (apply SubR.cons; · rfl))) ?_ ?_ ?_
  · exact ⟨0, _, rfl, rfl, by omega, fun i hi => by rw [if_neg (by omega)]; rfl, H⟩
  · repeat (first | exact trivial | refine Le.cons rfl ?_)
  clear F
  clear H
  intro m ups a w hI F
  obtain ⟨j, f, rfl, rfl, hj, hf, H⟩ := hI
  refine cSeq (fun K5 hK5 => ?_)
  refine cSeq (fun K6 hK6 => ?_)
  refine cReg ?_
  refine sMv F rfl rfl rfl ?_
  clear F a; intro a F
  refine sBin F rfl rfl rfl rfl bLss ?_
  clear F a; intro a F
  refine sNil ?_
  refine hK6 _ _ ?_; clear hK6
  refine cIf F rfl (fun h6 => ?_) (fun h6 => ?_)
  ·
   replace h6 := of_decide_eq_true h6
   refine wp_skip ?_
   refine hK5 _ _ ?_; clear hK5
   refine cSeq (fun K7 hK7 => ?_)
   refine wp_block ?_
   refine cReg ?_
   refine sMv F rfl rfl rfl ?_
   clear F a; intro a F
   refine sMv F rfl rfl rfl ?_
   clear F a; intro a F
   refine sFa (f := 0) (k := 0) Tryd.underlying41 rfl Tryd.sizeOf33 rfl rfl F rfl rfl rfl ?_
   clear F a; intro a F
   refine sIaZ Tryd.underlying33 Tryd.sizeOf32 F rfl rfl rfl rfl ?_ ?_
   focus (first | omega | decide | (simp; omega))
   clear F a; intro a F
   refine sFa (f := 1) (k := _ + 1) Tryd.underlying32 rfl Tryd.sizeOf30 rfl rfl F rfl rfl rfl ?_
   clear F a; intro a F
   refine sLrB Tryd.underlying30 rfl Tryd.sizeOf30 F rfl rfl rfl (H.rangeB 2 _ 8 rfl (by omega)) ?_
   clear F a; intro a F
   refine sFa (f := 0) (k := 0) Tryd.underlying65 rfl Tryd.sizeOf63 rfl rfl F rfl rfl rfl ?_
   clear F a; intro a F
   refine sIaZ Tryd.underlying63 Tryd.sizeOf30 F rfl rfl rfl rfl ?_ ?_
   focus (first | omega | decide | (simp; omega))
   clear F a; intro a F
   refine sSrB H 0 Tryd.sizeOf30 F rfl rfl rfl rfl (by omega) ?_
   clear H; intro w H
   refine sNil ?_
   refine hK7 _ _ ?_; clear hK7
   refine cReg ?_
   refine sMv F rfl rfl rfl ?_
   clear F a; intro a F
   refine sBin F rfl rfl rfl rfl (bAddN (j := 1) ?_) ?_
   focus omega
   clear F a; intro a F
   refine sAs F rfl rfl rfl ?_
   clear F a; intro a F
   refine sNil ?_
   exact ⟨4 - (j + 1), by omega, _, ⟨j + 1, _, rfl, rfl, by omega, final_step2 (by omega) hf, H⟩, F.to (by repeat (first | exact trivial | refine Le.cons rfl ?_))⟩
  ·
   replace h6 := of_decide_eq_false h6
   obtain rfl : j = 4 := by omega
   refine wp_exit ?_
   refine hK3 _ _ ?_; clear hK3
   refine cSeq (fun K8 hK8 => ?_)
   refine cReg ?_
   refine sFa (f := 1) (k := 36) Tryd.underlying41 rfl Tryd.sizeOf34 rfl rfl F rfl rfl rfl ?_
   clear F a; intro a F
   refine sLrB Tryd.underlying34 rfl Tryd.sizeOf34 F rfl rfl rfl (H.rangeB 2 _ 6 rfl (by omega)) ?_
   clear F a; intro a F
   refine sFa (f := 1) (k := 32) Tryd.underlying65 rfl Tryd.sizeOf34 rfl rfl F rfl rfl rfl ?_
   clear F a; intro a F
   refine sSrB H 0 Tryd.sizeOf34 F rfl rfl rfl rfl (by omega) ?_
   clear H; intro w H
   refine sNil ?_
   refine hK8 _ _ ?_; clear hK8
   refine cSeq (fun K9 hK9 => ?_)
   refine cReg ?_
   refine sLrB Tryd.underlying65 rfl Tryd.sizeOf65 F rfl rfl rfl (H.whole 0 rfl) ?_
   clear F a; intro a F
   refine sSrB H 1 Tryd.sizeOf65 F rfl rfl rfl rfl (by omega) ?_
   clear H; intro w H
   rw [lay_all] at H
   refine sNil ?_
   refine hK9 _ _ ?_; clear hK9
   refine wp_ret ?_
   refine bRetB Tryd.results30 F rfl Tryd.underlying65 rfl Tryd.sizeOf65 H 1 rfl ?_
   refine ⟨retB1 fun i hi => ?_, H.below⟩
   unfold lay
   by_cases h : 32 ≤ i ∧ i < 32 + 6
   · rw [if_pos h]; unfold finalP cut; rw [if_neg (by omega)]
   · rw [if_neg h, hf i (by omega), if_pos (by omega)]
set_option maxHeartbeats 2000000 in
theorem r13play_any (cs : List Value) (p : Prg) (w0 : World) (hP : ProgAt w0 cs p) (hd : deepC p.cond ≤ 9223372036854775807) (PA : Option Addr) (PC : Nat) (picks : List UInt8) (hB : BytesAt w0 PA picks) (hBn : picks.length ≤ 9223372036854775807) :
    Calls Tryd.prog 31 #[.agg cs.toArray, .slice PA picks.length PC] w0 fun e w' => ∃ A c, e = .returned (.tuple #[.agg (bs 38 (playF p picks)).toArray, .slice A (playO p picks).length c, .int .i64 (startE p)]) ∧ Own w0 none w' [.rws 3 1 (.slice A (playO p picks).length c) (intRows (playO p picks))] := by
  have H := Own.start w0 none
  obtain ⟨d1, d2, d3, d4, d5, d6, d7, d8, d9, d10, rfl⟩ := hP.len10
  refine enterF Tryd.func31 rfl Tryd.ntmps31 rfl (fun a F => ?_)
  refine cSeq (fun K1 hK1 => ?_)
  refine cReg ?_
  refine sBx H F rfl rfl rfl ?_
  clear F a H; intro b2 a w F H
  refine sAlB H zB65 F rfl rfl ?_
  clear F a H; intro b4 a w F H
  refine sAs F rfl rfl rfl ?_
  clear F a; intro a F
  refine sAs F rfl rfl rfl ?_
  clear F a; intro a F
  refine sNil ?_
  refine hK1 _ _ ?_; clear hK1
  refine cSeq (fun K2 hK2 => ?_)
  refine cReg ?_
  refine sLr Tryd.underlying29 rfl ?si F rfl rfl rfl (H.whole 1 rfl) ?_
  case si => exact info_size Tryd.sizeOf29
  clear F a; intro a F
  refine sCall Tryd.call19 F rfl rfl rfl (r13start_any _ p _ (hP.own H) hd) ?_
  rintro e w ⟨rfl, hb⟩
  replace H := H.grow hb; clear hb
  refine ⟨_, rfl, ?_⟩
  clear F a; intro a F
  refine sMv F rfl rfl rfl ?_
  clear F a; intro a F
  refine sExt F rfl rfl rfl rfl ?_
  clear F a; intro a F
  refine sExt F rfl rfl rfl rfl ?_
  clear F a; intro a F
  refine sAlB H zB41 F rfl rfl ?_
  clear F a H; intro b7 a w F H
  refine sSrB H 0 Tryd.sizeOf41 F rfl rfl rfl rfl (by omega) ?_
  clear H; intro w H
  rw [lay_all] at H
  refine sAs F rfl rfl rfl ?_
  clear F a; intro a F
  refine sNil ?_
  refine hK2 _ _ ?_; clear hK2
  refine cSeq (fun K3 hK3 => ?_)
  refine cSeq (fun K4 hK4 => ?_)
  refine cReg ?_
  refine sMv F rfl rfl rfl ?_
  clear F a; intro a F
  refine sBin F rfl rfl rfl rfl bNeq ?_
  clear F a; intro a F
  refine sNil ?_
  refine hK4 _ _ ?_; clear hK4
  refine cIf F rfl (fun h19 => ?_) (fun h19 => ?_)
  ·
   replace h19 := bneT h19
   have hp : rightErr p ≠ 0 := fun h => h19 (by rw [startE, if_pos h])
   refine cSeq (fun K5 hK5 => ?_)
   refine cReg ?_
   refine sBdB (places := [(0, 32), (32, 6)]) zB65 Tryd.underlying65 (by kernel_rfl) F rfl rfl rfl FillB.nil ?_
   clear F a; intro a F
   refine sMv F rfl rfl rfl ?_
   clear F a; intro a F
   refine sSrB H 1 Tryd.sizeOf65 F rfl rfl rfl rfl (by omega) ?_
   clear H; intro w H
   rw [lay_all] at H
   refine sAs F rfl rfl rfl ?_
   clear F a; intro a F
   refine sAs F rfl rfl rfl ?_
   clear F a; intro a F
   refine sNil ?_
   refine hK5 _ _ ?_; clear hK5
   refine wp_ret ?_
   simp only [Exit.then]
   refine bRetB2 Tryd.results31 F rfl rfl rfl Tryd.underlying65 rfl Tryd.sizeOf65 H 1 rfl ?_
   first
     | exact ⟨none, 0, by rw [playF, if_neg hp, playO, if_neg hp]; rfl, by rw [playO, if_neg hp]; exact (H.nilRws _ _).pick 0 rfl⟩
     | exact ⟨A, c, by rw [playF, if_pos hp, playO, if_pos hp, e1, startE, if_pos hp], by rw [playO, if_pos hp, e1]; exact H.pick 0 rfl⟩
  ·
   replace h19 := bneF h19
   have hp : rightErr p = 0 := by
     apply Decidable.byContradiction
     intro h
     rw [startE, if_neg h] at h19
     cases h19
   have hv := valid hp
   have eS : startS p = startP p := if_pos hp
   rw [eS] at H
   refine wp_skip ?_
   refine hK3 _ _ ?_; clear hK3
   refine cSeq (fun K6 hK6 => ?_)
   refine cReg ?_
   refine sAs F rfl rfl rfl ?_
   clear F a; intro a F
   replace H := H.nilRws 3 1
   refine sNil ?_
   refine hK6 _ _ ?_; clear hK6
   refine cSeq (fun K7 hK7 => ?_)
   refine cSeq (fun K8 hK8 => ?_)
   refine cReg ?_
   refine sAs F rfl rfl rfl ?_
   clear F a; intro a F
   refine sNil ?_
   refine hK8 _ _ ?_; clear hK8
   refine wp_block ?_
   refine cLoopR [1, 2, 4, 7] (fun m ups w => ∃ (s : By) (run : List Nat) (A : Option Addr) (c n : Nat), m = 48 - n ∧ ups = [(9, .slice A run.length c), (10, .int .i64 ((n : Nat) : Int))] ∧ rightS p s = true ∧ playR p picks = playP p picks (48 - n) s run ∧ mu p s ≤ 48 - n ∧ run.length = n ∧ n ≤ 48 ∧ Own w0 none w [.rws 3 1 (.slice A run.length c) (intRows run), .blk b7 (bs 142 s) 41, .blk b4 (bs 38 zb) 65, .blk b2 [d1, d2, d3, d4, d5, d6, d7, d8, d9, d10] 29]) F (48) [(9, .slice none 0 0), (10, .int .i64 ((0 : Nat) : Int))] (by repeat (first | exact SubR.nil | (apply SubR.cons; · rfl))) ?_ ?_ ?_
   · exact ⟨startP p, [], none, 0, 0, rfl, rfl, start_right hp, rfl, mu_start hp _, rfl, by omega, H⟩
   · repeat (first | exact trivial | refine Le.cons rfl ?_)
   clear F
   clear H
   intro m ups a w hI F
   obtain ⟨s, run, A, c, n, rfl, rfl, hr, hplay, hmu, hlen, hn48, H⟩ := hI
   have eM : movesP p s = enabledP p s := by rw [movesP, if_pos hr]
   refine cSeq (fun K9 hK9 => ?_)
   refine cSeq (fun K10 hK10 => ?_)
   refine cReg ?_
   refine sMv F rfl rfl rfl ?_
   clear F a; intro a F
   refine sBin F rfl rfl rfl rfl bLss ?_
   clear F a; intro a F
   refine sNil ?_
   refine hK10 _ _ ?_; clear hK10
   refine cIf F rfl (fun h23 => ?_) (fun h23 => ?_)
   ·
    replace h23 := of_decide_eq_true h23
    refine wp_skip ?_
    refine hK9 _ _ ?_; clear hK9
    refine cSeq (fun K11 hK11 => ?_)
    refine wp_block ?_
    refine cSeq (fun K12 hK12 => ?_)
    refine cReg ?_
    refine sLr Tryd.underlying29 rfl ?si F rfl rfl rfl (H.whole 3 rfl) ?_
    case si => exact info_size Tryd.sizeOf29
    clear F a; intro a F
    refine sLrB Tryd.underlying41 rfl Tryd.sizeOf41 F rfl rfl rfl (H.whole 1 rfl) ?_
    clear F a; intro a F
    refine sCall Tryd.call23 F rfl rfl rfl (r13moves_any _ p _ (hP.own H) hd s) ?_
    rintro e w ⟨A2, k2, rfl, H2⟩
    replace H := H.join H2; clear H2; rw [eM] at H; rw [eM]
    refine ⟨_, rfl, ?_⟩
    clear F a; intro a F
    refine sAs F rfl rfl rfl ?_
    clear F a; intro a F
    refine sNil ?_
    refine hK12 _ _ ?_; clear hK12
    refine cSeq (fun K13 hK13 => ?_)
    refine cSeq (fun K14 hK14 => ?_)
    refine cReg ?_
    refine sMv F rfl rfl rfl ?_
    clear F a; intro a F
    refine sLen Tryd.underlying44 F rfl rfl rfl ?_
    clear F a; intro a F
    refine sBin F rfl rfl rfl rfl bEql ?_
    clear F a; intro a F
    refine sNil ?_
    refine hK14 _ _ ?_; clear hK14
    refine cIf F rfl (fun h31 => ?_) (fun h31 => ?_)
    ·
     replace h31 := beqT h31
     have he : enabledP p s = [] := List.eq_nil_of_length_eq_zero (by omega)
     have e1 : playR p picks = (s, run) := by rw [hplay, play_end he]
     refine wp_exit ?_
     refine hK7 _ _ ?_; clear hK7
     refine cSeq (fun K15 hK15 => ?_)
     refine cReg ?_
     refine sLrB Tryd.underlying41 rfl Tryd.sizeOf41 F rfl rfl rfl (H.whole 2 rfl) ?_
     clear F a; intro a F
     refine sCall Tryd.call30 F rfl rfl rfl (r13final_any s _) ?_
     rintro e w ⟨rfl, hb⟩
     replace H := H.grow hb; clear hb
     refine ⟨_, rfl, ?_⟩
     clear F a; intro a F
     refine sMv F rfl rfl rfl ?_
     clear F a; intro a F
     refine sSrB H 3 Tryd.sizeOf65 F rfl rfl rfl rfl (by omega) ?_
     clear H; intro w H
     rw [lay_all] at H
     refine sAs F rfl rfl rfl ?_
     clear F a; intro a F
     refine sAs F rfl rfl rfl ?_
     clear F a; intro a F
     refine sNil ?_
     refine hK15 _ _ ?_; clear hK15
     refine wp_ret ?_
     refine bRetB2 Tryd.results31 F rfl rfl rfl Tryd.underlying65 rfl Tryd.sizeOf65 H 3 rfl ?_
     first
       | exact ⟨none, 0, by rw [playF, if_neg hp, playO, if_neg hp]; rfl, by rw [playO, if_neg hp]; exact (H.nilRws _ _).pick 0 rfl⟩
       | exact ⟨A, c, by rw [playF, if_pos hp, playO, if_pos hp, e1, startE, if_pos hp], by rw [playO, if_pos hp, e1]; exact H.pick 1 rfl⟩
    ·
     replace h31 := beqF h31
     have hne : enabledP p s ≠ [] := fun e => h31 (by rw [e]; rfl)
     have hpos : 0 < (enabledP p s).length := List.length_pos_iff.2 hne
     have hf : 48 - n = (48 - (n + 1)) + 1 ∨ n = 48 := by omega
     refine wp_skip ?_
     refine hK13 _ _ ?_; clear hK13
     refine cSeq (fun K16 hK16 => ?_)
     refine cReg ?_
     refine sAs F rfl rfl rfl ?_
     clear F a; intro a F
     refine sNil ?_
     refine hK16 _ _ ?_; clear hK16
     refine cSeq (fun K17 hK17 => ?_)
     refine cSeq (fun K18 hK18 => ?_)
     refine cReg ?_
     refine sMv F rfl rfl rfl ?_
     clear F a; intro a F
     refine sMv F rfl rfl rfl ?_
     clear F a; intro a F
     refine sLen Tryd.underlying23 F rfl rfl rfl ?_
     clear F a; intro a F
     refine sBin F rfl rfl rfl rfl bLss ?_
     clear F a; intro a F
     refine sNil ?_
     refine hK18 _ _ ?_; clear hK18
     refine cIf F rfl (fun h35 => ?_) (fun h35 => ?_)
     ·
      replace h35 := of_decide_eq_true h35
      obtain ⟨x, hx⟩ : ∃ x, picks[n]? = some x := ⟨_, List.getElem?_eq_getElem (by omega)⟩
      obtain ⟨bP, oP, rfl, hPx⟩ := hB.get hx
      have hq : x.toNat % (enabledP p s).length < (enabledP p s).length := Nat.mod_lt _ hpos
      obtain ⟨k, hk⟩ : ∃ k, (enabledP p s)[x.toNat % (enabledP p s).length]? = some k := ⟨_, List.getElem?_eq_getElem hq⟩
      have hpk := pick_some hx hk
      obtain ⟨bL, oL, rfl, hL⟩ := H.intAt 0 rfl hk
      have hmem : k ∈ enabledP p s := List.mem_of_getElem? hk
      obtain ⟨eM1, eE1⟩ := move_okR (p := p) (s := s) (k := k) (by rw [eM]; exact hmem)
      refine cReg ?_
      refine sMv F rfl rfl rfl ?_
      clear F a; intro a F
      refine sMv F rfl rfl rfl ?_
      clear F a; intro a F
      refine sIx Tryd.underlying23 Tryd.sizeOf5 F rfl rfl rfl rfl ?_ ?_
      focus (first | omega | decide | (simp; omega))
      clear F a; intro a F
      refine sLd Tryd.isAgg5 F rfl rfl rfl (H.arg hPx) ?_
      clear F a; intro a F
      refine sCv Tryd.underlying5 Tryd.underlying3 F rfl rfl rfl (wrapB _) ?_
      clear F a; intro a F
      refine sMv F rfl rfl rfl ?_
      clear F a; intro a F
      refine sLen Tryd.underlying44 F rfl rfl rfl ?_
      clear F a; intro a F
      refine sBin F rfl rfl rfl rfl (bRemN ?_) ?_
      focus omega
      clear F a; intro a F
      refine sAs F rfl rfl rfl ?_
      clear F a; intro a F
      refine sNil ?_
      refine hK17 _ _ ?_; clear hK17
      refine cSeq (fun K19 hK19 => ?_)
      refine cRegRO (by kernel_rfl) H ?_
      replace H := H.drew
      refine eTake (k := 0) (i := 0) rfl (by kernel_rfl) F rfl rfl rfl rfl (fun w H => rLr Tryd.underlying29 rfl ?si F rfl (H.whole 4 rfl)) (H.sel [0, 1, 2, 3, 4] rfl rfl) (fun _ _ _ h => h) ?_
      case si => exact info_size Tryd.sizeOf29
      clear F a; intro a F
      refine eTake (k := 1) (i := 1) rfl (by kernel_rfl) F rfl rfl rfl rfl (fun w H => rLrB Tryd.underlying41 rfl Tryd.sizeOf41 F rfl (H.whole 2 rfl)) (H.sel [0, 1, 2, 3, 4] rfl rfl) (fun _ _ _ h => h) ?_
      clear F a; intro a F
      refine eTakeF (k := 2) (i := 2) rfl (by kernel_rfl) F rfl rfl rfl (fun w => rMv F rfl) (H.sel [0, 1, 2, 3, 4] rfl rfl) (fun _ _ _ h => h) ?_
      clear F a; intro a F
      refine eTakeF (k := 3) (i := 3) rfl (by kernel_rfl) F rfl rfl rfl (fun w => rMv F rfl) (H.sel [0, 1, 2, 3, 4] rfl rfl) (fun _ _ _ h => h) ?_
      clear F a; intro a F
      refine eTakeF (k := 4) (i := 4) rfl (by kernel_rfl) F rfl rfl rfl (fun w => rIx Tryd.underlying44 Tryd.sizeOf3 F rfl rfl ?_) (H.sel [0, 1, 2, 3, 4] rfl rfl) (fun _ _ _ h => h) ?_
      focus exact hq
      clear F a; intro a F
      refine eTake (k := 5) (i := 5) rfl (by kernel_rfl) F rfl rfl rfl rfl (fun w H => rLd Tryd.isAgg3 F rfl (by obtain ⟨b', o', h1, h2⟩ := H.intAt 0 rfl hk; cases h1; exact h2)) (H.sel [0, 1, 2, 3, 4] rfl rfl) (fun _ _ _ h => h) ?_
      clear F a; intro a F
      refine eOne (k := 6) (i := 6) rfl (by kernel_rfl) F rfl (oCall Tryd.call24 F rfl rfl (r13move_any _ p _ (hP.own H) hd s k) ?_)
      rintro e w ⟨rfl, hb⟩
      replace H := H.grow hb; clear hb; rw [eM1, eE1]
      refine ⟨_, rfl, ?_⟩
      clear F a; intro a F
      refine ePartO (by kernel_rfl) H ?_
      refine eTakeF (k := 7) (i := 7) rfl (by kernel_rfl) F rfl rfl rfl (fun w => rMv F rfl) (H.sel [0, 1, 2, 3, 4] rfl rfl) (fun _ _ _ h => h) ?_
      clear F a; intro a F
      refine eTakeF (k := 8) (i := 8) rfl (by kernel_rfl) F rfl rfl rfl (fun w => rExt F rfl rfl) (H.sel [0, 1, 2, 3, 4] rfl rfl) (fun _ _ _ h => h) ?_
      clear F a; intro a F
      refine eTakeF (k := 9) (i := 9) rfl (by kernel_rfl) F rfl rfl rfl (fun w => rExt F rfl rfl) (H.sel [0, 1, 2, 3, 4] rfl rfl) (fun _ _ _ h => h) ?_
      clear F a; intro a F
      refine eOne (k := 10) (i := 10) rfl (by kernel_rfl) F rfl (oSrB H 2 Tryd.sizeOf41 F rfl rfl rfl (by omega) ?_)
      clear H; intro w H
      rw [lay_all] at H
      refine ePartO (by kernel_rfl) H ?_
      refine eNil (k := 11) (by kernel_rfl) ?_
      refine hK19 _ _ ?_; clear hK19
      refine cReg ?_
      refine sMv F rfl rfl rfl ?_
      clear F a; intro a F
      refine sMv F rfl rfl rfl ?_
      clear F a; intro a F
      refine sMv F rfl rfl rfl ?_
      clear F a; intro a F
      refine sIx Tryd.underlying44 Tryd.sizeOf3 F rfl rfl rfl rfl ?_ ?_
      focus exact hq
      clear F a; intro a F
      refine sLd Tryd.isAgg3 F rfl rfl rfl (by obtain ⟨b', o', h1, h2⟩ := H.intAt 0 rfl hk; cases h1; exact h2) ?_
      clear F a; intro a F
      refine sBs1 H Tryd.underlying44 Tryd.sizeOf3 Tryd.zeroValue3 rfl F rfl rfl rfl rfl ?_
      clear F a H; intro b59 a w F H
      refine sApp1 (bytes := 8) H 2 Tryd.underlying44 Tryd.typeInfo3 rfl rfl rfl rfl rfl rfl F rfl rfl rfl rfl rfl (H.whole 0 rfl) rfl ?s1 ?s2 ?_
      case s1 => first | rfl | (repeat (first | exact one_nil | (apply one_cons; · first | rfl | assumption | exact one_bif rfl rfl)))
      case s2 => (rw [intRows_length]; omega)
      clear F a H; intro A60 c60 a w F H
      refine sAs F rfl rfl rfl ?_
      clear F a; intro a F
      refine sNil ?_
      refine hK11 _ _ ?_; clear hK11
      refine cReg ?_
      refine sMv F rfl rfl rfl ?_
      clear F a; intro a F
      refine sBin F rfl rfl rfl rfl (bAddN (j := 1) ?_) ?_
      focus omega
      clear F a; intro a F
      refine sAs F rfl rfl rfl ?_
      clear F a; intro a F
      refine sNil ?_
      have hmu2 := mu_pos hp hmem
      have hn47 : n < 48 := by omega
      have hr2 : rightS p (stepP p s k) = true := by
        obtain ⟨l2, x2, hst⟩ := stepOf hp hmem
        exact hst.right hr
      have hpl : playR p picks = playP p picks (48 - (n + 1)) (stepP p s k) (run ++ [k]) := by
        rw [hplay, show 48 - n = (48 - (n + 1)) + 1 by omega, play_step (k := k) hne (by rw [hlen]; exact hpk)]
      simp only [← intRows_append, intRows_length] at H F
      exact ⟨_, by omega, _, ⟨stepP p s k, run ++ [k], A60, c60, n + 1, rfl, rfl, hr2, hpl, by omega, by simp [hlen], by omega, H.sel [2, 3, 4, 5] rfl rfl⟩, F.to (by repeat (first | exact trivial | refine Le.cons rfl ?_))⟩
     ·
      replace h35 := of_decide_eq_false h35
      have hq : 0 < (enabledP p s).length := hpos
      have hx : picks[n]? = none := List.getElem?_eq_none (by omega)
      obtain ⟨k, hk⟩ : ∃ k, (enabledP p s)[0]? = some k := ⟨_, List.getElem?_eq_getElem hq⟩
      have hpk := pick_none (n := n) hx hk
      obtain ⟨bL, oL, rfl, hL⟩ := H.intAt 0 rfl hk
      have hmem : k ∈ enabledP p s := List.mem_of_getElem? hk
      obtain ⟨eM1, eE1⟩ := move_okR (p := p) (s := s) (k := k) (by rw [eM]; exact hmem)
      refine wp_skip ?_
      refine hK17 _ _ ?_; clear hK17
      refine cSeq (fun K20 hK20 => ?_)
      refine cRegRO (by kernel_rfl) H ?_
      replace H := H.drew
      refine eTake (k := 0) (i := 0) rfl (by kernel_rfl) F rfl rfl rfl rfl (fun w H => rLr Tryd.underlying29 rfl ?si F rfl (H.whole 4 rfl)) (H.sel [0, 1, 2, 3, 4] rfl rfl) (fun _ _ _ h => h) ?_
      case si => exact info_size Tryd.sizeOf29
      clear F a; intro a F
      refine eTake (k := 1) (i := 1) rfl (by kernel_rfl) F rfl rfl rfl rfl (fun w H => rLrB Tryd.underlying41 rfl Tryd.sizeOf41 F rfl (H.whole 2 rfl)) (H.sel [0, 1, 2, 3, 4] rfl rfl) (fun _ _ _ h => h) ?_
      clear F a; intro a F
      refine eTakeF (k := 2) (i := 2) rfl (by kernel_rfl) F rfl rfl rfl (fun w => rMv F rfl) (H.sel [0, 1, 2, 3, 4] rfl rfl) (fun _ _ _ h => h) ?_
      clear F a; intro a F
      refine eTakeF (k := 3) (i := 3) rfl (by kernel_rfl) F rfl rfl rfl (fun w => rMv F rfl) (H.sel [0, 1, 2, 3, 4] rfl rfl) (fun _ _ _ h => h) ?_
      clear F a; intro a F
      refine eTakeF (k := 4) (i := 4) rfl (by kernel_rfl) F rfl rfl rfl (fun w => rIx Tryd.underlying44 Tryd.sizeOf3 F rfl rfl ?_) (H.sel [0, 1, 2, 3, 4] rfl rfl) (fun _ _ _ h => h) ?_
      focus exact hq
      clear F a; intro a F
      refine eTake (k := 5) (i := 5) rfl (by kernel_rfl) F rfl rfl rfl rfl (fun w H => rLd Tryd.isAgg3 F rfl (by obtain ⟨b', o', h1, h2⟩ := H.intAt 0 rfl hk; cases h1; exact h2)) (H.sel [0, 1, 2, 3, 4] rfl rfl) (fun _ _ _ h => h) ?_
      clear F a; intro a F
      refine eOne (k := 6) (i := 6) rfl (by kernel_rfl) F rfl (oCall Tryd.call24 F rfl rfl (r13move_any _ p _ (hP.own H) hd s k) ?_)
      rintro e w ⟨rfl, hb⟩
      replace H := H.grow hb; clear hb; rw [eM1, eE1]
      refine ⟨_, rfl, ?_⟩
      clear F a; intro a F
      refine ePartO (by kernel_rfl) H ?_
      refine eTakeF (k := 7) (i := 7) rfl (by kernel_rfl) F rfl rfl rfl (fun w => rMv F rfl) (H.sel [0, 1, 2, 3, 4] rfl rfl) (fun _ _ _ h => h) ?_
      clear F a; intro a F
      refine eTakeF (k := 8) (i := 8) rfl (by kernel_rfl) F rfl rfl rfl (fun w => rExt F rfl rfl) (H.sel [0, 1, 2, 3, 4] rfl rfl) (fun _ _ _ h => h) ?_
      clear F a; intro a F
      refine eTakeF (k := 9) (i := 9) rfl (by kernel_rfl) F rfl rfl rfl (fun w => rExt F rfl rfl) (H.sel [0, 1, 2, 3, 4] rfl rfl) (fun _ _ _ h => h) ?_
      clear F a; intro a F
      refine eOne (k := 10) (i := 10) rfl (by kernel_rfl) F rfl (oSrB H 2 Tryd.sizeOf41 F rfl rfl rfl (by omega) ?_)
      clear H; intro w H
      rw [lay_all] at H
      refine ePartO (by kernel_rfl) H ?_
      refine eNil (k := 11) (by kernel_rfl) ?_
      refine hK20 _ _ ?_; clear hK20
      refine cReg ?_
      refine sMv F rfl rfl rfl ?_
      clear F a; intro a F
      refine sMv F rfl rfl rfl ?_
      clear F a; intro a F
      refine sMv F rfl rfl rfl ?_
      clear F a; intro a F
      refine sIx Tryd.underlying44 Tryd.sizeOf3 F rfl rfl rfl rfl ?_ ?_
      focus exact hq
      clear F a; intro a F
      refine sLd Tryd.isAgg3 F rfl rfl rfl (by obtain ⟨b', o', h1, h2⟩ := H.intAt 0 rfl hk; cases h1; exact h2) ?_
      clear F a; intro a F
      refine sBs1 H Tryd.underlying44 Tryd.sizeOf3 Tryd.zeroValue3 rfl F rfl rfl rfl rfl ?_
      clear F a H; intro b59 a w F H
      refine sApp1 (bytes := 8) H 2 Tryd.underlying44 Tryd.typeInfo3 rfl rfl rfl rfl rfl rfl F rfl rfl rfl rfl rfl (H.whole 0 rfl) rfl ?s1 ?s2 ?_
      case s1 => first | rfl | (repeat (first | exact one_nil | (apply one_cons; · first | rfl | assumption | exact one_bif rfl rfl)))
      case s2 => (rw [intRows_length]; omega)
      clear F a H; intro A60 c60 a w F H
      refine sAs F rfl rfl rfl ?_
      clear F a; intro a F
      refine sNil ?_
      refine hK11 _ _ ?_; clear hK11
      refine cReg ?_
      refine sMv F rfl rfl rfl ?_
      clear F a; intro a F
      refine sBin F rfl rfl rfl rfl (bAddN (j := 1) ?_) ?_
      focus omega
      clear F a; intro a F
      refine sAs F rfl rfl rfl ?_
      clear F a; intro a F
      refine sNil ?_
      have hmu2 := mu_pos hp hmem
      have hn47 : n < 48 := by omega
      have hr2 : rightS p (stepP p s k) = true := by
        obtain ⟨l2, x2, hst⟩ := stepOf hp hmem
        exact hst.right hr
      have hpl : playR p picks = playP p picks (48 - (n + 1)) (stepP p s k) (run ++ [k]) := by
        rw [hplay, show 48 - n = (48 - (n + 1)) + 1 by omega, play_step (k := k) hne (by rw [hlen]; exact hpk)]
      simp only [← intRows_append, intRows_length] at H F
      exact ⟨_, by omega, _, ⟨stepP p s k, run ++ [k], A60, c60, n + 1, rfl, rfl, hr2, hpl, by omega, by simp [hlen], by omega, H.sel [2, 3, 4, 5] rfl rfl⟩, F.to (by repeat (first | exact trivial | refine Le.cons rfl ?_))⟩
   ·
    replace h23 := of_decide_eq_false h23
    have he : enabledP p s = [] := by
      cases hq : enabledP p s with
      | nil => rfl
      | cons k r => have := mu_pos hp (k := k) (s := s) (by rw [hq]; simp); omega
    have e1 : playR p picks = (s, run) := by rw [hplay, play_end he]
    refine wp_exit ?_
    refine hK7 _ _ ?_; clear hK7
    refine cSeq (fun K21 hK21 => ?_)
    refine cReg ?_
    refine sLrB Tryd.underlying41 rfl Tryd.sizeOf41 F rfl rfl rfl (H.whole 1 rfl) ?_
    clear F a; intro a F
    refine sCall Tryd.call30 F rfl rfl rfl (r13final_any s _) ?_
    rintro e w ⟨rfl, hb⟩
    replace H := H.grow hb; clear hb
    refine ⟨_, rfl, ?_⟩
    clear F a; intro a F
    refine sMv F rfl rfl rfl ?_
    clear F a; intro a F
    refine sSrB H 2 Tryd.sizeOf65 F rfl rfl rfl rfl (by omega) ?_
    clear H; intro w H
    rw [lay_all] at H
    refine sAs F rfl rfl rfl ?_
    clear F a; intro a F
    refine sAs F rfl rfl rfl ?_
    clear F a; intro a F
    refine sNil ?_
    refine hK21 _ _ ?_; clear hK21
    refine wp_ret ?_
    refine bRetB2 Tryd.results31 F rfl rfl rfl Tryd.underlying65 rfl Tryd.sizeOf65 H 2 rfl ?_
    first
      | exact ⟨none, 0, by rw [playF, if_neg hp, playO, if_neg hp]; rfl, by rw [playO, if_neg hp]; exact (H.nilRws _ _).pick 0 rfl⟩
      | exact ⟨A, c, by rw [playF, if_pos hp, playO, if_pos hp, e1, startE, if_pos hp], by rw [playO, if_pos hp, e1]; exact H.pick 0 rfl⟩
end Go.Proofs.YtfemniboggnbiaaDoor
