/-
  WALK2. Layer 13's reference: Start, May, Moves, Move, Final, Play. Conditions: the program lies in memory; its condition's depth is a number that an int holds.
-/
import Derived.Test.YtfemniboggnbiaaDoorRfE
import Derived.Test.YtfemniboggnbiaaDoorLwK
set_option linter.unusedSimpArgs false
set_option linter.unusedVariables false
namespace Go.Proofs.YtfemniboggnbiaaDoor
open Go.RowKit
set_option maxRecDepth 100000

theorem over_okR {p : Prg} {s : By} (h : rightS p s = true) : (rightS p s && (enabledP p s).isEmpty) = (((movesP p s).length : Int) == 0) := by
  rw [movesP, if_pos h, h]
  cases enabledP p s with
  | nil => rfl
  | cons x r => simp; omega
theorem movable_ofR {p : Prg} {s : By} {t : Int} (h : movable p s t = true) : ∃ k : Nat, t = k ∧ k ∈ movesP p s := by
  unfold movable at h
  obtain ⟨k, h1, h2⟩ := List.any_eq_true.1 h
  exact ⟨k, (by simpa using h2 : (k : Int) = t).symm, h1⟩
theorem loc_ltR {p : Prg} (h : rightErr p = 0) {t : Nat} {l : List Ins} {i : Nat} {x : Ins} (hl : p.threads[t]? = some l) (hx : l[i]? = some x) : x.loc.toNat < 6 := by
  have hv := valid h
  have hi := inses_at (hv.ins t l hl) hx
  have h1 : (x == x.needed) = true := ins_cond hi 1 (by omega)
  have h1 := eq_of_beq h1
  have h3 : (!hasB x.op 2 || decide ((x.loc.toNat : Int) < (p.locs.length : Int))) = true := ins_cond hi 3 (by omega)
  cases hb : hasB x.op 2 with
  | true =>
    rw [hb] at h3
    have : ((x.loc.toNat : Int) < (p.locs.length : Int)) := by simpa using h3
    have := hv.locs6
    omega
  | false =>
    have : x.loc = x.needed.loc := by rw [← h1]
    simp only [Ins.needed, hb, cond_false] at this
    rw [this]; decide
theorem move_okR {p : Prg} {s : By} {k : Nat} (h : k ∈ movesP p s) : moveS p s (k : Int) = stepP p s k ∧ moveE p s (k : Int) = 0 := by
  obtain ⟨j, hj⟩ := List.getElem?_of_mem h
  exact ⟨by rw [moveS, movable_at hj, if_pos rfl, Int.toNat_natCast], by rw [moveE, movable_at hj, if_pos rfl]⟩
theorem lay_step {p : Prg} {k : Nat} {x : UInt8} (hx : p.init[k]? = some x) : put (lay zb 36 k (ofL p.init)) (36 + k) x = lay zb 36 (k + 1) (ofL p.init) := by
  funext i
  unfold put lay
  by_cases h : i = 36 + k
  · rw [if_pos h, if_pos (by omega)]
    subst h
    unfold ofL
    rw [show 36 + k - 36 = k by omega, List.getD_eq_getElem?_getD, hx]; rfl
  · rw [if_neg h]
    by_cases h2 : 36 ≤ i ∧ i < 36 + k
    · rw [if_pos h2, if_pos (by omega)]
    · rw [if_neg h2, if_neg (by omega)]
set_option maxHeartbeats 1000000 in
theorem r13start_any (cs : List Value) (p : Prg) (w0 : World) (hP : ProgAt w0 cs p) (hd : deepC p.cond ≤ 9223372036854775807) :
    Calls Tryd.prog 19 #[.agg cs.toArray] w0 fun e w' => e = .returned (.tuple #[.agg (bs 142 (startS p)).toArray, .int .i64 (startE p)]) ∧ Below w0.heap.size w0 w' := by
  have H := Own.start w0 none
  have hP0 := hP
  obtain ⟨LA, LC, IA, IC, TA, TC, h, ccs, hp⟩ := hP
  obtain ⟨c1, c2, c3, c4, c5, rfl⟩ := len5 (condAt_len hp.cond)
  have hcs := hp.cs
  subst hcs
  refine enterF Tryd.func19 rfl Tryd.ntmps19 rfl (fun a F => ?_)
  refine cSeq (fun K1 hK1 => ?_)
  refine cReg ?_
  refine sBx H F rfl rfl rfl ?_
  clear F a H; intro b1 a w F H
  refine sAlB H zB41 F rfl rfl ?_
  clear F a H; intro b2 a w F H
  refine sAs F rfl rfl rfl ?_
  clear F a; intro a F
  refine sNil ?_
  refine hK1 _ _ ?_; clear hK1
  refine cSeq (fun K2 hK2 => ?_)
  refine cSeq (fun K3 hK3 => ?_)
  refine cReg ?_
  refine sLr Tryd.underlying29 rfl ?si F rfl rfl rfl (H.whole 1 rfl) ?_
  case si => exact info_size Tryd.sizeOf29
  clear F a; intro a F
  refine sCall Tryd.call39 F rfl rfl rfl (rright_any _ p _ (hP0.own H) hd) ?_
  rintro e w ⟨rfl, hb⟩
  replace H := H.grow hb; clear hb
  refine ⟨_, rfl, ?_⟩
  clear F a; intro a F
  refine sBin F rfl rfl rfl rfl bNeq ?_
  clear F a; intro a F
  refine sNil ?_
  refine hK3 _ _ ?_; clear hK3
  refine cIf F rfl (fun h8 => ?_) (fun h8 => ?_)
  ·
   replace h8 := bneT h8
   refine cSeq (fun K4 hK4 => ?_)
   refine cReg ?_
   refine sBdB (places := [(0, 36), (36, 6), (42, 96), (138, 4)]) zB41 Tryd.underlying41 (by kernel_rfl) F rfl rfl rfl FillB.nil ?_
   clear F a; intro a F
   refine sSrB H 0 Tryd.sizeOf41 F rfl rfl rfl rfl (by omega) ?_
   clear H; intro w H
   rw [lay_all] at H
   refine sAs F rfl rfl rfl ?_
   clear F a; intro a F
   refine sNil ?_
   refine hK4 _ _ ?_; clear hK4
   refine wp_ret ?_
   simp only [Exit.then]
   refine bRetB1 Tryd.results19 F rfl rfl Tryd.underlying41 rfl Tryd.sizeOf41 H 0 rfl ?_
   first
     | exact ⟨by rw [startS, startE, if_neg h8, if_neg h8], H.below⟩
     | exact ⟨by rw [startS, startE, if_pos h8, if_pos h8, startP, Nat.min_eq_left (by omega)], H.below⟩
  ·
   replace h8 := bneF h8
   have hp0 : rightErr p = 0 := h8
   have hv := valid hp0
   have hv6 := hv.locs6
   have hvi := hv.init
   refine wp_skip ?_
   refine hK2 _ _ ?_; clear hK2
   refine cSeq (fun K5 hK5 => ?_)
   refine cReg ?_
   refine sAlB H zB41 F rfl rfl ?_
   clear F a H; intro b4 a w F H
   refine sNil ?_
   refine hK5 _ _ ?_; clear hK5
   refine cSeq (fun K6 hK6 => ?_)
   refine cSeq (fun K7 hK7 => ?_)
   refine cReg ?_
   refine sAs F rfl rfl rfl ?_
   clear F a; intro a F
   refine sNil ?_
   refine hK7 _ _ ?_; clear hK7
   refine wp_block ?_
   refine cLoopR [1, 2, 4] (fun m ups w => ∃ k : Nat, m = p.init.length - k ∧ ups = [(5, .int .i64 ((k : Nat) : Int))] ∧ k ≤ p.init.length ∧ Own w0 none w [.blk b4 (bs 142 (lay zb 36 k (ofL p.init))) 41, .blk b2 (bs 142 zb) 41, .blk b1 ([.string p.name, .slice LA p.locs.length LC, .slice IA p.init.length IC, .slice TA p.threads.length TC, B8 p.ask] ++ [c1, c2, c3, c4, c5]) 29]) F (p.init.length) [(5, .int .i64 ((0 : Nat) : Int))] (by repeat (first | exact SubR.nil | (apply SubR.cons; · rfl))) ?_ ?_ ?_
   · (refine ⟨0, rfl, rfl, by omega, ?_⟩; rw [show lay zb 36 0 (ofL p.init) = zb by (funext i; unfold lay; rw [if_neg (by omega)])]; exact H)
   · repeat (first | exact trivial | refine Le.cons rfl ?_)
   clear F
   clear H
   intro m ups a w hI F
   obtain ⟨k, rfl, rfl, hk, H⟩ := hI
   refine cSeq (fun K8 hK8 => ?_)
   refine cSeq (fun K9 hK9 => ?_)
   refine cReg ?_
   refine sMv F rfl rfl rfl ?_
   clear F a; intro a F
   refine sFa (f := 2) (k := 2) Tryd.underlying29 rfl Tryd.sizeOf23 rfl rfl F rfl rfl rfl ?_
   clear F a; intro a F
   refine sLd Tryd.isAgg23 F rfl rfl rfl (H.cell 2 rfl rfl) ?_
   clear F a; intro a F
   refine sLen Tryd.underlying23 F rfl rfl rfl ?_
   clear F a; intro a F
   refine sBin F rfl rfl rfl rfl bLss ?_
   clear F a; intro a F
   refine sNil ?_
   refine hK9 _ _ ?_; clear hK9
   refine cIf F rfl (fun h14 => ?_) (fun h14 => ?_)
   ·
    replace h14 := of_decide_eq_true h14
    have hkl : k < p.init.length := by omega
    obtain ⟨x, hx⟩ : ∃ x, p.init[k]? = some x := ⟨_, List.getElem?_eq_getElem hkl⟩
    obtain ⟨bx, ox, rfl, hc⟩ := hp.init k [B8 x] (by rw [List.getElem?_map, hx]; rfl)
    have hc0 := hc 0 _ rfl
    rw [Nat.add_zero] at hc0
    refine wp_skip ?_
    refine hK8 _ _ ?_; clear hK8
    refine cSeq (fun K10 hK10 => ?_)
    refine wp_block ?_
    refine cReg ?_
    refine sMv F rfl rfl rfl ?_
    clear F a; intro a F
    refine sFa (f := 2) (k := 2) Tryd.underlying29 rfl Tryd.sizeOf23 rfl rfl F rfl rfl rfl ?_
    clear F a; intro a F
    refine sLd Tryd.isAgg23 F rfl rfl rfl (H.cell 2 rfl rfl) ?_
    clear F a; intro a F
    refine sMv F rfl rfl rfl ?_
    clear F a; intro a F
    refine sIx Tryd.underlying23 Tryd.sizeOf5 F rfl rfl rfl rfl ?_ ?_
    focus (first | omega | decide | (simp; omega))
    clear F a; intro a F
    refine sLd Tryd.isAgg5 F rfl rfl rfl (H.arg hc0) ?_
    clear F a; intro a F
    refine sFa (f := 1) (k := 36) Tryd.underlying41 rfl Tryd.sizeOf34 rfl rfl F rfl rfl rfl ?_
    clear F a; intro a F
    refine sIa1 Tryd.underlying34 Tryd.sizeOf5 F rfl rfl rfl rfl ?_ ?_
    focus (first | omega | decide | (simp; omega))
    clear F a; intro a F
    refine sStB H 0 Tryd.sizeOf5 F rfl rfl rfl rfl (by omega) ?_
    clear H; intro w H
    refine sNil ?_
    refine hK10 _ _ ?_; clear hK10
    refine cReg ?_
    refine sMv F rfl rfl rfl ?_
    clear F a; intro a F
    refine sBin F rfl rfl rfl rfl (bAddN (j := 1) ?_) ?_
    focus omega
    clear F a; intro a F
    refine sAs F rfl rfl rfl ?_
    clear F a; intro a F
    refine sNil ?_
    have e := lay_step hx
    exact ⟨_, by omega, _, ⟨k + 1, rfl, rfl, by omega, by rw [← e]; exact H⟩, F.to (by repeat (first | exact trivial | refine Le.cons rfl ?_))⟩
   ·
    replace h14 := of_decide_eq_false h14
    obtain rfl : k = p.init.length := by omega
    refine wp_exit ?_
    refine hK6 _ _ ?_; clear hK6
    refine cSeq (fun K11 hK11 => ?_)
    refine cReg ?_
    refine sLrB Tryd.underlying41 rfl Tryd.sizeOf41 F rfl rfl rfl (H.whole 0 rfl) ?_
    clear F a; intro a F
    refine sSrB H 1 Tryd.sizeOf41 F rfl rfl rfl rfl (by omega) ?_
    clear H; intro w H
    rw [lay_all] at H
    refine sAs F rfl rfl rfl ?_
    clear F a; intro a F
    refine sNil ?_
    refine hK11 _ _ ?_; clear hK11
    refine wp_ret ?_
    refine bRetB1 Tryd.results19 F rfl rfl Tryd.underlying41 rfl Tryd.sizeOf41 H 1 rfl ?_
    first
      | exact ⟨by rw [startS, startE, if_neg h8, if_neg h8], H.below⟩
      | exact ⟨by rw [startS, startE, if_pos h8, if_pos h8, startP, Nat.min_eq_left (by omega)], H.below⟩
def mayI (p : Prg) (s : By) (t : Int) : Bool := decide (0 ≤ t) && mayP p s t.toNat
set_option maxHeartbeats 1000000 in
theorem rmay_any (cs : List Value) (p : Prg) (w0 : World) (hP : ProgAt w0 cs p) (h4 : p.threads.length ≤ 4) (s : By) (t : Int) :
    Calls Tryd.prog 43 #[.agg cs.toArray, .agg (bs 142 s).toArray, .int .i64 t] w0 fun e w' => e = .returned (.bool (mayI p s t)) ∧ Below w0.heap.size w0 w' := by
  have H := Own.start w0 none
  obtain ⟨LA, LC, IA, IC, TA, TC, h, ccs, hp⟩ := hP
  obtain ⟨c1, c2, c3, c4, c5, rfl⟩ := len5 (condAt_len hp.cond)
  have hcs := hp.cs
  subst hcs
  by_cases h0 : 0 ≤ t
  · obtain ⟨k, rfl⟩ : ∃ k : Nat, t = k := ⟨t.toNat, by omega⟩
    refine enterF Tryd.func43 rfl Tryd.ntmps43 rfl (fun a F => ?_)
    refine cSeq (fun K1 hK1 => ?_)
    refine cReg ?_
    refine sBx H F rfl rfl rfl ?_
    clear F a H; intro b3 a w F H
    refine sBxB H F rfl rfl rfl ?_
    clear F a H; intro b4 a w F H
    refine sAs F rfl rfl rfl ?_
    clear F a; intro a F
    refine sNil ?_
    refine hK1 _ _ ?_; clear hK1
    refine cSeq (fun K2 hK2 => ?_)
    refine cRegRO (by kernel_rfl) H ?_
    replace H := H.drew
    refine eTakeF (k := 0) (i := 0) rfl (by kernel_rfl) F rfl rfl rfl (fun w => rMv F rfl) (H.sel [0, 1] rfl rfl) (fun _ _ _ h => h) ?_
    clear F a; intro a F
    refine eTakeF (k := 1) (i := 1) rfl (by kernel_rfl) F rfl rfl rfl (fun w => rBin F rfl rfl bGeq) (H.sel [0, 1] rfl rfl) (fun _ _ _ h => h) ?_
    clear F a; intro a F
    refine eTakeF (k := 2) (i := 2) rfl (by kernel_rfl) F rfl rfl rfl (fun w => rMv F rfl) (H.sel [0, 1] rfl rfl) (fun _ _ _ h => h) ?_
    clear F a; intro a F
    refine F.split 9 rfl ?_ ?_ <;> (clear F; intro h9 F)
    ·
     replace h9 := of_decide_eq_true h9
     refine eTakeF (k := 3) (i := 3) rfl (by kernel_rfl) F rfl rfl rfl (fun w => rMv F rfl) (H.sel [0, 1] rfl rfl) (fun _ _ _ h => h) ?_
     clear F a; intro a F
     refine eTakeF (k := 4) (i := 4) rfl (by kernel_rfl) F rfl rfl rfl (fun w => rFa (f := 3) (k := 3) Tryd.underlying29 rfl Tryd.sizeOf24 rfl rfl F rfl) (H.sel [0, 1] rfl rfl) (fun _ _ _ h => h) ?_
     clear F a; intro a F
     refine eTake (k := 5) (i := 5) rfl (by kernel_rfl) F rfl rfl rfl rfl (fun w H => rLd Tryd.isAgg24 F rfl (H.cell 1 rfl rfl)) (H.sel [0, 1] rfl rfl) (fun _ _ _ h => h) ?_
     clear F a; intro a F
     refine eTake (k := 6) (i := 6) rfl (by kernel_rfl) F rfl rfl rfl rfl (fun w H => rLen Tryd.underlying24 F rfl) (H.sel [0, 1] rfl rfl) (fun _ _ _ h => h) ?_
     clear F a; intro a F
     refine eTakeF (k := 7) (i := 7) rfl (by kernel_rfl) F rfl rfl rfl (fun w => rBin F rfl rfl bLss) (H.sel [0, 1] rfl rfl) (fun _ _ _ h => h) ?_
     clear F a; intro a F
     refine eTakeF (k := 8) (i := 8) rfl (by kernel_rfl) F rfl rfl rfl (fun w => rPk F rfl rfl) (H.sel [0, 1] rfl rfl) (fun _ _ _ h => h) ?_
     clear F a; intro a F
     refine eTakeF (k := 9) (i := 9) rfl (by kernel_rfl) F rfl rfl rfl (fun w => rMv F rfl) (H.sel [0, 1] rfl rfl) (fun _ _ _ h => h) ?_
     clear F a; intro a F
     refine F.split 16 rfl ?_ ?_ <;> (clear F; intro h16 F)
     ·
      replace h16 := of_decide_eq_true h16
      have hkl : k < p.threads.length := by omega
      obtain ⟨l, hl⟩ : ∃ l, p.threads[k]? = some l := ⟨_, List.getElem?_eq_getElem hkl⟩
      obtain ⟨bT, oT, BT, CT, rfl, hT1, hT2, hT3⟩ := hp.threads k l hl
      refine eTakeF (k := 10) (i := 10) rfl (by kernel_rfl) F rfl rfl rfl (fun w => rMv F rfl) (H.sel [0, 1] rfl rfl) (fun _ _ _ h => h) ?_
      clear F a; intro a F
      refine eTakeF (k := 11) (i := 11) rfl (by kernel_rfl) F rfl rfl rfl (fun w => rFa (f := 0) (k := 0) Tryd.underlying41 rfl Tryd.sizeOf33 rfl rfl F rfl) (H.sel [0, 1] rfl rfl) (fun _ _ _ h => h) ?_
      clear F a; intro a F
      refine eTakeF (k := 12) (i := 12) rfl (by kernel_rfl) F rfl rfl rfl (fun w => rIaZ Tryd.underlying33 Tryd.sizeOf32 F rfl rfl ?_) (H.sel [0, 1] rfl rfl) (fun _ _ _ h => h) ?_
      focus (first | omega | decide | (simp; omega))
      clear F a; intro a F
      refine eTakeF (k := 13) (i := 13) rfl (by kernel_rfl) F rfl rfl rfl (fun w => rFaZ (f := 0) Tryd.underlying32 rfl Tryd.sizeOf5 rfl rfl F rfl) (H.sel [0, 1] rfl rfl) (fun _ _ _ h => h) ?_
      clear F a; intro a F
      refine eTake (k := 14) (i := 14) rfl (by kernel_rfl) F rfl rfl rfl rfl (fun w H => rLd Tryd.isAgg5 F rfl (H.cellB 0 rfl (by omega))) (H.sel [0, 1] rfl rfl) (fun _ _ _ h => h) ?_
      clear F a; intro a F
      refine eTakeF (k := 15) (i := 15) rfl (by kernel_rfl) F rfl rfl rfl (fun w => rCv Tryd.underlying5 Tryd.underlying3 F rfl (wrapB _)) (H.sel [0, 1] rfl rfl) (fun _ _ _ h => h) ?_
      clear F a; intro a F
      refine eTakeF (k := 16) (i := 16) rfl (by kernel_rfl) F rfl rfl rfl (fun w => rFa (f := 3) (k := 3) Tryd.underlying29 rfl Tryd.sizeOf24 rfl rfl F rfl) (H.sel [0, 1] rfl rfl) (fun _ _ _ h => h) ?_
      clear F a; intro a F
      refine eTake (k := 17) (i := 17) rfl (by kernel_rfl) F rfl rfl rfl rfl (fun w H => rLd Tryd.isAgg24 F rfl (H.cell 1 rfl rfl)) (H.sel [0, 1] rfl rfl) (fun _ _ _ h => h) ?_
      clear F a; intro a F
      refine eTakeF (k := 18) (i := 18) rfl (by kernel_rfl) F rfl rfl rfl (fun w => rMv F rfl) (H.sel [0, 1] rfl rfl) (fun _ _ _ h => h) ?_
      clear F a; intro a F
      refine eTakeF (k := 19) (i := 19) rfl (by kernel_rfl) F rfl rfl rfl (fun w => rIx Tryd.underlying24 Tryd.sizeOf53 F rfl rfl ?_) (H.sel [0, 1] rfl rfl) (fun _ _ _ h => h) ?_
      focus (first | omega | decide | (simp; omega))
      clear F a; intro a F
      refine eTake (k := 20) (i := 20) rfl (by kernel_rfl) F rfl rfl rfl rfl (fun w H => rLd Tryd.isAgg53 F rfl (H.arg hT1)) (H.sel [0, 1] rfl rfl) (fun _ _ _ h => h) ?_
      clear F a; intro a F
      refine eTake (k := 21) (i := 21) rfl (by kernel_rfl) F rfl rfl rfl rfl (fun w H => rLen Tryd.underlying53 F rfl) (H.sel [0, 1] rfl rfl) (fun _ _ _ h => h) ?_
      clear F a; intro a F
      refine eTakeF (k := 22) (i := 22) rfl (by kernel_rfl) F rfl rfl rfl (fun w => rBin F rfl rfl bLss) (H.sel [0, 1] rfl rfl) (fun _ _ _ h => h) ?_
      clear F a; intro a F
      refine eTakeF (k := 23) (i := 23) rfl (by kernel_rfl) F rfl rfl rfl (fun w => rPk F rfl rfl) (H.sel [0, 1] rfl rfl) (fun _ _ _ h => h) ?_
      clear F a; intro a F
      refine eTakeF (k := 24) (i := 24) rfl (by kernel_rfl) F rfl rfl rfl (fun w => rAs F rfl) (H.sel [0, 1] rfl rfl) (fun _ _ _ h => h) ?_
      clear F a; intro a F
      refine eNil (k := 25) (by kernel_rfl) ?_
      refine hK2 _ _ ?_; clear hK2
      refine wp_ret ?_
      refine bRet Tryd.results43 F rfl ?_
      refine ⟨retB ?_, H.below⟩
      clear F H
      first
        | (exfalso; omega)
        | (rw [mayI, decide_eq_true h0, Bool.true_and, Int.toNat_natCast, mayP_at hl, Bool.eq_iff_iff]; simp [cut]; done)
        | (rw [mayI, decide_eq_true h0, Bool.true_and, Int.toNat_natCast, mayP_at hl, Bool.eq_iff_iff]; simp [cut]; omega)
        | (rw [mayI, Int.toNat_natCast, mayP, List.getElem?_eq_none (by omega)]; simp)
     ·
      replace h16 := of_decide_eq_false h16
      refine eSkip (k := 10) (i := 10) rfl (by kernel_rfl) F rfl rfl rfl (H.sel [0, 1] rfl rfl) (fun _ _ _ h => h) ?_
      clear F a; intro a F
      refine eSkip (k := 11) (i := 11) rfl (by kernel_rfl) F rfl rfl rfl (H.sel [0, 1] rfl rfl) (fun _ _ _ h => h) ?_
      clear F a; intro a F
      refine eSkip (k := 12) (i := 12) rfl (by kernel_rfl) F rfl rfl rfl (H.sel [0, 1] rfl rfl) (fun _ _ _ h => h) ?_
      clear F a; intro a F
      refine eSkip (k := 13) (i := 13) rfl (by kernel_rfl) F rfl rfl rfl (H.sel [0, 1] rfl rfl) (fun _ _ _ h => h) ?_
      clear F a; intro a F
      refine eSkip (k := 14) (i := 14) rfl (by kernel_rfl) F rfl rfl rfl (H.sel [0, 1] rfl rfl) (fun _ _ _ h => h) ?_
      clear F a; intro a F
      refine eSkip (k := 15) (i := 15) rfl (by kernel_rfl) F rfl rfl rfl (H.sel [0, 1] rfl rfl) (fun _ _ _ h => h) ?_
      clear F a; intro a F
      refine eSkip (k := 16) (i := 16) rfl (by kernel_rfl) F rfl rfl rfl (H.sel [0, 1] rfl rfl) (fun _ _ _ h => h) ?_
      clear F a; intro a F
      refine eSkip (k := 17) (i := 17) rfl (by kernel_rfl) F rfl rfl rfl (H.sel [0, 1] rfl rfl) (fun _ _ _ h => h) ?_
      clear F a; intro a F
      refine eSkip (k := 18) (i := 18) rfl (by kernel_rfl) F rfl rfl rfl (H.sel [0, 1] rfl rfl) (fun _ _ _ h => h) ?_
      clear F a; intro a F
      refine eSkip (k := 19) (i := 19) rfl (by kernel_rfl) F rfl rfl rfl (H.sel [0, 1] rfl rfl) (fun _ _ _ h => h) ?_
      clear F a; intro a F
      refine eSkip (k := 20) (i := 20) rfl (by kernel_rfl) F rfl rfl rfl (H.sel [0, 1] rfl rfl) (fun _ _ _ h => h) ?_
      clear F a; intro a F
      refine eSkip (k := 21) (i := 21) rfl (by kernel_rfl) F rfl rfl rfl (H.sel [0, 1] rfl rfl) (fun _ _ _ h => h) ?_
      clear F a; intro a F
      refine eSkip (k := 22) (i := 22) rfl (by kernel_rfl) F rfl rfl rfl (H.sel [0, 1] rfl rfl) (fun _ _ _ h => h) ?_
      clear F a; intro a F
      refine eTakeF (k := 23) (i := 23) rfl (by kernel_rfl) F rfl rfl rfl (fun w => rPk F rfl rfl) (H.sel [0, 1] rfl rfl) (fun _ _ _ h => h) ?_
      clear F a; intro a F
      refine eTakeF (k := 24) (i := 24) rfl (by kernel_rfl) F rfl rfl rfl (fun w => rAs F rfl) (H.sel [0, 1] rfl rfl) (fun _ _ _ h => h) ?_
      clear F a; intro a F
      refine eNil (k := 25) (by kernel_rfl) ?_
      refine hK2 _ _ ?_; clear hK2
      refine wp_ret ?_
      refine bRet Tryd.results43 F rfl ?_
      refine ⟨retB ?_, H.below⟩
      clear F H
      first
        | (exfalso; omega)
        | (rw [mayI, decide_eq_true h0, Bool.true_and, Int.toNat_natCast, mayP_at hl, Bool.eq_iff_iff]; simp [cut]; done)
        | (rw [mayI, decide_eq_true h0, Bool.true_and, Int.toNat_natCast, mayP_at hl, Bool.eq_iff_iff]; simp [cut]; omega)
        | (rw [mayI, Int.toNat_natCast, mayP, List.getElem?_eq_none (by omega)]; simp)
    ·
     replace h9 := of_decide_eq_false h9
     refine eSkip (k := 3) (i := 3) rfl (by kernel_rfl) F rfl rfl rfl (H.sel [0, 1] rfl rfl) (fun _ _ _ h => h) ?_
     clear F a; intro a F
     refine eSkip (k := 4) (i := 4) rfl (by kernel_rfl) F rfl rfl rfl (H.sel [0, 1] rfl rfl) (fun _ _ _ h => h) ?_
     clear F a; intro a F
     refine eSkip (k := 5) (i := 5) rfl (by kernel_rfl) F rfl rfl rfl (H.sel [0, 1] rfl rfl) (fun _ _ _ h => h) ?_
     clear F a; intro a F
     refine eSkip (k := 6) (i := 6) rfl (by kernel_rfl) F rfl rfl rfl (H.sel [0, 1] rfl rfl) (fun _ _ _ h => h) ?_
     clear F a; intro a F
     refine eSkip (k := 7) (i := 7) rfl (by kernel_rfl) F rfl rfl rfl (H.sel [0, 1] rfl rfl) (fun _ _ _ h => h) ?_
     clear F a; intro a F
     refine eTakeF (k := 8) (i := 8) rfl (by kernel_rfl) F rfl rfl rfl (fun w => rPk F rfl rfl) (H.sel [0, 1] rfl rfl) (fun _ _ _ h => h) ?_
     clear F a; intro a F
     refine eTakeF (k := 9) (i := 9) rfl (by kernel_rfl) F rfl rfl rfl (fun w => rMv F rfl) (H.sel [0, 1] rfl rfl) (fun _ _ _ h => h) ?_
     clear F a; intro a F
     refine eSkip (k := 10) (i := 10) rfl (by kernel_rfl) F rfl rfl rfl (H.sel [0, 1] rfl rfl) (fun _ _ _ h => h) ?_
     clear F a; intro a F
     refine eSkip (k := 11) (i := 11) rfl (by kernel_rfl) F rfl rfl rfl (H.sel [0, 1] rfl rfl) (fun _ _ _ h => h) ?_
     clear F a; intro a F
     refine eSkip (k := 12) (i := 12) rfl (by kernel_rfl) F rfl rfl rfl (H.sel [0, 1] rfl rfl) (fun _ _ _ h => h) ?_
     clear F a; intro a F
     refine eSkip (k := 13) (i := 13) rfl (by kernel_rfl) F rfl rfl rfl (H.sel [0, 1] rfl rfl) (fun _ _ _ h => h) ?_
     clear F a; intro a F
     refine eSkip (k := 14) (i := 14) rfl (by kernel_rfl) F rfl rfl rfl (H.sel [0, 1] rfl rfl) (fun _ _ _ h => h) ?_
     clear F a; intro a F
     refine eSkip (k := 15) (i := 15) rfl (by kernel_rfl) F rfl rfl rfl (H.sel [0, 1] rfl rfl) (fun _ _ _ h => h) ?_
     clear F a; intro a F
     refine eSkip (k := 16) (i := 16) rfl (by kernel_rfl) F rfl rfl rfl (H.sel [0, 1] rfl rfl) (fun _ _ _ h => h) ?_
     clear F a; intro a F
     refine eSkip (k := 17) (i := 17) rfl (by kernel_rfl) F rfl rfl rfl (H.sel [0, 1] rfl rfl) (fun _ _ _ h => h) ?_
     clear F a; intro a F
     refine eSkip (k := 18) (i := 18) rfl (by kernel_rfl) F rfl rfl rfl (H.sel [0, 1] rfl rfl) (fun _ _ _ h => h) ?_
     clear F a; intro a F
     refine eSkip (k := 19) (i := 19) rfl (by kernel_rfl) F rfl rfl rfl (H.sel [0, 1] rfl rfl) (fun _ _ _ h => h) ?_
     clear F a; intro a F
     refine eSkip (k := 20) (i := 20) rfl (by kernel_rfl) F rfl rfl rfl (H.sel [0, 1] rfl rfl) (fun _ _ _ h => h) ?_
     clear F a; intro a F
     refine eSkip (k := 21) (i := 21) rfl (by kernel_rfl) F rfl rfl rfl (H.sel [0, 1] rfl rfl) (fun _ _ _ h => h) ?_
     clear F a; intro a F
     refine eSkip (k := 22) (i := 22) rfl (by kernel_rfl) F rfl rfl rfl (H.sel [0, 1] rfl rfl) (fun _ _ _ h => h) ?_
     clear F a; intro a F
     refine eTakeF (k := 23) (i := 23) rfl (by kernel_rfl) F rfl rfl rfl (fun w => rPk F rfl rfl) (H.sel [0, 1] rfl rfl) (fun _ _ _ h => h) ?_
     clear F a; intro a F
     refine eTakeF (k := 24) (i := 24) rfl (by kernel_rfl) F rfl rfl rfl (fun w => rAs F rfl) (H.sel [0, 1] rfl rfl) (fun _ _ _ h => h) ?_
     clear F a; intro a F
     refine eNil (k := 25) (by kernel_rfl) ?_
     refine hK2 _ _ ?_; clear hK2
     refine wp_ret ?_
     refine bRet Tryd.results43 F rfl ?_
     refine ⟨retB ?_, H.below⟩
     clear F H
     first
       | (exfalso; omega)
       | (rw [mayI, decide_eq_true h0, Bool.true_and, Int.toNat_natCast, mayP_at hl, Bool.eq_iff_iff]; simp [cut]; done)
       | (rw [mayI, decide_eq_true h0, Bool.true_and, Int.toNat_natCast, mayP_at hl, Bool.eq_iff_iff]; simp [cut]; omega)
       | (rw [mayI, Int.toNat_natCast, mayP, List.getElem?_eq_none (by omega)]; simp)
  · skip
    refine enterF Tryd.func43 rfl Tryd.ntmps43 rfl (fun a F => ?_)
    refine cSeq (fun K1 hK1 => ?_)
    refine cReg ?_
    refine sBx H F rfl rfl rfl ?_
    clear F a H; intro b3 a w F H
    refine sBxB H F rfl rfl rfl ?_
    clear F a H; intro b4 a w F H
    refine sAs F rfl rfl rfl ?_
    clear F a; intro a F
    refine sNil ?_
    refine hK1 _ _ ?_; clear hK1
    refine cSeq (fun K2 hK2 => ?_)
    refine cRegRO (by kernel_rfl) H ?_
    replace H := H.drew
    refine eTakeF (k := 0) (i := 0) rfl (by kernel_rfl) F rfl rfl rfl (fun w => rMv F rfl) (H.sel [0, 1] rfl rfl) (fun _ _ _ h => h) ?_
    clear F a; intro a F
    refine eTakeF (k := 1) (i := 1) rfl (by kernel_rfl) F rfl rfl rfl (fun w => rBin F rfl rfl bGeq) (H.sel [0, 1] rfl rfl) (fun _ _ _ h => h) ?_
    clear F a; intro a F
    refine eTakeF (k := 2) (i := 2) rfl (by kernel_rfl) F rfl rfl rfl (fun w => rMv F rfl) (H.sel [0, 1] rfl rfl) (fun _ _ _ h => h) ?_
    clear F a; intro a F
    refine F.split 9 rfl ?_ ?_ <;> (clear F; intro h9 F)
    ·
     replace h9 := of_decide_eq_true h9
     exact absurd h9 h0
    ·
     replace h9 := of_decide_eq_false h9
     refine eSkip (k := 3) (i := 3) rfl (by kernel_rfl) F rfl rfl rfl (H.sel [0, 1] rfl rfl) (fun _ _ _ h => h) ?_
     clear F a; intro a F
     refine eSkip (k := 4) (i := 4) rfl (by kernel_rfl) F rfl rfl rfl (H.sel [0, 1] rfl rfl) (fun _ _ _ h => h) ?_
     clear F a; intro a F
     refine eSkip (k := 5) (i := 5) rfl (by kernel_rfl) F rfl rfl rfl (H.sel [0, 1] rfl rfl) (fun _ _ _ h => h) ?_
     clear F a; intro a F
     refine eSkip (k := 6) (i := 6) rfl (by kernel_rfl) F rfl rfl rfl (H.sel [0, 1] rfl rfl) (fun _ _ _ h => h) ?_
     clear F a; intro a F
     refine eSkip (k := 7) (i := 7) rfl (by kernel_rfl) F rfl rfl rfl (H.sel [0, 1] rfl rfl) (fun _ _ _ h => h) ?_
     clear F a; intro a F
     refine eTakeF (k := 8) (i := 8) rfl (by kernel_rfl) F rfl rfl rfl (fun w => rPk F rfl rfl) (H.sel [0, 1] rfl rfl) (fun _ _ _ h => h) ?_
     clear F a; intro a F
     refine eTakeF (k := 9) (i := 9) rfl (by kernel_rfl) F rfl rfl rfl (fun w => rMv F rfl) (H.sel [0, 1] rfl rfl) (fun _ _ _ h => h) ?_
     clear F a; intro a F
     refine eSkip (k := 10) (i := 10) rfl (by kernel_rfl) F rfl rfl rfl (H.sel [0, 1] rfl rfl) (fun _ _ _ h => h) ?_
     clear F a; intro a F
     refine eSkip (k := 11) (i := 11) rfl (by kernel_rfl) F rfl rfl rfl (H.sel [0, 1] rfl rfl) (fun _ _ _ h => h) ?_
     clear F a; intro a F
     refine eSkip (k := 12) (i := 12) rfl (by kernel_rfl) F rfl rfl rfl (H.sel [0, 1] rfl rfl) (fun _ _ _ h => h) ?_
     clear F a; intro a F
     refine eSkip (k := 13) (i := 13) rfl (by kernel_rfl) F rfl rfl rfl (H.sel [0, 1] rfl rfl) (fun _ _ _ h => h) ?_
     clear F a; intro a F
     refine eSkip (k := 14) (i := 14) rfl (by kernel_rfl) F rfl rfl rfl (H.sel [0, 1] rfl rfl) (fun _ _ _ h => h) ?_
     clear F a; intro a F
     refine eSkip (k := 15) (i := 15) rfl (by kernel_rfl) F rfl rfl rfl (H.sel [0, 1] rfl rfl) (fun _ _ _ h => h) ?_
     clear F a; intro a F
     refine eSkip (k := 16) (i := 16) rfl (by kernel_rfl) F rfl rfl rfl (H.sel [0, 1] rfl rfl) (fun _ _ _ h => h) ?_
     clear F a; intro a F
     refine eSkip (k := 17) (i := 17) rfl (by kernel_rfl) F rfl rfl rfl (H.sel [0, 1] rfl rfl) (fun _ _ _ h => h) ?_
     clear F a; intro a F
     refine eSkip (k := 18) (i := 18) rfl (by kernel_rfl) F rfl rfl rfl (H.sel [0, 1] rfl rfl) (fun _ _ _ h => h) ?_
     clear F a; intro a F
     refine eSkip (k := 19) (i := 19) rfl (by kernel_rfl) F rfl rfl rfl (H.sel [0, 1] rfl rfl) (fun _ _ _ h => h) ?_
     clear F a; intro a F
     refine eSkip (k := 20) (i := 20) rfl (by kernel_rfl) F rfl rfl rfl (H.sel [0, 1] rfl rfl) (fun _ _ _ h => h) ?_
     clear F a; intro a F
     refine eSkip (k := 21) (i := 21) rfl (by kernel_rfl) F rfl rfl rfl (H.sel [0, 1] rfl rfl) (fun _ _ _ h => h) ?_
     clear F a; intro a F
     refine eSkip (k := 22) (i := 22) rfl (by kernel_rfl) F rfl rfl rfl (H.sel [0, 1] rfl rfl) (fun _ _ _ h => h) ?_
     clear F a; intro a F
     refine eTakeF (k := 23) (i := 23) rfl (by kernel_rfl) F rfl rfl rfl (fun w => rPk F rfl rfl) (H.sel [0, 1] rfl rfl) (fun _ _ _ h => h) ?_
     clear F a; intro a F
     refine eTakeF (k := 24) (i := 24) rfl (by kernel_rfl) F rfl rfl rfl (fun w => rAs F rfl) (H.sel [0, 1] rfl rfl) (fun _ _ _ h => h) ?_
     clear F a; intro a F
     refine eNil (k := 25) (by kernel_rfl) ?_
     refine hK2 _ _ ?_; clear hK2
     refine wp_ret ?_
     refine bRet Tryd.results43 F rfl ?_
     exact ⟨retB (by rw [mayI, decide_eq_false h0]; rfl), H.below⟩
set_option maxHeartbeats 1000000 in
theorem r13moves_any (cs : List Value) (p : Prg) (w0 : World) (hP : ProgAt w0 cs p) (hd : deepC p.cond ≤ 9223372036854775807) (s : By) :
    Calls Tryd.prog 23 #[.agg cs.toArray, .agg (bs 142 s).toArray] w0 fun e w' => ∃ A c, e = .returned (.slice A (movesP p s).length c) ∧ Own w0 none w' [.rws 3 1 (.slice A (movesP p s).length c) (intRows (movesP p s))] := by
  have H := Own.start w0 none
  have hP0 := hP
  obtain ⟨LA, LC, IA, IC, TA, TC, h, ccs, hp⟩ := hP
  obtain ⟨c1, c2, c3, c4, c5, rfl⟩ := len5 (condAt_len hp.cond)
  have hcs := hp.cs
  subst hcs
  refine enterF Tryd.func23 rfl Tryd.ntmps23 rfl (fun a F => ?_)
  refine cSeq (fun K1 hK1 => ?_)
  refine cReg ?_
  refine sBx H F rfl rfl rfl ?_
  clear F a H; intro b2 a w F H
  refine sBxB H F rfl rfl rfl ?_
  clear F a H; intro b3 a w F H
  refine sAs F rfl rfl rfl ?_
  clear F a; intro a F
  refine sNil ?_
  refine hK1 _ _ ?_; clear hK1
  refine cSeq (fun K2 hK2 => ?_)
  refine cReg ?_
  refine sAs F rfl rfl rfl ?_
  clear F a; intro a F
  replace H := H.nilRws 3 1
  refine sNil ?_
  refine hK2 _ _ ?_; clear hK2
  refine cSeq (fun K3 hK3 => ?_)
  refine cSeq (fun K4 hK4 => ?_)
  refine cReg ?_
  refine sLr Tryd.underlying29 rfl ?si F rfl rfl rfl (H.whole 2 rfl) ?_
  case si => exact info_size Tryd.sizeOf29
  clear F a; intro a F
  refine sLrB Tryd.underlying41 rfl Tryd.sizeOf41 F rfl rfl rfl (H.whole 1 rfl) ?_
  clear F a; intro a F
  refine sCall Tryd.call26 F rfl rfl rfl (r13right_any _ p _ (hP0.own H) hd s) ?_
  rintro e w ⟨rfl, hb⟩
  replace H := H.grow hb; clear hb
  refine ⟨_, rfl, ?_⟩
  clear F a; intro a F
  refine sNot F rfl rfl rfl ?_
  clear F a; intro a F
  refine sNil ?_
  refine hK4 _ _ ?_; clear hK4
  refine cIf F rfl (fun h10 => ?_) (fun h10 => ?_)
  ·
   replace h10 := notT h10
   refine cSeq (fun K5 hK5 => ?_)
   refine cReg ?_
   refine sAs F rfl rfl rfl ?_
   clear F a; intro a F
   refine sNil ?_
   refine hK5 _ _ ?_; clear hK5
   refine wp_ret ?_
   simp only [Exit.then]
   refine bRet Tryd.results23 F rfl ?_
   first
     | exact ⟨A, c, by rw [movesP, if_pos hr], by rw [movesP, if_pos hr]; exact H.pick 0 rfl⟩
     | exact ⟨none, 0, by rw [movesP, if_neg (by rw [h10]; simp)]; rfl, by rw [movesP, if_neg (by rw [h10]; simp)]; exact (H.nilRws _ _).pick 0 rfl⟩
  ·
   replace h10 := notF h10
   have hr : rightS p s = true := h10
   have hv4 := (valid (right_of hr)).thr4
   refine wp_skip ?_
   refine hK3 _ _ ?_; clear hK3
   refine cSeq (fun K6 hK6 => ?_)
   refine cSeq (fun K7 hK7 => ?_)
   refine cReg ?_
   refine sAs F rfl rfl rfl ?_
   clear F a; intro a F
   refine sNil ?_
   refine hK7 _ _ ?_; clear hK7
   refine wp_block ?_
   refine cLoopR [2, 3] (fun m ups w => ∃ (j : Nat) (A : Option Addr) (c : Nat) (l : List Nat), m = p.threads.length - j ∧ ups = [(5, .slice A l.length c), (6, .int .i64 ((j : Nat) : Int))] ∧ j ≤ p.threads.length ∧ l = (List.range j).filter (mayP p s) ∧ Own w0 none w [.rws 3 1 (.slice A l.length c) (intRows l), .blk b3 (bs 142 s) 41, .blk b2 ([.string p.name, .slice LA p.locs.length LC, .slice IA p.init.length IC, .slice TA p.threads.length TC, B8 p.ask] ++ [c1, c2, c3, c4, c5]) 29]) F (p.threads.length) [(5, .slice none 0 0), (6, .int .i64 ((0 : Nat) : Int))] (by repeat (first | exact SubR.nil | (apply SubR.cons; · rfl))) ?_ ?_ ?_
   · exact ⟨0, none, 0, [], rfl, rfl, by omega, rfl, H⟩
   · repeat (first | exact trivial | refine Le.cons rfl ?_)
   clear F
   clear H
   intro m ups a w hI F
   obtain ⟨j, A, c, l, rfl, rfl, hj, hl, H⟩ := hI
   refine cSeq (fun K8 hK8 => ?_)
   refine cSeq (fun K9 hK9 => ?_)
   refine cReg ?_
   refine sMv F rfl rfl rfl ?_
   clear F a; intro a F
   refine sFa (f := 3) (k := 3) Tryd.underlying29 rfl Tryd.sizeOf24 rfl rfl F rfl rfl rfl ?_
   clear F a; intro a F
   refine sLd Tryd.isAgg24 F rfl rfl rfl (H.cell 2 rfl rfl) ?_
   clear F a; intro a F
   refine sLen Tryd.underlying24 F rfl rfl rfl ?_
   clear F a; intro a F
   refine sBin F rfl rfl rfl rfl bLss ?_
   clear F a; intro a F
   refine sNil ?_
   refine hK9 _ _ ?_; clear hK9
   refine cIf F rfl (fun h15 => ?_) (fun h15 => ?_)
   ·
    replace h15 := of_decide_eq_true h15
    refine wp_skip ?_
    refine hK8 _ _ ?_; clear hK8
    refine cSeq (fun K10 hK10 => ?_)
    refine wp_block ?_
    refine cSeq (fun K11 hK11 => ?_)
    refine cReg ?_
    refine sLr Tryd.underlying29 rfl ?si F rfl rfl rfl (H.whole 2 rfl) ?_
    case si => exact info_size Tryd.sizeOf29
    clear F a; intro a F
    refine sLrB Tryd.underlying41 rfl Tryd.sizeOf41 F rfl rfl rfl (H.whole 1 rfl) ?_
    clear F a; intro a F
    refine sMv F rfl rfl rfl ?_
    clear F a; intro a F
    refine sCall Tryd.call43 F rfl rfl rfl (rmay_any _ p _ (hP0.own H) hv4 s (j : Int)) ?_
    rintro e w ⟨rfl, hb⟩
    replace H := H.grow hb; clear hb
    refine ⟨_, rfl, ?_⟩
    clear F a; intro a F
    refine sNil ?_
    refine hK11 _ _ ?_; clear hK11
    refine cIf F rfl (fun h21 => ?_) (fun h21 => ?_)
    ·
     refine cReg ?_
     refine sMv F rfl rfl rfl ?_
     clear F a; intro a F
     refine sMv F rfl rfl rfl ?_
     clear F a; intro a F
     refine sBs1 H Tryd.underlying44 Tryd.sizeOf3 Tryd.zeroValue3 rfl F rfl rfl rfl rfl ?_
     clear F a H; intro b24 a w F H
     refine sApp1 (bytes := 8) H 1 Tryd.underlying44 Tryd.typeInfo3 rfl rfl rfl rfl rfl rfl F rfl rfl rfl rfl rfl (H.whole 0 rfl) rfl ?s1 ?s2 ?_
     case s1 => first | rfl | (repeat (first | exact one_nil | (apply one_cons; · first | rfl | assumption | exact one_bif rfl rfl)))
     case s2 => (rw [intRows_length]; have := List.length_filter_le (mayP p s) (List.range j); rw [← hl, List.length_range] at this; omega)
     clear F a H; intro A25 c25 a w F H
     refine sAs F rfl rfl rfl ?_
     clear F a; intro a F
     refine sNil ?_
     refine hK10 _ _ ?_; clear hK10
     refine cReg ?_
     refine sMv F rfl rfl rfl ?_
     clear F a; intro a F
     refine sBin F rfl rfl rfl rfl (bAddN (j := 1) ?_) ?_
     focus omega
     clear F a; intro a F
     refine sAs F rfl rfl rfl ?_
     clear F a; intro a F
     refine sNil ?_
     have hs := range_filter_succ (mayP p s) j
     rw [← hl] at hs
     rw [mayI, decide_eq_true (by omega), Bool.true_and, Int.toNat_natCast] at h21
     first
       | (rw [if_pos h21] at hs
          rw [← intRows_append, intRows_length] at H F
          exact ⟨_, by omega, _, ⟨j + 1, A25, c25, l ++ [j], rfl, rfl, by omega, hs.symm, H.tail⟩, F.to (by repeat (first | exact trivial | refine Le.cons rfl ?_))⟩)
       | (rw [if_neg (by rw [h21]; simp)] at hs
          exact ⟨_, by omega, _, ⟨j + 1, A, c, l, rfl, rfl, by omega, hs.symm, H.tail⟩, F.to (by repeat (first | exact trivial | refine Le.cons rfl ?_))⟩)
    ·
     refine wp_skip ?_
     refine hK10 _ _ ?_; clear hK10
     refine cReg ?_
     refine sMv F rfl rfl rfl ?_
     clear F a; intro a F
     refine sBin F rfl rfl rfl rfl (bAddN (j := 1) ?_) ?_
     focus omega
     clear F a; intro a F
     refine sAs F rfl rfl rfl ?_
     clear F a; intro a F
     refine sNil ?_
     have hs := range_filter_succ (mayP p s) j
     rw [← hl] at hs
     rw [mayI, decide_eq_true (by omega), Bool.true_and, Int.toNat_natCast] at h21
     first
       | (rw [if_pos h21] at hs
          rw [← intRows_append, intRows_length] at H F
          exact ⟨_, by omega, _, ⟨j + 1, A25, c25, l ++ [j], rfl, rfl, by omega, hs.symm, H⟩, F.to (by repeat (first | exact trivial | refine Le.cons rfl ?_))⟩)
       | (rw [if_neg (by rw [h21]; simp)] at hs
          exact ⟨_, by omega, _, ⟨j + 1, A, c, l, rfl, rfl, by omega, hs.symm, H⟩, F.to (by repeat (first | exact trivial | refine Le.cons rfl ?_))⟩)
   ·
    replace h15 := of_decide_eq_false h15
    obtain rfl : j = p.threads.length := by omega
    rw [← enabledP] at hl
    subst hl
    refine wp_exit ?_
    refine hK6 _ _ ?_; clear hK6
    refine cSeq (fun K12 hK12 => ?_)
    refine cReg ?_
    refine sMv F rfl rfl rfl ?_
    clear F a; intro a F
    refine sAs F rfl rfl rfl ?_
    clear F a; intro a F
    refine sNil ?_
    refine hK12 _ _ ?_; clear hK12
    refine wp_ret ?_
    refine bRet Tryd.results23 F rfl ?_
    first
      | exact ⟨A, c, by rw [movesP, if_pos hr], by rw [movesP, if_pos hr]; exact H.pick 0 rfl⟩
      | exact ⟨none, 0, by rw [movesP, if_neg (by rw [h10]; simp)]; rfl, by rw [movesP, if_neg (by rw [h10]; simp)]; exact (H.nilRws _ _).pick 0 rfl⟩
end Go.Proofs.YtfemniboggnbiaaDoor
