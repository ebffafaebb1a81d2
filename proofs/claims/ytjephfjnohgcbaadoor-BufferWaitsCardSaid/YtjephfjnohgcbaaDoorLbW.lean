/-
  WALK2. The law of chapter 14: BufferWaits answers true. Conditions: what it is handed lies in memory; block 0 holds the table of needs.
-/
import Derived.Test.YtjephfjnohgcbaaDoorBwD
set_option linter.unusedSimpArgs false
set_option linter.unusedVariables false
namespace Go.Proofs.YtjephfjnohgcbaaDoor
open Go.RowKit
set_option maxRecDepth 100000
theorem same_t {a b : Nat} (h : (a : Int) = (b : Int)) : (a == b) = true := by
  rw [beq_iff_eq]; omega
theorem diff_t {a b : Nat} (h : (a : Int) ≠ (b : Int)) : (a == b) = false := by
  rw [beq_eq_false_iff_ne]; omega
theorem many_dec (s : By) (t : Nat) : decide (0 < manyB s t) = decide ((0 : UInt8) < s (138 + t)) := by
  unfold manyB
  rw [decide_eq_decide, UInt8.lt_iff_toNat_lt]
  rfl
theorem op456 {x : UInt8} (h1 : (4 : UInt8) ≤ x) (h2 : x ≤ 6) : x = 4 ∨ x = 5 ∨ x = 6 := by
  have h1 := UInt8.le_iff_toNat_le.1 h1
  have h2 := UInt8.le_iff_toNat_le.1 h2
  rw [show (4 : UInt8).toNat = 4 from rfl] at h1
  rw [show (6 : UInt8).toNat = 6 from rfl] at h2
  rcases (by omega : x.toNat = 4 ∨ x.toNat = 5 ∨ x.toNat = 6) with h | h | h
  · exact .inl (UInt8.toNat_inj.1 h)
  · exact .inr (.inl (UInt8.toNat_inj.1 h))
  · exact .inr (.inr (UInt8.toNat_inj.1 h))
theorem bMul2 {P : Program} {t : TypeId} {x y : Operand} {m : Nat} (h : 2 * m ≤ 9223372036854775807) : BinR P .mul t x y (.int .i64 2) (.int .i64 (m : Int)) (.int .i64 ((2 * m : Nat) : Int)) := fun w => by
  have : (do eqGuard .mul t x y (.int .i64 2) (.int .i64 (m : Int)); binOp .mul t (.int .i64 2) (.int .i64 (m : Int)) : Sem Value).run P w = .ok (.int .i64 (IntKind.i64.wrap (2 * (m : Int)))) w := by simp [eqGuard, binOp, Op.intArith, go_sem]
  rw [this, show (2 : Int) * (m : Int) = ((2 * m : Nat) : Int) by omega, wrapN h]
set_option maxHeartbeats 1000000 in
theorem bufferWaits_any (cs : List Value) (p : Prg) (w0 : World) (hP : ProgAt w0 cs p) (hN : NeedsAt w0) (mach : UInt8) (PA : Option Addr) (PC : Nat) (picks : List UInt8) (hB : BytesAt w0 PA picks) (hBn : picks.length ≤ 9223372036854775807) (hBc : picks.length ≤ PC) :
    Calls Tryd.prog 7 #[.agg cs.toArray, Go.Proofs.YtjephfjnohgcbaaDoor.b8 mach, .slice PA picks.length PC] w0 fun e w' => e = .returned (.bool true) ∧ Below w0.heap.size w0 w' := by
  have H := Own.start w0 none
  have hP0 := hP
  obtain ⟨LA, LC, IA, IC, TA, TC, h, ccs, hp⟩ := hP
  obtain ⟨c1, c2, c3, c4, c5, rfl⟩ := len5 (condAt_len hp.cond)
  have hcs := hp.cs
  subst hcs
  have hlen : (picks.take 100).length = min picks.length 100 := by rw [List.length_take]; omega
  have hBt := bytes_take hB 100
  generalize hQ : picks.take 100 = Q at hlen hBt
  have hk := known_machine mach
  generalize hmc : 1 + mach % 3 = mc at hk
  refine enterF Tryd.func7 rfl Tryd.ntmps7 rfl (fun a F => ?_)
  refine cSeq (fun K1 hK1 => ?_)
  refine cReg ?_
  refine sBx H F rfl rfl rfl ?_
  clear F a H; intro b3 a w F H
  refine sAs F rfl rfl rfl ?_
  clear F a; intro a F
  refine sNil ?_
  refine hK1 _ _ ?_; clear hK1
  refine cSeq (fun K2 hK2 => ?_)
  refine cReg ?_
  refine sMv F rfl rfl rfl ?_
  clear F a; intro a F
  refine sCall Tryd.call23 F rfl rfl rfl ((by have := machine14_any mach w; rw [hmc] at this; exact this)) ?_
  rintro e w ⟨rfl, hb⟩
  replace H := H.grow hb; clear hb
  refine ⟨_, rfl, ?_⟩
  clear F a; intro a F
  refine sAs F rfl rfl rfl ?_
  clear F a; intro a F
  refine sNil ?_
  refine hK2 _ _ ?_; clear hK2
  refine cSeq (fun K3 hK3 => ?_)
  refine cRegRO (by kernel_rfl) H ?_
  replace H := H.drew
  refine eTake (k := 0) (i := 0) rfl (by kernel_rfl) F rfl rfl rfl rfl (fun w H => rLr Tryd.underlying29 rfl ?si F rfl (H.whole 0 rfl)) (H.sel [0] rfl rfl) (fun _ _ _ h => h) ?_
  case si => exact info_size Tryd.sizeOf29
  clear F a; intro a F
  refine eTakeF (k := 1) (i := 1) rfl (by kernel_rfl) F rfl rfl rfl (fun w => rMv F rfl) (H.sel [0] rfl rfl) (fun _ _ _ h => h) ?_
  clear F a; intro a F
  refine eTakeF (k := 2) (i := 2) rfl (by kernel_rfl) F rfl rfl rfl (fun w => rMv F rfl) (H.sel [0] rfl rfl) (fun _ _ _ h => h) ?_
  clear F a; intro a F
  refine eTakeF (k := 3) (i := 3) rfl (by kernel_rfl) F rfl rfl rfl (fun w => rMv F rfl) (H.sel [0] rfl rfl) (fun _ _ _ h => h) ?_
  clear F a; intro a F
  refine eTake (k := 4) (i := 4) rfl (by kernel_rfl) F rfl rfl rfl rfl (fun w H => rLen Tryd.underlying23 F rfl) (H.sel [0] rfl rfl) (fun _ _ _ h => h) ?_
  clear F a; intro a F
  refine eTake (k := 5) (i := 5) rfl (by kernel_rfl) F rfl rfl rfl rfl (fun w H => rMinN (j := 100) F rfl rfl) (H.sel [0] rfl rfl) (fun _ _ _ h => h) ?_
  clear F a; intro a F
  refine eTake (k := 6) (i := 6) rfl (by kernel_rfl) F rfl rfl rfl rfl (fun w H => rSlH Tryd.underlying23 (fun w => ⟨_, Tryd.sizeOf5 w⟩) F rfl rfl ?_) (H.sel [0] rfl rfl) (fun _ _ _ h => h) ?_
  focus (first | omega | decide | (simp; omega))
  clear F a; intro a F
  refine eJoin F H [3, 7] 13 [true, true, true, true, true, true, true, true, true, true, true, true, true, false, false, false] (fun rs ups w => ∃ A c b8, ups = [(37, .agg (bs 38 (playFM p mc Q)).toArray), (38, .slice A (playOM p mc Q).length c), (39, .int .i64 (playEM p mc)), (8, .pointer (some ⟨b8, 0, none⟩))] ∧ Own w0 none w ((.rws 50 3 (.slice A (playOM p mc Q).length c) ((playOM p mc Q).map Pss.cells)) :: (.blk b8 (bs 38 zb) 64) :: rs)) (by repeat (first | exact SubR.nil | (apply SubR.cons; · rfl))) ?_ (fun hJ => ?_)
  rotate_left
  ·
   refine eTwo (k := 7) (i := 7) (j := 12) (by kernel_rfl) F rfl rfl rfl rfl ?_ ?_
   ·
    refine oCall Tryd.call17 F rfl rfl ((by have := playM_any _ p _ (hP0.own H) (hN.own H) mc PA PC Q (RowsAt.own hBt H) (by omega); rw [hlen] at this; exact this)) ?_
    rintro e w ⟨A, c, rfl, H2⟩
    replace H := H.join H2; clear H2
    refine ⟨_, rfl, ?_⟩
    clear F a; intro a F
    refine eKeep (H.sel [1] rfl rfl) ?_
    refine eTakeF (k := 8) (i := 8) rfl (by kernel_rfl) F rfl rfl rfl (fun w => rMv F rfl) (H.sel [1] rfl rfl) (fun _ _ _ h => h) ?_
    clear F a; intro a F
    refine eTakeF (k := 9) (i := 9) rfl (by kernel_rfl) F rfl rfl rfl (fun w => rExt F rfl rfl) (H.sel [1] rfl rfl) (fun _ _ _ h => h) ?_
    clear F a; intro a F
    refine eTakeF (k := 10) (i := 10) rfl (by kernel_rfl) F rfl rfl rfl (fun w => rExt F rfl rfl) (H.sel [1] rfl rfl) (fun _ _ _ h => h) ?_
    clear F a; intro a F
    refine eTakeF (k := 11) (i := 11) rfl (by kernel_rfl) F rfl rfl rfl (fun w => rExt F rfl rfl) (H.sel [1] rfl rfl) (fun _ _ _ h => h) ?_
    clear F a; intro a F
    refine eOne (k := 12) (i := 12) rfl (by kernel_rfl) F rfl (oAlB H zB64 F rfl ?_)
    clear F a H; intro b8 a w F H
    refine eKeep (H.sel [2] rfl rfl) ?_
    exact eGo hJ (by kernel_rfl) _ ⟨A, c, b8, rfl, H.sel [1, 0, 2] rfl rfl⟩ (F.to (by repeat (first | exact trivial | refine Le.cons rfl ?_)))
   ·
    refine oAlB H zB64 F rfl ?_
    clear F a H; intro b8 a w F H
    refine eKeep (H.sel [1] rfl rfl) ?_
    refine eOne (k := 8) (i := 7) rfl (by kernel_rfl) F rfl (oCall Tryd.call17 F rfl rfl ((by have := playM_any _ p _ (hP0.own H) (hN.own H) mc PA PC Q (RowsAt.own hBt H) (by omega); rw [hlen] at this; exact this)) ?_)
    rintro e w ⟨A, c, rfl, H2⟩
    replace H := H.join H2; clear H2
    refine ⟨_, rfl, ?_⟩
    clear F a; intro a F
    refine eKeep (H.sel [2] rfl rfl) ?_
    refine eTakeF (k := 9) (i := 8) rfl (by kernel_rfl) F rfl rfl rfl (fun w => rMv F rfl) (H.sel [2] rfl rfl) (fun _ _ _ h => h) ?_
    clear F a; intro a F
    refine eTakeF (k := 10) (i := 9) rfl (by kernel_rfl) F rfl rfl rfl (fun w => rExt F rfl rfl) (H.sel [2] rfl rfl) (fun _ _ _ h => h) ?_
    clear F a; intro a F
    refine eTakeF (k := 11) (i := 10) rfl (by kernel_rfl) F rfl rfl rfl (fun w => rExt F rfl rfl) (H.sel [2] rfl rfl) (fun _ _ _ h => h) ?_
    clear F a; intro a F
    refine eTakeF (k := 12) (i := 11) rfl (by kernel_rfl) F rfl rfl rfl (fun w => rExt F rfl rfl) (H.sel [2] rfl rfl) (fun _ _ _ h => h) ?_
    clear F a; intro a F
    exact eGo hJ (by kernel_rfl) _ ⟨A, c, b8, rfl, H.sel [0, 1, 2] rfl rfl⟩ (F.to (by repeat (first | exact trivial | refine Le.cons rfl ?_)))
  clear F H; intro ups a w hI F
  obtain ⟨A, c, b8, rfl, H⟩ := hI
  refine eOne (k := 13) (i := 13) rfl (by kernel_rfl) F rfl (oSrB H 1 Tryd.sizeOf64 F rfl rfl rfl (by omega) ?_)
  clear H; intro w H
  rw [lay_all] at H
  refine ePartO (by kernel_rfl) H ?_
  refine eTakeF (k := 14) (i := 14) rfl (by kernel_rfl) F rfl rfl rfl (fun w => rAs F rfl) (H.sel [0, 1, 2] rfl rfl) (fun _ _ _ h => h) ?_
  clear F a; intro a F
  refine eTakeF (k := 15) (i := 15) rfl (by kernel_rfl) F rfl rfl rfl (fun w => rAs F rfl) (H.sel [0, 1, 2] rfl rfl) (fun _ _ _ h => h) ?_
  clear F a; intro a F
  refine eNil (k := 16) (by kernel_rfl) ?_
  refine hK3 _ _ ?_; clear hK3
  refine cSeq (fun K4 hK4 => ?_)
  refine cReg ?_
  refine sLr Tryd.underlying29 rfl ?si F rfl rfl rfl (H.whole 2 rfl) ?_
  case si => exact info_size Tryd.sizeOf29
  clear F a; intro a F
  refine sCall Tryd.call18 F rfl rfl rfl (start_any _ p _ (hP0.own H) (hN.own H)) ?_
  rintro e w ⟨rfl, hb⟩
  replace H := H.grow hb; clear hb
  refine ⟨_, rfl, ?_⟩
  clear F a; intro a F
  refine sMv F rfl rfl rfl ?_
  clear F a; intro a F
  refine sExt F rfl rfl rfl rfl ?_
  clear F a; intro a F
  refine sExt F rfl rfl rfl rfl ?_
  clear F a; intro a F
  refine sAlB H zB41 F rfl rfl ?_
  clear F a H; intro b11 a w F H
  refine sSrB H 0 Tryd.sizeOf41 F rfl rfl rfl rfl (by omega) ?_
  clear H; intro w H
  rw [lay_all] at H
  refine sAs F rfl rfl rfl ?_
  clear F a; intro a F
  refine sNil ?_
  refine hK4 _ _ ?_; clear hK4
  refine cSeq (fun K5 hK5 => ?_)
  refine cSeq (fun K6 hK6 => ?_)
  refine cReg ?_
  refine sMv F rfl rfl rfl ?_
  clear F a; intro a F
  refine sBin F rfl rfl rfl rfl bNeq ?_
  clear F a; intro a F
  refine sMv F rfl rfl rfl ?_
  clear F a; intro a F
  refine F.split 47 rfl ?_ ?_ <;> (clear F; intro h47 F)
  ·
   replace h47 := bneT h47
   have hv : rightErr p ≠ 0 := fun h => h47 (if_pos ⟨h, hk⟩)
   have eE : startE p = 2 := if_neg hv
   have eM : playEM p mc = 2 := if_neg fun h => hv h.1
   simp only [eE, eM] at F
   refine sSk F rfl rfl ?_
   clear F a; intro a F
   refine sSk F rfl rfl ?_
   clear F a; intro a F
   refine sPk F rfl rfl rfl rfl ?_
   clear F a; intro a F
   refine sNil ?_
   refine hK6 _ _ ?_; clear hK6
   refine cIfT F rfl ?_
   refine cSeq (fun K7 hK7 => ?_)
   refine cReg ?_
   refine sMv F rfl rfl rfl ?_
   clear F a; intro a F
   refine sMv F rfl rfl rfl ?_
   clear F a; intro a F
   refine sBin F rfl rfl rfl rfl bEql ?_
   clear F a; intro a F
   refine sMv F rfl rfl rfl ?_
   clear F a; intro a F
   refine F.split 54 rfl ?_ ?_ <;> (clear F; intro h54 F)
   ·
    replace h54 := beqT h54
    refine sLr Tryd.underlying29 rfl ?si F rfl rfl rfl (H.whole 3 rfl) ?_
    case si => exact info_size Tryd.sizeOf29
    clear F a; intro a F
    refine sCall Tryd.call11 F rfl rfl rfl (right_any' _ p _ (hP0.own H) (hN.own H)) ?_
    rintro e w ⟨rfl, hb⟩
    replace H := H.grow hb; clear hb
    refine ⟨_, rfl, ?_⟩
    clear F a; intro a F
    refine sBin F rfl rfl rfl rfl bNeq ?_
    clear F a; intro a F
    refine sPk F rfl rfl rfl rfl ?_
    clear F a; intro a F
    refine sMv F rfl rfl rfl ?_
    clear F a; intro a F
    refine F.split 59 rfl ?_ ?_ <;> (clear F; intro h59 F)
    ·
     replace h59 := bneT h59
     refine sCall Tryd.call12 F rfl rfl rfl (awake14_any _ (hN.own H)) ?_
     rintro e w ⟨rfl, hb⟩
     replace H := H.grow hb; clear hb
     refine ⟨_, rfl, ?_⟩
     clear F a; intro a F
     refine sPk F rfl rfl rfl rfl ?_
     clear F a; intro a F
     refine sAs F rfl rfl rfl ?_
     clear F a; intro a F
     refine sNil ?_
     refine hK7 _ _ ?_; clear hK7
     refine wp_ret ?_
     simp only [Exit.then]
     refine bRet Tryd.results7 F rfl ?_
     exact ⟨rfl, H.below⟩
    ·
     replace h59 := bneF h59
     exact absurd h59 hv
   ·
    replace h54 := beqF h54
    exact absurd rfl h54
  ·
   replace h47 := bneF h47
   have hv : rightErr p = 0 := by
    apply Decidable.byContradiction
    intro h
    rw [playEM, if_neg (fun hh => h hh.1)] at h47
    cases h47
   have hV := valid hv
   have hV4 := hV.thr4
   obtain ⟨r, z, eF, eO, _, hruns, hz, hr0, hrz, hr96, hnu⟩ := play_runs hv hk Q
   have eE : startE p = 0 := if_pos hv
   have eS : startS p = startP p := if_pos hv
   rw [nu_start_sum hv hk] at hnu
   simp only [eO, eF, eE, eS] at H F
   refine sMv F rfl rfl rfl ?_
   clear F a; intro a F
   refine sBin F rfl rfl rfl rfl bNeq ?_
   clear F a; intro a F
   refine sPk F rfl rfl rfl rfl ?_
   clear F a; intro a F
   refine sNil ?_
   refine hK6 _ _ ?_; clear hK6
   refine cIf F rfl (fun h50 => ?_) (fun h50 => ?_)
   ·
    replace h50 := bneT h50
    exact absurd rfl h50
   ·
    replace h50 := bneF h50
    refine wp_skip ?_
    refine hK5 _ _ ?_; clear hK5
    refine cSeq (fun K8 hK8 => ?_)
    refine cReg ?_
    refine sAs F rfl rfl rfl ?_
    clear F a; intro a F
    refine sNil ?_
    refine hK8 _ _ ?_; clear hK8
    refine cSeq (fun K9 hK9 => ?_)
    refine cSeq (fun K10 hK10 => ?_)
    refine cReg ?_
    refine sFa (f := 3) (k := 3) Tryd.underlying29 rfl Tryd.sizeOf24 rfl rfl F rfl rfl rfl ?_
    clear F a; intro a F
    refine sLd Tryd.isAgg24 F rfl rfl rfl (H.cell 3 rfl rfl) ?_
    clear F a; intro a F
    refine sLen Tryd.underlying24 F rfl rfl rfl ?_
    clear F a; intro a F
    refine sMv F rfl rfl rfl ?_
    clear F a; intro a F
    refine sNil ?_
    refine hK10 _ _ ?_; clear hK10
    refine wp_block ?_
    refine cLoopR [3, 7, 9, 11, 63, 64] (fun m ups w => ∃ (j y : Nat), m = p.threads.length - j ∧ ups = [(13, .int .i64 ((y : Nat) : Int)), (65, .int .i64 ((j : Nat) : Int))] ∧ j ≤ p.threads.length ∧ y = sumL (p.threads.take j) ∧ y ≤ 12 * j ∧ Own w0 none w [.blk b11 (bs 142 (startP p)) 41, .blk b8 (bs 38 (finalP z)) 64, .rws 50 3 (.slice A r.length c) (r.map Pss.cells), .blk b3 ([.string p.name, .slice LA p.locs.length LC, .slice IA p.init.length IC, .slice TA p.threads.length TC, Go.Proofs.YtjephfjnohgcbaaDoor.b8 p.ask] ++ [c1, c2, c3, c4, c5]) 29]) F (p.threads.length) [(13, .int .i64 ((0 : Nat) : Int)), (65, .int .i64 ((0 : Nat) : Int))] (by repeat (first | exact SubR.nil | (apply SubR.cons; · rfl))) ?_ ?_ ?_
    · exact ⟨0, 0, rfl, rfl, by omega, rfl, by omega, H.sel [0, 2, 1, 3] rfl rfl⟩
    · repeat (first | exact trivial | refine Le.cons rfl ?_)
    clear F
    clear H
    intro m ups a w hI F
    obtain ⟨j, y, rfl, rfl, hj, hy, hy12, H⟩ := hI
    refine cSeq (fun K11 hK11 => ?_)
    refine cReg ?_
    refine sBin F rfl rfl rfl rfl bLss ?_
    clear F a; intro a F
    refine sNil ?_
    refine hK11 _ _ ?_; clear hK11
    refine cSeq (fun K12 hK12 => ?_)
    refine cIf F rfl (fun h66 => ?_) (fun h66 => ?_)
    ·
     replace h66 := of_decide_eq_true h66
     have hjl : j < p.threads.length := by omega
     obtain ⟨l, hl⟩ : ∃ l, p.threads[j]? = some l := ⟨_, List.getElem?_eq_getElem hjl⟩
     have hl12 := hV.long j l hl
     obtain ⟨bT, oT, BT, CT, rfl, hT1, hT2, hT3⟩ := hp.threads j l hl
     refine wp_skip ?_
     refine hK12 _ _ ?_; clear hK12
     refine cSeq (fun K13 hK13 => ?_)
     refine wp_block ?_
     refine cSeq (fun K14 hK14 => ?_)
     refine cReg ?_
     refine sIx Tryd.underlying24 Tryd.sizeOf59 F rfl rfl rfl rfl ?_ ?_
     focus (first | omega | decide | (simp; omega))
     clear F a; intro a F
     refine sLd Tryd.isAgg59 F rfl rfl rfl (H.arg hT1) ?_
     clear F a; intro a F
     refine sAs F rfl rfl rfl ?_
     clear F a; intro a F
     refine sNil ?_
     refine hK14 _ _ ?_; clear hK14
     refine cReg ?_
     refine sMv F rfl rfl rfl ?_
     clear F a; intro a F
     refine sMv F rfl rfl rfl ?_
     clear F a; intro a F
     refine sLen Tryd.underlying59 F rfl rfl rfl ?_
     clear F a; intro a F
     refine sBin F rfl rfl rfl rfl (bAddN ?_) ?_
     focus omega
     clear F a; intro a F
     refine sAs F rfl rfl rfl ?_
     clear F a; intro a F
     refine sNil ?_
     refine hK13 _ _ ?_; clear hK13
     refine cReg ?_
     refine sBin F rfl rfl rfl rfl (bAddN (j := 1) ?_) ?_
     focus omega
     clear F a; intro a F
     refine sMv F rfl rfl rfl ?_
     clear F a; intro a F
     refine sNil ?_
     exact ⟨_, by omega, _, ⟨j + 1, y + l.length, rfl, rfl, by omega, by rw [sumL_take hl, hy], by omega, H⟩, F.to (by repeat (first | exact trivial | refine Le.cons rfl ?_))⟩
    ·
     replace h66 := of_decide_eq_false h66
     have hjl : j = p.threads.length := by omega
     subst hjl
     rw [List.take_length] at hy
     refine wp_exit ?_
     refine hK9 _ _ ?_; clear hK9
     refine cSeq (fun K15 hK15 => ?_)
     refine cSeq (fun K16 hK16 => ?_)
     refine cReg ?_
     refine sMv F rfl rfl rfl ?_
     clear F a; intro a F
     refine sLen Tryd.underlying44 F rfl rfl rfl ?_
     clear F a; intro a F
     refine sMv F rfl rfl rfl ?_
     clear F a; intro a F
     refine sNil ?_
     refine hK16 _ _ ?_; clear hK16
     refine wp_block ?_
     refine cLoopR [3, 7, 9, 11, 13, 74, 75] (fun m ups w => ∃ (j : Nat) (s : By), m = r.length - j ∧ ups = [(76, .int .i64 ((j : Nat) : Int))] ∧ j ≤ r.length ∧ RightM p mc s ∧ RunM p mc s (r.drop j) z ∧ Own w0 none w [.blk b11 (bs 142 s) 41, .blk b8 (bs 38 (finalP z)) 64, .rws 50 3 (.slice A r.length c) (r.map Pss.cells), .blk b3 ([.string p.name, .slice LA p.locs.length LC, .slice IA p.init.length IC, .slice TA p.threads.length TC, Go.Proofs.YtjephfjnohgcbaaDoor.b8 p.ask] ++ [c1, c2, c3, c4, c5]) 29]) F (r.length) [(76, .int .i64 ((0 : Nat) : Int))] (by repeat (first | exact SubR.nil | (apply SubR.cons; · rfl))) ?_ ?_ ?_
     · exact ⟨0, startP p, rfl, rfl, by omega, hr0, hruns, H⟩
     · repeat (first | exact trivial | refine Le.cons rfl ?_)
     clear F
     clear H
     intro m ups a w hI F
     obtain ⟨j, s, rfl, rfl, hj, hr, hrest, H⟩ := hI
     refine cSeq (fun K17 hK17 => ?_)
     refine cReg ?_
     refine sBin F rfl rfl rfl rfl bLss ?_
     clear F a; intro a F
     refine sNil ?_
     refine hK17 _ _ ?_; clear hK17
     refine cSeq (fun K18 hK18 => ?_)
     refine cIf F rfl (fun h77 => ?_) (fun h77 => ?_)
     ·
      replace h77 := of_decide_eq_true h77
      have hjl : j < r.length := by omega
      obtain ⟨x, hx⟩ : ∃ x, r[j]? = some x := ⟨_, List.getElem?_eq_getElem hjl⟩
      rw [drop_next hx] at hrest
      obtain ⟨hxm, hrest'⟩ := hrest.uncons
      have eMR : movesR p mc s = movesM p mc s := movesR_eq hr
      have hxr : x ∈ movesR p mc s := by rw [eMR]; exact hxm
      have eS1 : moveSM p mc s x = stepM p mc s x := if_pos hxr
      have eE1 : moveEM p mc s x = 0 := if_pos hxr
      have hr2 := (went hr hxm).right
      obtain ⟨bL, oL, rfl, _⟩ := H.rowsAt 2 rfl (rowX _) (by decide) _ _ (by rw [List.getElem?_map, hx]; rfl)
      refine wp_skip ?_
      refine hK18 _ _ ?_; clear hK18
      refine cSeq (fun K19 hK19 => ?_)
      refine wp_block ?_
      refine cSeq (fun K20 hK20 => ?_)
      refine cReg ?_
      refine sIx Tryd.underlying44 Tryd.sizeOf50 F rfl rfl rfl rfl ?_ ?_
      focus (first | omega | decide | (simp; omega))
      clear F a; intro a F
      refine sLr Tryd.underlying50 rfl ?si F rfl rfl rfl (by obtain ⟨b', o', h1, h2⟩ := H.rowsAt 2 rfl (rowX _) (by decide) _ _ (by rw [List.getElem?_map, hx]; rfl); cases h1; exact h2) ?_
      case si => exact info_size Tryd.sizeOf50
      clear F a; intro a F
      refine sAl H Tryd.zeroValue50 F rfl rfl ?_
      clear F a H; intro b17 a w F H
      refine sSr H 0 ?si F rfl rfl rfl ?s1 rfl rfl ?_
      case si => exact info_size Tryd.sizeOf50
      case s1 => first | rfl | (repeat (first | exact one_nil | (apply one_cons; · first | rfl | assumption | exact one_bif rfl rfl)))
      clear H; intro w H
      refine sNil ?_
      refine hK20 _ _ ?_; clear hK20
      refine cSeq (fun K21 hK21 => ?_)
      refine cReg ?_
      refine sLr Tryd.underlying29 rfl ?si F rfl rfl rfl (H.whole 4 rfl) ?_
      case si => exact info_size Tryd.sizeOf29
      clear F a; intro a F
      refine sMv F rfl rfl rfl ?_
      clear F a; intro a F
      refine sLrB Tryd.underlying41 rfl Tryd.sizeOf41 F rfl rfl rfl (H.whole 1 rfl) ?_
      clear F a; intro a F
      refine sCall Tryd.call10 F rfl rfl rfl (movesR_any _ p _ (hP0.own H) (hN.own H) mc s) ?_
      rintro e w ⟨A4, c4', rfl, H2⟩
      replace H := H.join H2; clear H2; rw [eMR] at H; rw [eMR]
      refine ⟨_, rfl, ?_⟩
      clear F a; intro a F
      refine sAs F rfl rfl rfl ?_
      clear F a; intro a F
      refine sNil ?_
      refine hK21 _ _ ?_; clear hK21
      refine cSeq (fun K22 hK22 => ?_)
      refine cSeq (fun K23 hK23 => ?_)
      refine cReg ?_
      refine sFa (f := 3) (k := 3) Tryd.underlying29 rfl Tryd.sizeOf24 rfl rfl F rfl rfl rfl ?_
      clear F a; intro a F
      refine sLd Tryd.isAgg24 F rfl rfl rfl (H.cell 5 rfl rfl) ?_
      clear F a; intro a F
      refine sLen Tryd.underlying24 F rfl rfl rfl ?_
      clear F a; intro a F
      refine sMv F rfl rfl rfl ?_
      clear F a; intro a F
      refine sNil ?_
      refine hK23 _ _ ?_; clear hK23
      refine wp_block ?_
      refine cLoopR [3, 7, 9, 11, 13, 17, 18, 74, 75, 76, 86] (fun m ups w => ∃ (t : Nat), m = p.threads.length - t ∧ ups = [(87, .int .i64 ((t : Nat) : Int))] ∧ t ≤ p.threads.length ∧ Own w0 none w [.rws 50 3 (.slice A4 (movesM p mc s).length c4') ((movesM p mc s).map Pss.cells), .blk b17 x.cells 50, .blk b11 (bs 142 s) 41, .blk b8 (bs 38 (finalP z)) 64, .rws 50 3 (.slice (some ⟨bL, oL, none⟩) r.length c) (r.map Pss.cells), .blk b3 ([.string p.name, .slice LA p.locs.length LC, .slice IA p.init.length IC, .slice TA p.threads.length TC, Go.Proofs.YtjephfjnohgcbaaDoor.b8 p.ask] ++ [c1, c2, c3, c4, c5]) 29]) F (p.threads.length) [(87, .int .i64 ((0 : Nat) : Int))] (by repeat (first | exact SubR.nil | (apply SubR.cons; · rfl))) ?_ ?_ ?_
      · exact ⟨0, rfl, rfl, by omega, H.sel [0, 1, 2, 3, 4, 5] rfl rfl⟩
      · repeat (first | exact trivial | refine Le.cons rfl ?_)
      clear F
      clear H
      intro m ups a w hI F
      obtain ⟨t, rfl, rfl, htl, H⟩ := hI
      refine cSeq (fun K24 hK24 => ?_)
      refine cReg ?_
      refine sBin F rfl rfl rfl rfl bLss ?_
      clear F a; intro a F
      refine sNil ?_
      refine hK24 _ _ ?_; clear hK24
      refine cSeq (fun K25 hK25 => ?_)
      refine cIf F rfl (fun h88 => ?_) (fun h88 => ?_)
      ·
       replace h88 := of_decide_eq_true h88
       have htl : t < p.threads.length := by omega
       have ht4 : t < 4 := by omega
       obtain ⟨l, hl⟩ : ∃ l, p.threads[t]? = some l := ⟨_, List.getElem?_eq_getElem htl⟩
       have hl12 := hV.long t l hl
       obtain ⟨bT, oT, BT, CT, rfl, hT1, hT2, hT3⟩ := hp.threads t l hl
       refine wp_skip ?_
       refine hK25 _ _ ?_; clear hK25
       refine cSeq (fun K26 hK26 => ?_)
       refine wp_block ?_
       refine cSeq (fun K27 hK27 => ?_)
       refine cReg ?_
       refine sMv F rfl rfl rfl ?_
       clear F a; intro a F
       refine sAs F rfl rfl rfl ?_
       clear F a; intro a F
       refine sNil ?_
       refine hK27 _ _ ?_; clear hK27
       refine cSeq (fun K28 hK28 => ?_)
       refine cReg ?_
       refine sAs F rfl rfl rfl ?_
       clear F a; intro a F
       refine sAs F rfl rfl rfl ?_
       clear F a; intro a F
       refine sNil ?_
       refine hK28 _ _ ?_; clear hK28
       refine cSeq (fun K29 hK29 => ?_)
       refine cSeq (fun K30 hK30 => ?_)
       refine cReg ?_
       refine sMv F rfl rfl rfl ?_
       clear F a; intro a F
       refine sLen Tryd.underlying44 F rfl rfl rfl ?_
       clear F a; intro a F
       refine sMv F rfl rfl rfl ?_
       clear F a; intro a F
       refine sNil ?_
       refine hK30 _ _ ?_; clear hK30
       refine wp_block ?_
       refine cLoopR [3, 7, 9, 11, 13, 17, 18, 19, 74, 75, 76, 86, 87, 90, 91] (fun m ups w => ∃ (k : Nat) (g d : Bool), m = (movesM p mc s).length - k ∧ ups = [(20, .bool g), (21, .bool d), (92, .int .i64 ((k : Nat) : Int))] ∧ k ≤ (movesM p mc s).length ∧ g = goesP ((movesM p mc s).take k) t ∧ d = drainsP ((movesM p mc s).take k) t ∧ Own w0 none w [.rws 50 3 (.slice A4 (movesM p mc s).length c4') ((movesM p mc s).map Pss.cells), .blk b17 x.cells 50, .blk b11 (bs 142 s) 41, .blk b8 (bs 38 (finalP z)) 64, .rws 50 3 (.slice (some ⟨bL, oL, none⟩) r.length c) (r.map Pss.cells), .blk b3 ([.string p.name, .slice LA p.locs.length LC, .slice IA p.init.length IC, .slice (some ⟨bT, oT, none⟩) p.threads.length TC, Go.Proofs.YtjephfjnohgcbaaDoor.b8 p.ask] ++ [c1, c2, c3, c4, c5]) 29]) F ((movesM p mc s).length) [(20, .bool false), (21, .bool false), (92, .int .i64 ((0 : Nat) : Int))] (by repeat (first | exact SubR.nil | (apply SubR.cons; · rfl))) ?_ ?_ ?_
       · exact ⟨0, false, false, rfl, rfl, by omega, rfl, rfl, H.sel [0, 1, 2, 3, 4, 5] rfl rfl⟩
       · repeat (first | exact trivial | refine Le.cons rfl ?_)
       clear F
       clear H
       intro m ups a w hI F
       obtain ⟨k, g, d, rfl, rfl, hk2, hg, hd, H⟩ := hI
       have hml := (H.rwsLen 0 rfl).2
       simp only [maxLen] at hml
       refine cSeq (fun K31 hK31 => ?_)
       refine cReg ?_
       refine sBin F rfl rfl rfl rfl bLss ?_
       clear F a; intro a F
       refine sNil ?_
       refine hK31 _ _ ?_; clear hK31
       refine cSeq (fun K32 hK32 => ?_)
       refine cIf F rfl (fun h93 => ?_) (fun h93 => ?_)
       ·
        replace h93 := of_decide_eq_true h93
        obtain ⟨y, hy2⟩ : ∃ y, (movesM p mc s)[k]? = some y := ⟨_, List.getElem?_eq_getElem (by omega)⟩
        obtain ⟨bM, oM, rfl, _⟩ := H.rowsAt 0 rfl (rowX _) (by decide) _ _ (by rw [List.getElem?_map, hy2]; rfl)
        refine wp_skip ?_
        refine hK32 _ _ ?_; clear hK32
        refine cSeq (fun K33 hK33 => ?_)
        refine wp_block ?_
        refine cSeq (fun K34 hK34 => ?_)
        refine cReg ?_
        refine sIx Tryd.underlying44 Tryd.sizeOf50 F rfl rfl rfl rfl ?_ ?_
        focus (first | omega | decide | (simp; omega))
        clear F a; intro a F
        refine sLr Tryd.underlying50 rfl ?si F rfl rfl rfl (by obtain ⟨b', o', h1, h2⟩ := H.rowsAt 0 rfl (rowX _) (by decide) _ _ (by rw [List.getElem?_map, hy2]; rfl); cases h1; exact h2) ?_
        case si => exact info_size Tryd.sizeOf50
        clear F a; intro a F
        refine sAl H Tryd.zeroValue50 F rfl rfl ?_
        clear F a H; intro b23 a w F H
        refine sSr H 0 ?si F rfl rfl rfl ?s1 rfl rfl ?_
        case si => exact info_size Tryd.sizeOf50
        case s1 => first | rfl | (repeat (first | exact one_nil | (apply one_cons; · first | rfl | assumption | exact one_bif rfl rfl)))
        clear H; intro w H
        refine sNil ?_
        refine hK34 _ _ ?_; clear hK34
        refine cSeq (fun K35 hK35 => ?_)
        refine cReg ?_
        refine sMv F rfl rfl rfl ?_
        clear F a; intro a F
        refine sMv F rfl rfl rfl ?_
        clear F a; intro a F
        refine F.split 97 rfl ?_ ?_ <;> (clear F; intro h97 F)
        ·
         refine sSk F rfl rfl ?_
         clear F a; intro a F
         refine sSk F rfl rfl ?_
         clear F a; intro a F
         refine sSk F rfl rfl ?_
         clear F a; intro a F
         refine sSk F rfl rfl ?_
         clear F a; intro a F
         refine sSk F rfl rfl ?_
         clear F a; intro a F
         refine sSk F rfl rfl ?_
         clear F a; intro a F
         refine sSk F rfl rfl ?_
         clear F a; intro a F
         refine sSk F rfl rfl ?_
         clear F a; intro a F
         refine sSk F rfl rfl ?_
         clear F a; intro a F
         refine sSk F rfl rfl ?_
         clear F a; intro a F
         refine sPk F rfl rfl rfl rfl ?_
         clear F a; intro a F
         refine sAs F rfl rfl rfl ?_
         clear F a; intro a F
         refine sNil ?_
         refine hK35 _ _ ?_; clear hK35
         refine cReg ?_
         refine sMv F rfl rfl rfl ?_
         clear F a; intro a F
         refine sMv F rfl rfl rfl ?_
         clear F a; intro a F
         refine F.split 110 rfl ?_ ?_ <;> (clear F; intro h110 F)
         ·
          refine sSk F rfl rfl ?_
          clear F a; intro a F
          refine sSk F rfl rfl ?_
          clear F a; intro a F
          refine sSk F rfl rfl ?_
          clear F a; intro a F
          refine sSk F rfl rfl ?_
          clear F a; intro a F
          refine sSk F rfl rfl ?_
          clear F a; intro a F
          refine sSk F rfl rfl ?_
          clear F a; intro a F
          refine sSk F rfl rfl ?_
          clear F a; intro a F
          refine sSk F rfl rfl ?_
          clear F a; intro a F
          refine sSk F rfl rfl ?_
          clear F a; intro a F
          refine sPk F rfl rfl rfl rfl ?_
          clear F a; intro a F
          refine sAs F rfl rfl rfl ?_
          clear F a; intro a F
          refine sNil ?_
          refine hK33 _ _ ?_; clear hK33
          refine cReg ?_
          refine sBin F rfl rfl rfl rfl (bAddN (j := 1) ?_) ?_
          focus omega
          clear F a; intro a F
          refine sMv F rfl rfl rfl ?_
          clear F a; intro a F
          refine sNil ?_
          refine ⟨_, by omega, _, ⟨k + 1, _, _, rfl, rfl, by omega, ?_, ?_, H.sel [1, 2, 3, 4, 5, 6] rfl rfl⟩, F.to (by repeat (first | exact trivial | refine Le.cons rfl ?_))⟩
          · rw [goes_succ hy2, ← hg, h97]
            first
            | rfl
            | (rw [same_t h103]; rfl)
            | (rw [diff_t h103]; rfl)
          · rw [drains_succ hy2, ← hd, h110]
            first
            | rfl
            | (rw [same_t h116]; rfl)
            | (rw [diff_t h116]; rfl)
         ·
          refine sFa (f := 0) (k := 0) Tryd.underlying50 rfl Tryd.sizeOf5 rfl rfl F rfl rfl rfl ?_
          clear F a; intro a F
          refine sLd Tryd.isAgg5 F rfl rfl rfl (H.cell 0 rfl rfl) ?_
          clear F a; intro a F
          refine sCv Tryd.underlying5 Tryd.underlying3 F rfl rfl rfl (wrapB _) ?_
          clear F a; intro a F
          refine sMv F rfl rfl rfl ?_
          clear F a; intro a F
          refine sBin F rfl rfl rfl rfl bEql ?_
          clear F a; intro a F
          refine sMv F rfl rfl rfl ?_
          clear F a; intro a F
          refine F.split 116 rfl ?_ ?_ <;> (clear F; intro h116 F)
          ·
           replace h116 := beqT h116
           refine sFa (f := 1) (k := 1) Tryd.underlying50 rfl Tryd.sizeOf4 rfl rfl F rfl rfl rfl ?_
           clear F a; intro a F
           refine sLd Tryd.isAgg4 F rfl rfl rfl (H.cell 0 rfl rfl) ?_
           clear F a; intro a F
           refine sPk F rfl rfl rfl rfl ?_
           clear F a; intro a F
           refine sPk F rfl rfl rfl rfl ?_
           clear F a; intro a F
           refine sAs F rfl rfl rfl ?_
           clear F a; intro a F
           refine sNil ?_
           refine hK33 _ _ ?_; clear hK33
           refine cReg ?_
           refine sBin F rfl rfl rfl rfl (bAddN (j := 1) ?_) ?_
           focus omega
           clear F a; intro a F
           refine sMv F rfl rfl rfl ?_
           clear F a; intro a F
           refine sNil ?_
           refine ⟨_, by omega, _, ⟨k + 1, _, _, rfl, rfl, by omega, ?_, ?_, H.sel [1, 2, 3, 4, 5, 6] rfl rfl⟩, F.to (by repeat (first | exact trivial | refine Le.cons rfl ?_))⟩
           · rw [goes_succ hy2, ← hg, h97]
             first
             | rfl
             | (rw [same_t h103]; rfl)
             | (rw [diff_t h103]; rfl)
           · rw [drains_succ hy2, ← hd, h110]
             first
             | rfl
             | (rw [same_t h116]; rfl)
             | (rw [diff_t h116]; rfl)
          ·
           replace h116 := beqF h116
           refine sSk F rfl rfl ?_
           clear F a; intro a F
           refine sSk F rfl rfl ?_
           clear F a; intro a F
           refine sPk F rfl rfl rfl rfl ?_
           clear F a; intro a F
           refine sPk F rfl rfl rfl rfl ?_
           clear F a; intro a F
           refine sAs F rfl rfl rfl ?_
           clear F a; intro a F
           refine sNil ?_
           refine hK33 _ _ ?_; clear hK33
           refine cReg ?_
           refine sBin F rfl rfl rfl rfl (bAddN (j := 1) ?_) ?_
           focus omega
           clear F a; intro a F
           refine sMv F rfl rfl rfl ?_
           clear F a; intro a F
           refine sNil ?_
           refine ⟨_, by omega, _, ⟨k + 1, _, _, rfl, rfl, by omega, ?_, ?_, H.sel [1, 2, 3, 4, 5, 6] rfl rfl⟩, F.to (by repeat (first | exact trivial | refine Le.cons rfl ?_))⟩
           · rw [goes_succ hy2, ← hg, h97]
             first
             | rfl
             | (rw [same_t h103]; rfl)
             | (rw [diff_t h103]; rfl)
           · rw [drains_succ hy2, ← hd, h110]
             first
             | rfl
             | (rw [same_t h116]; rfl)
             | (rw [diff_t h116]; rfl)
        ·
         refine sFa (f := 0) (k := 0) Tryd.underlying50 rfl Tryd.sizeOf5 rfl rfl F rfl rfl rfl ?_
         clear F a; intro a F
         refine sLd Tryd.isAgg5 F rfl rfl rfl (H.cell 0 rfl rfl) ?_
         clear F a; intro a F
         refine sCv Tryd.underlying5 Tryd.underlying3 F rfl rfl rfl (wrapB _) ?_
         clear F a; intro a F
         refine sMv F rfl rfl rfl ?_
         clear F a; intro a F
         refine sBin F rfl rfl rfl rfl bEql ?_
         clear F a; intro a F
         refine sMv F rfl rfl rfl ?_
         clear F a; intro a F
         refine F.split 103 rfl ?_ ?_ <;> (clear F; intro h103 F)
         ·
          replace h103 := beqT h103
          refine sFa (f := 1) (k := 1) Tryd.underlying50 rfl Tryd.sizeOf4 rfl rfl F rfl rfl rfl ?_
          clear F a; intro a F
          refine sLd Tryd.isAgg4 F rfl rfl rfl (H.cell 0 rfl rfl) ?_
          clear F a; intro a F
          refine sNot F rfl rfl rfl ?_
          clear F a; intro a F
          refine sPk F rfl rfl rfl rfl ?_
          clear F a; intro a F
          refine sPk F rfl rfl rfl rfl ?_
          clear F a; intro a F
          refine sAs F rfl rfl rfl ?_
          clear F a; intro a F
          refine sNil ?_
          refine hK35 _ _ ?_; clear hK35
          refine cReg ?_
          refine sMv F rfl rfl rfl ?_
          clear F a; intro a F
          refine sMv F rfl rfl rfl ?_
          clear F a; intro a F
          refine F.split 110 rfl ?_ ?_ <;> (clear F; intro h110 F)
          ·
           refine sSk F rfl rfl ?_
           clear F a; intro a F
           refine sSk F rfl rfl ?_
           clear F a; intro a F
           refine sSk F rfl rfl ?_
           clear F a; intro a F
           refine sSk F rfl rfl ?_
           clear F a; intro a F
           refine sSk F rfl rfl ?_
           clear F a; intro a F
           refine sSk F rfl rfl ?_
           clear F a; intro a F
           refine sSk F rfl rfl ?_
           clear F a; intro a F
           refine sSk F rfl rfl ?_
           clear F a; intro a F
           refine sSk F rfl rfl ?_
           clear F a; intro a F
           refine sPk F rfl rfl rfl rfl ?_
           clear F a; intro a F
           refine sAs F rfl rfl rfl ?_
           clear F a; intro a F
           refine sNil ?_
           refine hK33 _ _ ?_; clear hK33
           refine cReg ?_
           refine sBin F rfl rfl rfl rfl (bAddN (j := 1) ?_) ?_
           focus omega
           clear F a; intro a F
           refine sMv F rfl rfl rfl ?_
           clear F a; intro a F
           refine sNil ?_
           refine ⟨_, by omega, _, ⟨k + 1, _, _, rfl, rfl, by omega, ?_, ?_, H.sel [1, 2, 3, 4, 5, 6] rfl rfl⟩, F.to (by repeat (first | exact trivial | refine Le.cons rfl ?_))⟩
           · rw [goes_succ hy2, ← hg, h97]
             first
             | rfl
             | (rw [same_t h103]; rfl)
             | (rw [diff_t h103]; rfl)
           · rw [drains_succ hy2, ← hd, h110]
             first
             | rfl
             | (rw [same_t h116]; rfl)
             | (rw [diff_t h116]; rfl)
          ·
           refine sFa (f := 0) (k := 0) Tryd.underlying50 rfl Tryd.sizeOf5 rfl rfl F rfl rfl rfl ?_
           clear F a; intro a F
           refine sLd Tryd.isAgg5 F rfl rfl rfl (H.cell 0 rfl rfl) ?_
           clear F a; intro a F
           refine sCv Tryd.underlying5 Tryd.underlying3 F rfl rfl rfl (wrapB _) ?_
           clear F a; intro a F
           refine sMv F rfl rfl rfl ?_
           clear F a; intro a F
           refine sBin F rfl rfl rfl rfl bEql ?_
           clear F a; intro a F
           refine sMv F rfl rfl rfl ?_
           clear F a; intro a F
           refine F.split 116 rfl ?_ ?_ <;> (clear F; intro h116 F)
           ·
            replace h116 := beqT h116
            refine sFa (f := 1) (k := 1) Tryd.underlying50 rfl Tryd.sizeOf4 rfl rfl F rfl rfl rfl ?_
            clear F a; intro a F
            refine sLd Tryd.isAgg4 F rfl rfl rfl (H.cell 0 rfl rfl) ?_
            clear F a; intro a F
            refine sPk F rfl rfl rfl rfl ?_
            clear F a; intro a F
            refine sPk F rfl rfl rfl rfl ?_
            clear F a; intro a F
            refine sAs F rfl rfl rfl ?_
            clear F a; intro a F
            refine sNil ?_
            refine hK33 _ _ ?_; clear hK33
            refine cReg ?_
            refine sBin F rfl rfl rfl rfl (bAddN (j := 1) ?_) ?_
            focus omega
            clear F a; intro a F
            refine sMv F rfl rfl rfl ?_
            clear F a; intro a F
            refine sNil ?_
            refine ⟨_, by omega, _, ⟨k + 1, _, _, rfl, rfl, by omega, ?_, ?_, H.sel [1, 2, 3, 4, 5, 6] rfl rfl⟩, F.to (by repeat (first | exact trivial | refine Le.cons rfl ?_))⟩
            · rw [goes_succ hy2, ← hg, h97]
              first
              | rfl
              | (rw [same_t h103]; rfl)
              | (rw [diff_t h103]; rfl)
            · rw [drains_succ hy2, ← hd, h110]
              first
              | rfl
              | (rw [same_t h116]; rfl)
              | (rw [diff_t h116]; rfl)
           ·
            replace h116 := beqF h116
            refine sSk F rfl rfl ?_
            clear F a; intro a F
            refine sSk F rfl rfl ?_
            clear F a; intro a F
            refine sPk F rfl rfl rfl rfl ?_
            clear F a; intro a F
            refine sPk F rfl rfl rfl rfl ?_
            clear F a; intro a F
            refine sAs F rfl rfl rfl ?_
            clear F a; intro a F
            refine sNil ?_
            refine hK33 _ _ ?_; clear hK33
            refine cReg ?_
            refine sBin F rfl rfl rfl rfl (bAddN (j := 1) ?_) ?_
            focus omega
            clear F a; intro a F
            refine sMv F rfl rfl rfl ?_
            clear F a; intro a F
            refine sNil ?_
            refine ⟨_, by omega, _, ⟨k + 1, _, _, rfl, rfl, by omega, ?_, ?_, H.sel [1, 2, 3, 4, 5, 6] rfl rfl⟩, F.to (by repeat (first | exact trivial | refine Le.cons rfl ?_))⟩
            · rw [goes_succ hy2, ← hg, h97]
              first
              | rfl
              | (rw [same_t h103]; rfl)
              | (rw [diff_t h103]; rfl)
            · rw [drains_succ hy2, ← hd, h110]
              first
              | rfl
              | (rw [same_t h116]; rfl)
              | (rw [diff_t h116]; rfl)
         ·
          replace h103 := beqF h103
          refine sSk F rfl rfl ?_
          clear F a; intro a F
          refine sSk F rfl rfl ?_
          clear F a; intro a F
          refine sSk F rfl rfl ?_
          clear F a; intro a F
          refine sPk F rfl rfl rfl rfl ?_
          clear F a; intro a F
          refine sPk F rfl rfl rfl rfl ?_
          clear F a; intro a F
          refine sAs F rfl rfl rfl ?_
          clear F a; intro a F
          refine sNil ?_
          refine hK35 _ _ ?_; clear hK35
          refine cReg ?_
          refine sMv F rfl rfl rfl ?_
          clear F a; intro a F
          refine sMv F rfl rfl rfl ?_
          clear F a; intro a F
          refine F.split 110 rfl ?_ ?_ <;> (clear F; intro h110 F)
          ·
           refine sSk F rfl rfl ?_
           clear F a; intro a F
           refine sSk F rfl rfl ?_
           clear F a; intro a F
           refine sSk F rfl rfl ?_
           clear F a; intro a F
           refine sSk F rfl rfl ?_
           clear F a; intro a F
           refine sSk F rfl rfl ?_
           clear F a; intro a F
           refine sSk F rfl rfl ?_
           clear F a; intro a F
           refine sSk F rfl rfl ?_
           clear F a; intro a F
           refine sSk F rfl rfl ?_
           clear F a; intro a F
           refine sSk F rfl rfl ?_
           clear F a; intro a F
           refine sPk F rfl rfl rfl rfl ?_
           clear F a; intro a F
           refine sAs F rfl rfl rfl ?_
           clear F a; intro a F
           refine sNil ?_
           refine hK33 _ _ ?_; clear hK33
           refine cReg ?_
           refine sBin F rfl rfl rfl rfl (bAddN (j := 1) ?_) ?_
           focus omega
           clear F a; intro a F
           refine sMv F rfl rfl rfl ?_
           clear F a; intro a F
           refine sNil ?_
           refine ⟨_, by omega, _, ⟨k + 1, _, _, rfl, rfl, by omega, ?_, ?_, H.sel [1, 2, 3, 4, 5, 6] rfl rfl⟩, F.to (by repeat (first | exact trivial | refine Le.cons rfl ?_))⟩
           · rw [goes_succ hy2, ← hg, h97]
             first
             | rfl
             | (rw [same_t h103]; rfl)
             | (rw [diff_t h103]; rfl)
           · rw [drains_succ hy2, ← hd, h110]
             first
             | rfl
             | (rw [same_t h116]; rfl)
             | (rw [diff_t h116]; rfl)
          ·
           refine sFa (f := 0) (k := 0) Tryd.underlying50 rfl Tryd.sizeOf5 rfl rfl F rfl rfl rfl ?_
           clear F a; intro a F
           refine sLd Tryd.isAgg5 F rfl rfl rfl (H.cell 0 rfl rfl) ?_
           clear F a; intro a F
           refine sCv Tryd.underlying5 Tryd.underlying3 F rfl rfl rfl (wrapB _) ?_
           clear F a; intro a F
           refine sMv F rfl rfl rfl ?_
           clear F a; intro a F
           refine sBin F rfl rfl rfl rfl bEql ?_
           clear F a; intro a F
           refine sMv F rfl rfl rfl ?_
           clear F a; intro a F
           refine F.split 116 rfl ?_ ?_ <;> (clear F; intro h116 F)
           ·
            replace h116 := beqT h116
            refine sFa (f := 1) (k := 1) Tryd.underlying50 rfl Tryd.sizeOf4 rfl rfl F rfl rfl rfl ?_
            clear F a; intro a F
            refine sLd Tryd.isAgg4 F rfl rfl rfl (H.cell 0 rfl rfl) ?_
            clear F a; intro a F
            refine sPk F rfl rfl rfl rfl ?_
            clear F a; intro a F
            refine sPk F rfl rfl rfl rfl ?_
            clear F a; intro a F
            refine sAs F rfl rfl rfl ?_
            clear F a; intro a F
            refine sNil ?_
            refine hK33 _ _ ?_; clear hK33
            refine cReg ?_
            refine sBin F rfl rfl rfl rfl (bAddN (j := 1) ?_) ?_
            focus omega
            clear F a; intro a F
            refine sMv F rfl rfl rfl ?_
            clear F a; intro a F
            refine sNil ?_
            refine ⟨_, by omega, _, ⟨k + 1, _, _, rfl, rfl, by omega, ?_, ?_, H.sel [1, 2, 3, 4, 5, 6] rfl rfl⟩, F.to (by repeat (first | exact trivial | refine Le.cons rfl ?_))⟩
            · rw [goes_succ hy2, ← hg, h97]
              first
              | rfl
              | (rw [same_t h103]; rfl)
              | (rw [diff_t h103]; rfl)
            · rw [drains_succ hy2, ← hd, h110]
              first
              | rfl
              | (rw [same_t h116]; rfl)
              | (rw [diff_t h116]; rfl)
           ·
            replace h116 := beqF h116
            refine sSk F rfl rfl ?_
            clear F a; intro a F
            refine sSk F rfl rfl ?_
            clear F a; intro a F
            refine sPk F rfl rfl rfl rfl ?_
            clear F a; intro a F
            refine sPk F rfl rfl rfl rfl ?_
            clear F a; intro a F
            refine sAs F rfl rfl rfl ?_
            clear F a; intro a F
            refine sNil ?_
            refine hK33 _ _ ?_; clear hK33
            refine cReg ?_
            refine sBin F rfl rfl rfl rfl (bAddN (j := 1) ?_) ?_
            focus omega
            clear F a; intro a F
            refine sMv F rfl rfl rfl ?_
            clear F a; intro a F
            refine sNil ?_
            refine ⟨_, by omega, _, ⟨k + 1, _, _, rfl, rfl, by omega, ?_, ?_, H.sel [1, 2, 3, 4, 5, 6] rfl rfl⟩, F.to (by repeat (first | exact trivial | refine Le.cons rfl ?_))⟩
            · rw [goes_succ hy2, ← hg, h97]
              first
              | rfl
              | (rw [same_t h103]; rfl)
              | (rw [diff_t h103]; rfl)
            · rw [drains_succ hy2, ← hd, h110]
              first
              | rfl
              | (rw [same_t h116]; rfl)
              | (rw [diff_t h116]; rfl)
       ·
        replace h93 := of_decide_eq_false h93
        obtain rfl : k = (movesM p mc s).length := by omega
        rw [List.take_length] at hg hd
        rw [goes_iff hr htl] at hg
        rw [drains_iff hr htl] at hd
        have f1 : g = false → d = false → (s (t * 9)).toNat < l.length → False := fun a1 a2 a3 => by
         have h0 : manyB s t = 0 := by
          have := of_decide_eq_false (hd.symm.trans a2)
          omega
         rw [enabled_go hl a3 h0] at hg
         rw [hg] at a1; cases a1
        have f2 : l.length ≤ (s (t * 9)).toNat → g = true → False := fun a1 a2 => by
         rw [enabled_end hl a1] at hg
         rw [hg] at a2; cases a2
        rw [many_dec] at hd
        refine wp_exit ?_
        refine hK29 _ _ ?_; clear hK29
        refine cSeq (fun K36 hK36 => ?_)
        refine cReg ?_
        refine sMv F rfl rfl rfl ?_
        clear F a; intro a F
        refine sFa (f := 0) (k := 0) Tryd.underlying41 rfl Tryd.sizeOf33 rfl rfl F rfl rfl rfl ?_
        clear F a; intro a F
        refine sIaZ Tryd.underlying33 Tryd.sizeOf32 F rfl rfl rfl rfl ?_ ?_
        focus (first | omega | decide | (simp; omega))
        clear F a; intro a F
        refine sFaZ (f := 0) Tryd.underlying32 rfl Tryd.sizeOf5 rfl rfl F rfl rfl rfl ?_
        clear F a; intro a F
        refine sLd Tryd.isAgg5 F rfl rfl rfl (H.cellB 2 rfl (by omega)) ?_
        clear F a; intro a F
        refine sCv Tryd.underlying5 Tryd.underlying3 F rfl rfl rfl (wrapB _) ?_
        clear F a; intro a F
        refine sAs F rfl rfl rfl ?_
        clear F a; intro a F
        refine sNil ?_
        refine hK36 _ _ ?_; clear hK36
        refine cSeqJ [3, 7, 9, 11, 13, 17, 18, 19, 20, 24, 74, 75, 76, 86, 87] (fun ups w => ups = [] ∧ Own w0 none w [.rws 50 3 (.slice A4 (movesM p mc s).length c4') ((movesM p mc s).map Pss.cells), .blk b17 x.cells 50, .blk b11 (bs 142 s) 41, .blk b8 (bs 38 (finalP z)) 64, .rws 50 3 (.slice (some ⟨bL, oL, none⟩) r.length c) (r.map Pss.cells), .blk b3 ([.string p.name, .slice LA p.locs.length LC, .slice IA p.init.length IC, .slice (some ⟨bT, oT, none⟩) p.threads.length TC, Go.Proofs.YtjephfjnohgcbaaDoor.b8 p.ask] ++ [c1, c2, c3, c4, c5]) 29]) F (by repeat (first | exact SubR.nil | (apply SubR.cons; · rfl))) ?_ ?_
        ·
         refine cSeq (fun K37 hK37 => ?_)
         refine cReg ?_
         refine sMv F rfl rfl rfl ?_
         clear F a; intro a F
         refine sMv F rfl rfl rfl ?_
         clear F a; intro a F
         refine sFa (f := 3) (k := 138) Tryd.underlying41 rfl Tryd.sizeOf39 rfl rfl F rfl rfl rfl ?_
         clear F a; intro a F
         refine sIa1 Tryd.underlying39 Tryd.sizeOf5 F rfl rfl rfl rfl ?_ ?_
         focus (first | omega | decide | (simp; omega))
         clear F a; intro a F
         refine sLd Tryd.isAgg5 F rfl rfl rfl (H.cellB 2 rfl (by omega)) ?_
         clear F a; intro a F
         refine sBin F rfl rfl rfl rfl (bGtrB (y := 0)) ?_
         clear F a; intro a F
         refine sBin F rfl rfl rfl rfl (bBoolNe Tryd.underlying4) ?_
         clear F a; intro a F
         refine sMv F rfl rfl rfl ?_
         clear F a; intro a F
         refine F.split 135 rfl ?_ ?_ <;> (clear F; intro h135 F)
         ·
          replace h135 := nbeqT h135
          exact absurd hd h135
         ·
          replace h135 := nbeqF h135
          refine sMv F rfl rfl rfl ?_
          clear F a; intro a F
          refine sFa (f := 3) (k := 3) Tryd.underlying29 rfl Tryd.sizeOf24 rfl rfl F rfl rfl rfl ?_
          clear F a; intro a F
          refine sLd Tryd.isAgg24 F rfl rfl rfl (H.cell 5 rfl rfl) ?_
          clear F a; intro a F
          refine sMv F rfl rfl rfl ?_
          clear F a; intro a F
          refine sIx Tryd.underlying24 Tryd.sizeOf59 F rfl rfl rfl rfl ?_ ?_
          focus (first | omega | decide | (simp; omega))
          clear F a; intro a F
          refine sLd Tryd.isAgg59 F rfl rfl rfl (H.arg hT1) ?_
          clear F a; intro a F
          refine sLen Tryd.underlying59 F rfl rfl rfl ?_
          clear F a; intro a F
          refine sBin F rfl rfl rfl rfl bLss ?_
          clear F a; intro a F
          refine sMv F rfl rfl rfl ?_
          clear F a; intro a F
          refine F.split 144 rfl ?_ ?_ <;> (clear F; intro h144 F)
          ·
           replace h144 := of_decide_eq_true h144
           refine sMv F rfl rfl rfl ?_
           clear F a; intro a F
           refine sNot F rfl rfl rfl ?_
           clear F a; intro a F
           refine sPk F rfl rfl rfl rfl ?_
           clear F a; intro a F
           refine sMv F rfl rfl rfl ?_
           clear F a; intro a F
           refine F.split 148 rfl ?_ ?_ <;> (clear F; intro h148 F)
           ·
            replace h148 := notT h148
            refine sMv F rfl rfl rfl ?_
            clear F a; intro a F
            refine sNot F rfl rfl rfl ?_
            clear F a; intro a F
            refine sPk F rfl rfl rfl rfl ?_
            clear F a; intro a F
            refine sPk F rfl rfl rfl rfl ?_
            clear F a; intro a F
            refine sMv F rfl rfl rfl ?_
            clear F a; intro a F
            refine F.split 153 rfl ?_ ?_ <;> (clear F; intro h153 F)
            ·
             replace h153 := notT h153
             exact (f1 h148 h153 (by omega)).elim
            ·
             replace h153 := notF h153
             refine sMv F rfl rfl rfl ?_
             clear F a; intro a F
             refine sFa (f := 3) (k := 3) Tryd.underlying29 rfl Tryd.sizeOf24 rfl rfl F rfl rfl rfl ?_
             clear F a; intro a F
             refine sLd Tryd.isAgg24 F rfl rfl rfl (H.cell 5 rfl rfl) ?_
             clear F a; intro a F
             refine sMv F rfl rfl rfl ?_
             clear F a; intro a F
             refine sIx Tryd.underlying24 Tryd.sizeOf59 F rfl rfl rfl rfl ?_ ?_
             focus (first | omega | decide | (simp; omega))
             clear F a; intro a F
             refine sLd Tryd.isAgg59 F rfl rfl rfl (H.arg hT1) ?_
             clear F a; intro a F
             refine sLen Tryd.underlying59 F rfl rfl rfl ?_
             clear F a; intro a F
             refine sBin F rfl rfl rfl rfl bGeq ?_
             clear F a; intro a F
             refine sMv F rfl rfl rfl ?_
             clear F a; intro a F
             refine F.split 162 rfl ?_ ?_ <;> (clear F; intro h162 F)
             ·
              replace h162 := of_decide_eq_true h162
              refine sMv F rfl rfl rfl ?_
              clear F a; intro a F
              refine sPk F rfl rfl rfl rfl ?_
              clear F a; intro a F
              refine sPk F rfl rfl rfl rfl ?_
              clear F a; intro a F
              refine sNil ?_
              refine hK37 _ _ ?_; clear hK37
              refine cIf F rfl (fun h165 => ?_) (fun h165 => ?_)
              ·
               exact (f2 (by omega) h165).elim
              ·
               refine wp_skip ?_
               exact ⟨_, ⟨rfl, H.sel [0, 1, 2, 3, 4, 5] rfl rfl⟩, F.to (by repeat (first | exact trivial | refine Le.cons rfl ?_))⟩
             ·
              replace h162 := of_decide_eq_false h162
              refine sSk F rfl rfl ?_
              clear F a; intro a F
              refine sPk F rfl rfl rfl rfl ?_
              clear F a; intro a F
              refine sPk F rfl rfl rfl rfl ?_
              clear F a; intro a F
              refine sNil ?_
              refine hK37 _ _ ?_; clear hK37
              refine cIfF F rfl ?_
              refine wp_skip ?_
              exact ⟨_, ⟨rfl, H.sel [0, 1, 2, 3, 4, 5] rfl rfl⟩, F.to (by repeat (first | exact trivial | refine Le.cons rfl ?_))⟩
           ·
            replace h148 := notF h148
            refine sSk F rfl rfl ?_
            clear F a; intro a F
            refine sSk F rfl rfl ?_
            clear F a; intro a F
            refine sPk F rfl rfl rfl rfl ?_
            clear F a; intro a F
            refine sPk F rfl rfl rfl rfl ?_
            clear F a; intro a F
            refine sMv F rfl rfl rfl ?_
            clear F a; intro a F
            refine sMv F rfl rfl rfl ?_
            clear F a; intro a F
            refine sFa (f := 3) (k := 3) Tryd.underlying29 rfl Tryd.sizeOf24 rfl rfl F rfl rfl rfl ?_
            clear F a; intro a F
            refine sLd Tryd.isAgg24 F rfl rfl rfl (H.cell 5 rfl rfl) ?_
            clear F a; intro a F
            refine sMv F rfl rfl rfl ?_
            clear F a; intro a F
            refine sIx Tryd.underlying24 Tryd.sizeOf59 F rfl rfl rfl rfl ?_ ?_
            focus (first | omega | decide | (simp; omega))
            clear F a; intro a F
            refine sLd Tryd.isAgg59 F rfl rfl rfl (H.arg hT1) ?_
            clear F a; intro a F
            refine sLen Tryd.underlying59 F rfl rfl rfl ?_
            clear F a; intro a F
            refine sBin F rfl rfl rfl rfl bGeq ?_
            clear F a; intro a F
            refine sMv F rfl rfl rfl ?_
            clear F a; intro a F
            refine F.split 162 rfl ?_ ?_ <;> (clear F; intro h162 F)
            ·
             replace h162 := of_decide_eq_true h162
             refine sMv F rfl rfl rfl ?_
             clear F a; intro a F
             refine sPk F rfl rfl rfl rfl ?_
             clear F a; intro a F
             refine sPk F rfl rfl rfl rfl ?_
             clear F a; intro a F
             refine sNil ?_
             refine hK37 _ _ ?_; clear hK37
             refine cIf F rfl (fun h165 => ?_) (fun h165 => ?_)
             ·
              exact (f2 (by omega) h165).elim
             ·
              refine wp_skip ?_
              exact ⟨_, ⟨rfl, H.sel [0, 1, 2, 3, 4, 5] rfl rfl⟩, F.to (by repeat (first | exact trivial | refine Le.cons rfl ?_))⟩
            ·
             replace h162 := of_decide_eq_false h162
             refine sSk F rfl rfl ?_
             clear F a; intro a F
             refine sPk F rfl rfl rfl rfl ?_
             clear F a; intro a F
             refine sPk F rfl rfl rfl rfl ?_
             clear F a; intro a F
             refine sNil ?_
             refine hK37 _ _ ?_; clear hK37
             refine cIfF F rfl ?_
             refine wp_skip ?_
             exact ⟨_, ⟨rfl, H.sel [0, 1, 2, 3, 4, 5] rfl rfl⟩, F.to (by repeat (first | exact trivial | refine Le.cons rfl ?_))⟩
          ·
           replace h144 := of_decide_eq_false h144
           refine sSk F rfl rfl ?_
           clear F a; intro a F
           refine sSk F rfl rfl ?_
           clear F a; intro a F
           refine sPk F rfl rfl rfl rfl ?_
           clear F a; intro a F
           refine sMv F rfl rfl rfl ?_
           clear F a; intro a F
           refine sSk F rfl rfl ?_
           clear F a; intro a F
           refine sSk F rfl rfl ?_
           clear F a; intro a F
           refine sPk F rfl rfl rfl rfl ?_
           clear F a; intro a F
           refine sPk F rfl rfl rfl rfl ?_
           clear F a; intro a F
           refine sMv F rfl rfl rfl ?_
           clear F a; intro a F
           refine sMv F rfl rfl rfl ?_
           clear F a; intro a F
           refine sFa (f := 3) (k := 3) Tryd.underlying29 rfl Tryd.sizeOf24 rfl rfl F rfl rfl rfl ?_
           clear F a; intro a F
           refine sLd Tryd.isAgg24 F rfl rfl rfl (H.cell 5 rfl rfl) ?_
           clear F a; intro a F
           refine sMv F rfl rfl rfl ?_
           clear F a; intro a F
           refine sIx Tryd.underlying24 Tryd.sizeOf59 F rfl rfl rfl rfl ?_ ?_
           focus (first | omega | decide | (simp; omega))
           clear F a; intro a F
           refine sLd Tryd.isAgg59 F rfl rfl rfl (H.arg hT1) ?_
           clear F a; intro a F
           refine sLen Tryd.underlying59 F rfl rfl rfl ?_
           clear F a; intro a F
           refine sBin F rfl rfl rfl rfl bGeq ?_
           clear F a; intro a F
           refine sMv F rfl rfl rfl ?_
           clear F a; intro a F
           refine F.split 162 rfl ?_ ?_ <;> (clear F; intro h162 F)
           ·
            replace h162 := of_decide_eq_true h162
            refine sMv F rfl rfl rfl ?_
            clear F a; intro a F
            refine sPk F rfl rfl rfl rfl ?_
            clear F a; intro a F
            refine sPk F rfl rfl rfl rfl ?_
            clear F a; intro a F
            refine sNil ?_
            refine hK37 _ _ ?_; clear hK37
            refine cIf F rfl (fun h165 => ?_) (fun h165 => ?_)
            ·
             exact (f2 (by omega) h165).elim
            ·
             refine wp_skip ?_
             exact ⟨_, ⟨rfl, H.sel [0, 1, 2, 3, 4, 5] rfl rfl⟩, F.to (by repeat (first | exact trivial | refine Le.cons rfl ?_))⟩
           ·
            replace h162 := of_decide_eq_false h162
            refine sSk F rfl rfl ?_
            clear F a; intro a F
            refine sPk F rfl rfl rfl rfl ?_
            clear F a; intro a F
            refine sPk F rfl rfl rfl rfl ?_
            clear F a; intro a F
            refine sNil ?_
            refine hK37 _ _ ?_; clear hK37
            refine cIfF F rfl ?_
            refine wp_skip ?_
            exact ⟨_, ⟨rfl, H.sel [0, 1, 2, 3, 4, 5] rfl rfl⟩, F.to (by repeat (first | exact trivial | refine Le.cons rfl ?_))⟩
        clear F H
        intro ups a w hI F
        obtain ⟨rfl, H⟩ := hI
        refine cSeq (fun K38 hK38 => ?_)
        refine cReg ?_
        refine sMv F rfl rfl rfl ?_
        clear F a; intro a F
        refine sMv F rfl rfl rfl ?_
        clear F a; intro a F
        refine F.split 167 rfl ?_ ?_ <;> (clear F; intro h167 F)
        ·
         refine sMv F rfl rfl rfl ?_
         clear F a; intro a F
         refine sFa (f := 3) (k := 138) Tryd.underlying41 rfl Tryd.sizeOf39 rfl rfl F rfl rfl rfl ?_
         clear F a; intro a F
         refine sIa1 Tryd.underlying39 Tryd.sizeOf5 F rfl rfl rfl rfl ?_ ?_
         focus (first | omega | decide | (simp; omega))
         clear F a; intro a F
         refine sLd Tryd.isAgg5 F rfl rfl rfl (H.cellB 2 rfl (by omega)) ?_
         clear F a; intro a F
         refine sBin F rfl rfl rfl rfl (bGtrB (y := 0)) ?_
         clear F a; intro a F
         refine sPk F rfl rfl rfl rfl ?_
         clear F a; intro a F
         refine sNil ?_
         refine hK38 _ _ ?_; clear hK38
         refine cIf F rfl (fun h173 => ?_) (fun h173 => ?_)
         ·
          replace h173 := of_decide_eq_true h173
          have hg1 : g = true := h167
          have hpcl : (s (t * 9)).toNat < l.length := by
           apply Decidable.byContradiction
           intro hn
           exact f2 (by omega) hg1
          obtain ⟨i, hi⟩ : ∃ i, l[(s (t * 9)).toNat]? = some i := ⟨_, List.getElem?_eq_getElem hpcl⟩
          obtain ⟨bI, oI, rfl, hI⟩ := hT2 (s (t * 9)).toNat i.cells (by rw [List.getElem?_map, hi]; rfl)
          have hw := enabled_wait hl hi (hg.symm.trans hg1) (by unfold manyB; have := UInt8.lt_iff_toNat_lt.1 h173; exact this)
          refine cSeq (fun K39 hK39 => ?_)
          refine cReg ?_
          refine sFa (f := 3) (k := 3) Tryd.underlying29 rfl Tryd.sizeOf24 rfl rfl F rfl rfl rfl ?_
          clear F a; intro a F
          refine sLd Tryd.isAgg24 F rfl rfl rfl (H.cell 5 rfl rfl) ?_
          clear F a; intro a F
          refine sMv F rfl rfl rfl ?_
          clear F a; intro a F
          refine sIx Tryd.underlying24 Tryd.sizeOf59 F rfl rfl rfl rfl ?_ ?_
          focus (first | omega | decide | (simp; omega))
          clear F a; intro a F
          refine sLd Tryd.isAgg59 F rfl rfl rfl (H.arg hT1) ?_
          clear F a; intro a F
          refine sMv F rfl rfl rfl ?_
          clear F a; intro a F
          refine sIx Tryd.underlying59 Tryd.sizeOf58 F rfl rfl rfl rfl ?_ ?_
          focus exact hpcl
          clear F a; intro a F
          refine sLr Tryd.underlying58 rfl ?si F rfl rfl rfl (H.argR hI) ?_
          case si => exact info_size Tryd.sizeOf58
          clear F a; intro a F
          refine sAl H Tryd.zeroValue58 F rfl rfl ?_
          clear F a H; intro b25 a w F H
          refine sSr H 0 ?si F rfl rfl rfl ?s1 rfl rfl ?_
          case si => exact info_size Tryd.sizeOf58
          case s1 => first | rfl | (repeat (first | exact one_nil | (apply one_cons; · first | rfl | assumption | exact one_bif rfl rfl)))
          clear H; intro w H
          refine sNil ?_
          refine hK39 _ _ ?_; clear hK39
          refine cSeq (fun K40 hK40 => ?_)
          refine cReg ?_
          refine sFa (f := 0) (k := 0) Tryd.underlying58 rfl Tryd.sizeOf5 rfl rfl F rfl rfl rfl ?_
          clear F a; intro a F
          refine sLd Tryd.isAgg5 F rfl rfl rfl (H.cell 0 rfl rfl) ?_
          clear F a; intro a F
          refine sBin F rfl rfl rfl rfl (bGeqB (y := 4)) ?_
          clear F a; intro a F
          refine sMv F rfl rfl rfl ?_
          clear F a; intro a F
          refine F.split 185 rfl ?_ ?_ <;> (clear F; intro h185 F)
          ·
           replace h185 := of_decide_eq_true h185
           refine sFa (f := 0) (k := 0) Tryd.underlying58 rfl Tryd.sizeOf5 rfl rfl F rfl rfl rfl ?_
           clear F a; intro a F
           refine sLd Tryd.isAgg5 F rfl rfl rfl (H.cell 0 rfl rfl) ?_
           clear F a; intro a F
           refine sBin F rfl rfl rfl rfl (bLeqB (y := 6)) ?_
           clear F a; intro a F
           refine sPk F rfl rfl rfl rfl ?_
           clear F a; intro a F
           refine sMv F rfl rfl rfl ?_
           clear F a; intro a F
           refine F.split 190 rfl ?_ ?_ <;> (clear F; intro h190 F)
           ·
            replace h190 := of_decide_eq_true h190
            exact absurd (op456 h185 h190) hw.1
           ·
            replace h190 := of_decide_eq_false h190
            refine sFa (f := 0) (k := 0) Tryd.underlying58 rfl Tryd.sizeOf5 rfl rfl F rfl rfl rfl ?_
            clear F a; intro a F
            refine sLd Tryd.isAgg5 F rfl rfl rfl (H.cell 0 rfl rfl) ?_
            clear F a; intro a F
            refine sBin F rfl rfl rfl rfl (bEqlB (y := 7)) ?_
            clear F a; intro a F
            refine sMv F rfl rfl rfl ?_
            clear F a; intro a F
            refine F.split 194 rfl ?_ ?_ <;> (clear F; intro h194 F)
            ·
             replace h194 := beqT h194
             refine sFa (f := 6) (k := 8) Tryd.underlying58 rfl Tryd.sizeOf5 rfl rfl F rfl rfl rfl ?_
             clear F a; intro a F
             refine sLd Tryd.isAgg5 F rfl rfl rfl (H.cell 0 rfl rfl) ?_
             clear F a; intro a F
             refine sBin F rfl rfl rfl rfl (bEqlB (y := 3)) ?_
             clear F a; intro a F
             refine sPk F rfl rfl rfl rfl ?_
             clear F a; intro a F
             refine sPk F rfl rfl rfl rfl ?_
             clear F a; intro a F
             refine sNil ?_
             refine hK40 _ _ ?_; clear hK40
             refine cIf F rfl (fun h199 => ?_) (fun h199 => ?_)
             ·
              replace h199 := beqT h199
              exact absurd ⟨h194, h199⟩ hw.2
             ·
              replace h199 := beqF h199
              refine wp_skip ?_
              refine hK26 _ _ ?_; clear hK26
              refine cReg ?_
              refine sBin F rfl rfl rfl rfl (bAddN (j := 1) ?_) ?_
              focus omega
              clear F a; intro a F
              refine sMv F rfl rfl rfl ?_
              clear F a; intro a F
              refine sNil ?_
              exact ⟨_, by omega, _, ⟨t + 1, rfl, rfl, by omega, H.sel [1, 2, 3, 4, 5, 6] rfl rfl⟩, F.to (by repeat (first | exact trivial | refine Le.cons rfl ?_))⟩
            ·
             replace h194 := beqF h194
             refine sSk F rfl rfl ?_
             clear F a; intro a F
             refine sSk F rfl rfl ?_
             clear F a; intro a F
             refine sSk F rfl rfl ?_
             clear F a; intro a F
             refine sPk F rfl rfl rfl rfl ?_
             clear F a; intro a F
             refine sPk F rfl rfl rfl rfl ?_
             clear F a; intro a F
             refine sNil ?_
             refine hK40 _ _ ?_; clear hK40
             refine cIfF F rfl ?_
             refine wp_skip ?_
             refine hK26 _ _ ?_; clear hK26
             refine cReg ?_
             refine sBin F rfl rfl rfl rfl (bAddN (j := 1) ?_) ?_
             focus omega
             clear F a; intro a F
             refine sMv F rfl rfl rfl ?_
             clear F a; intro a F
             refine sNil ?_
             exact ⟨_, by omega, _, ⟨t + 1, rfl, rfl, by omega, H.sel [1, 2, 3, 4, 5, 6] rfl rfl⟩, F.to (by repeat (first | exact trivial | refine Le.cons rfl ?_))⟩
          ·
           replace h185 := of_decide_eq_false h185
           refine sSk F rfl rfl ?_
           clear F a; intro a F
           refine sSk F rfl rfl ?_
           clear F a; intro a F
           refine sSk F rfl rfl ?_
           clear F a; intro a F
           refine sPk F rfl rfl rfl rfl ?_
           clear F a; intro a F
           refine sMv F rfl rfl rfl ?_
           clear F a; intro a F
           refine sFa (f := 0) (k := 0) Tryd.underlying58 rfl Tryd.sizeOf5 rfl rfl F rfl rfl rfl ?_
           clear F a; intro a F
           refine sLd Tryd.isAgg5 F rfl rfl rfl (H.cell 0 rfl rfl) ?_
           clear F a; intro a F
           refine sBin F rfl rfl rfl rfl (bEqlB (y := 7)) ?_
           clear F a; intro a F
           refine sMv F rfl rfl rfl ?_
           clear F a; intro a F
           refine F.split 194 rfl ?_ ?_ <;> (clear F; intro h194 F)
           ·
            replace h194 := beqT h194
            refine sFa (f := 6) (k := 8) Tryd.underlying58 rfl Tryd.sizeOf5 rfl rfl F rfl rfl rfl ?_
            clear F a; intro a F
            refine sLd Tryd.isAgg5 F rfl rfl rfl (H.cell 0 rfl rfl) ?_
            clear F a; intro a F
            refine sBin F rfl rfl rfl rfl (bEqlB (y := 3)) ?_
            clear F a; intro a F
            refine sPk F rfl rfl rfl rfl ?_
            clear F a; intro a F
            refine sPk F rfl rfl rfl rfl ?_
            clear F a; intro a F
            refine sNil ?_
            refine hK40 _ _ ?_; clear hK40
            refine cIf F rfl (fun h199 => ?_) (fun h199 => ?_)
            ·
             replace h199 := beqT h199
             exact absurd ⟨h194, h199⟩ hw.2
            ·
             replace h199 := beqF h199
             refine wp_skip ?_
             refine hK26 _ _ ?_; clear hK26
             refine cReg ?_
             refine sBin F rfl rfl rfl rfl (bAddN (j := 1) ?_) ?_
             focus omega
             clear F a; intro a F
             refine sMv F rfl rfl rfl ?_
             clear F a; intro a F
             refine sNil ?_
             exact ⟨_, by omega, _, ⟨t + 1, rfl, rfl, by omega, H.sel [1, 2, 3, 4, 5, 6] rfl rfl⟩, F.to (by repeat (first | exact trivial | refine Le.cons rfl ?_))⟩
           ·
            replace h194 := beqF h194
            refine sSk F rfl rfl ?_
            clear F a; intro a F
            refine sSk F rfl rfl ?_
            clear F a; intro a F
            refine sSk F rfl rfl ?_
            clear F a; intro a F
            refine sPk F rfl rfl rfl rfl ?_
            clear F a; intro a F
            refine sPk F rfl rfl rfl rfl ?_
            clear F a; intro a F
            refine sNil ?_
            refine hK40 _ _ ?_; clear hK40
            refine cIfF F rfl ?_
            refine wp_skip ?_
            refine hK26 _ _ ?_; clear hK26
            refine cReg ?_
            refine sBin F rfl rfl rfl rfl (bAddN (j := 1) ?_) ?_
            focus omega
            clear F a; intro a F
            refine sMv F rfl rfl rfl ?_
            clear F a; intro a F
            refine sNil ?_
            exact ⟨_, by omega, _, ⟨t + 1, rfl, rfl, by omega, H.sel [1, 2, 3, 4, 5, 6] rfl rfl⟩, F.to (by repeat (first | exact trivial | refine Le.cons rfl ?_))⟩
         ·
          replace h173 := of_decide_eq_false h173
          refine wp_skip ?_
          refine hK26 _ _ ?_; clear hK26
          refine cReg ?_
          refine sBin F rfl rfl rfl rfl (bAddN (j := 1) ?_) ?_
          focus omega
          clear F a; intro a F
          refine sMv F rfl rfl rfl ?_
          clear F a; intro a F
          refine sNil ?_
          exact ⟨_, by omega, _, ⟨t + 1, rfl, rfl, by omega, H.sel [0, 1, 2, 3, 4, 5] rfl rfl⟩, F.to (by repeat (first | exact trivial | refine Le.cons rfl ?_))⟩
        ·
         refine sSk F rfl rfl ?_
         clear F a; intro a F
         refine sSk F rfl rfl ?_
         clear F a; intro a F
         refine sSk F rfl rfl ?_
         clear F a; intro a F
         refine sSk F rfl rfl ?_
         clear F a; intro a F
         refine sSk F rfl rfl ?_
         clear F a; intro a F
         refine sPk F rfl rfl rfl rfl ?_
         clear F a; intro a F
         refine sNil ?_
         refine hK38 _ _ ?_; clear hK38
         refine cIfF F rfl ?_
         refine wp_skip ?_
         refine hK26 _ _ ?_; clear hK26
         refine cReg ?_
         refine sBin F rfl rfl rfl rfl (bAddN (j := 1) ?_) ?_
         focus omega
         clear F a; intro a F
         refine sMv F rfl rfl rfl ?_
         clear F a; intro a F
         refine sNil ?_
         exact ⟨_, by omega, _, ⟨t + 1, rfl, rfl, by omega, H.sel [0, 1, 2, 3, 4, 5] rfl rfl⟩, F.to (by repeat (first | exact trivial | refine Le.cons rfl ?_))⟩
      ·
       replace h88 := of_decide_eq_false h88
       refine wp_exit ?_
       refine hK22 _ _ ?_; clear hK22
       refine cSeq (fun K41 hK41 => ?_)
       refine cReg ?_
       refine sLr Tryd.underlying29 rfl ?si F rfl rfl rfl (H.whole 5 rfl) ?_
       case si => exact info_size Tryd.sizeOf29
       clear F a; intro a F
       refine sMv F rfl rfl rfl ?_
       clear F a; intro a F
       refine sLrB Tryd.underlying41 rfl Tryd.sizeOf41 F rfl rfl rfl (H.whole 2 rfl) ?_
       clear F a; intro a F
       refine sLr Tryd.underlying50 rfl ?si F rfl rfl rfl (H.whole 1 rfl) ?_
       case si => exact info_size Tryd.sizeOf50
       clear F a; intro a F
       refine sCall Tryd.call13 F rfl rfl rfl (moveM_any _ p _ (hP0.own H) (hN.own H) mc s x) ?_
       rintro e w ⟨rfl, hb⟩
       replace H := H.grow hb; clear hb
       refine ⟨_, rfl, ?_⟩
       clear F a; intro a F
       refine sMv F rfl rfl rfl ?_
       clear F a; intro a F
       refine sExt F rfl rfl rfl rfl ?_
       clear F a; intro a F
       refine sExt F rfl rfl rfl rfl ?_
       clear F a; intro a F
       refine sSrB H 2 Tryd.sizeOf41 F rfl rfl rfl rfl (by omega) ?_
       clear H; intro w H
       rw [lay_all] at H
       refine sAs F rfl rfl rfl ?_
       clear F a; intro a F
       refine sNil ?_
       refine hK41 _ _ ?_; clear hK41
       refine cSeq (fun K42 hK42 => ?_)
       refine cReg ?_
       refine sMv F rfl rfl rfl ?_
       clear F a; intro a F
       refine sBin F rfl rfl rfl rfl bNeq ?_
       clear F a; intro a F
       refine sMv F rfl rfl rfl ?_
       clear F a; intro a F
       refine F.split 211 rfl ?_ ?_ <;> (clear F; intro h211 F)
       ·
        replace h211 := bneT h211
        exact absurd eE1 h211
       ·
        replace h211 := bneF h211
        rw [eS1] at H
        refine sLr Tryd.underlying29 rfl ?si F rfl rfl rfl (H.whole 5 rfl) ?_
        case si => exact info_size Tryd.sizeOf29
        clear F a; intro a F
        refine sMv F rfl rfl rfl ?_
        clear F a; intro a F
        refine sLrB Tryd.underlying41 rfl Tryd.sizeOf41 F rfl rfl rfl (H.whole 2 rfl) ?_
        clear F a; intro a F
        refine sCall Tryd.call24 F rfl rfl rfl (rightM_any _ p _ (hP0.own H) (hN.own H) mc _) ?_
        rintro e w ⟨rfl, hb⟩
        replace H := H.grow hb; clear hb
        refine ⟨_, rfl, ?_⟩
        clear F a; intro a F
        refine sNot F rfl rfl rfl ?_
        clear F a; intro a F
        refine sPk F rfl rfl rfl rfl ?_
        clear F a; intro a F
        refine sNil ?_
        refine hK42 _ _ ?_; clear hK42
        refine cIf F rfl (fun h217 => ?_) (fun h217 => ?_)
        ·
         replace h217 := notT h217
         exact notEq (rightM_iff.2 hr2) h217
        ·
         replace h217 := notF h217
         refine wp_skip ?_
         refine hK19 _ _ ?_; clear hK19
         refine cReg ?_
         refine sBin F rfl rfl rfl rfl (bAddN (j := 1) ?_) ?_
         focus omega
         clear F a; intro a F
         refine sMv F rfl rfl rfl ?_
         clear F a; intro a F
         refine sNil ?_
         exact ⟨_, by omega, _, ⟨j + 1, stepM p mc s x, rfl, rfl, by omega, hr2, hrest', H.sel [2, 3, 4, 5] rfl rfl⟩, F.to (by repeat (first | exact trivial | refine Le.cons rfl ?_))⟩
     ·
      replace h77 := of_decide_eq_false h77
      obtain rfl : j = r.length := by omega
      rw [List.drop_length] at hrest
      obtain rfl := hrest.nil
      have hO : (rightM p mc z && (movesM p mc z).length == 0) = true := by rw [rightM_iff.2 hrz, hz]; rfl
      have hS : same 4 (cut z 138) zb = true := same_iff.2 fun i hi => UInt8.toNat_inj.1 ((over_of hrz hz).1 i hi)
      refine wp_exit ?_
      refine hK15 _ _ ?_; clear hK15
      refine cSeq (fun K43 hK43 => ?_)
      refine cReg ?_
      refine sMv F rfl rfl rfl ?_
      clear F a; intro a F
      refine sLen Tryd.underlying44 F rfl rfl rfl ?_
      clear F a; intro a F
      refine sMv F rfl rfl rfl ?_
      clear F a; intro a F
      refine sBin F rfl rfl rfl rfl (bMul2 (m := y) (by omega)) ?_
      clear F a; intro a F
      refine sBin F rfl rfl rfl rfl bLeq ?_
      clear F a; intro a F
      refine sMv F rfl rfl rfl ?_
      clear F a; intro a F
      refine F.split 224 rfl ?_ ?_ <;> (clear F; intro h224 F)
      ·
       replace h224 := of_decide_eq_true h224
       refine sLr Tryd.underlying29 rfl ?si F rfl rfl rfl (H.whole 3 rfl) ?_
       case si => exact info_size Tryd.sizeOf29
       clear F a; intro a F
       refine sMv F rfl rfl rfl ?_
       clear F a; intro a F
       refine sLrB Tryd.underlying41 rfl Tryd.sizeOf41 F rfl rfl rfl (H.whole 0 rfl) ?_
       clear F a; intro a F
       refine sCall Tryd.call19 F rfl rfl rfl (overM_any _ p _ (hP0.own H) (hN.own H) mc z) ?_
       rintro e w ⟨rfl, hb⟩
       replace H := H.grow hb; clear hb
       refine ⟨_, rfl, ?_⟩
       clear F a; intro a F
       refine sPk F rfl rfl rfl rfl ?_
       clear F a; intro a F
       refine sMv F rfl rfl rfl ?_
       clear F a; intro a F
       refine F.split 230 rfl ?_ ?_ <;> (clear F; intro h230 F)
       ·
        refine sFa (f := 3) (k := 138) Tryd.underlying41 rfl Tryd.sizeOf39 rfl rfl F rfl rfl rfl ?_
        clear F a; intro a F
        refine sLrB Tryd.underlying39 rfl Tryd.sizeOf39 F rfl rfl rfl (H.rangeB 0 _ 4 rfl (by omega)) ?_
        clear F a; intro a F
        refine sBaB zB39 Tryd.underlying39 Tryd.sizeOf5 F rfl rfl rfl FillB.nil ?_
        clear F a; intro a F
        refine sBin F rfl rfl rfl rfl (bEqY eT39 gT39 rfl) ?_
        clear F a; intro a F
        refine sPk F rfl rfl rfl rfl ?_
        clear F a; intro a F
        refine sMv F rfl rfl rfl ?_
        clear F a; intro a F
        refine F.split 236 rfl ?_ ?_ <;> (clear F; intro h236 F)
        ·
         refine sCall Tryd.call12 F rfl rfl rfl (awake14_any _ (hN.own H)) ?_
         rintro e w ⟨rfl, hb⟩
         replace H := H.grow hb; clear hb
         refine ⟨_, rfl, ?_⟩
         clear F a; intro a F
         refine sPk F rfl rfl rfl rfl ?_
         clear F a; intro a F
         refine sAs F rfl rfl rfl ?_
         clear F a; intro a F
         refine sNil ?_
         refine hK43 _ _ ?_; clear hK43
         refine wp_ret ?_
         refine bRet Tryd.results7 F rfl ?_
         exact ⟨rfl, H.below⟩
        ·
         exact notEq hS h236
       ·
        exact notEq hO h230
      ·
       replace h224 := of_decide_eq_false h224
       exact (by omega : False).elim
end Go.Proofs.YtjephfjnohgcbaaDoor
