/-
  WALK2. Layer 13's reference: Right, Start. Conditions: the program lies in memory; its condition's depth is a number that an int holds.
-/
import Derived.Test.YtfemniboggnbiaaDoorRfD
set_option linter.unusedSimpArgs false
set_option linter.unusedVariables false
namespace Go.Proofs.YtfemniboggnbiaaDoor
open Go.RowKit
set_option maxRecDepth 100000

theorem z8 {x : UInt8} : x.toNat = 0 ↔ x = 0 := ⟨fun h => UInt8.toNat_inj.1 h, fun h => by rw [h]; rfl⟩
/-- Thread t's buffer is empty, and no place of it is in use. -/
def bufZ (s : By) (t : Nat) : Prop := s (138 + t) = 0 ∧ ∀ k, k < 24 → s (42 + t * 24 + k) = 0
def stateZ (p : Prg) (s : By) : Prop := (∀ t, t < 4 → threadSt p s t = true ∧ bufZ s t) ∧ ∀ i, p.locs.length ≤ i → i < 6 → s (36 + i) = 0
theorem right_iff {p : Prg} {s : By} (hp : rightErr p = 0) : rightS p s = true ↔ stateZ p s := by
  unfold rightS stateOk
  rw [hp]
  simp only [Bool.and_eq_true, beq_iff_eq, allB_iff, same_iff, true_and]
  constructor
  · rintro ⟨⟨ht, hm⟩, hb, hy⟩
    refine ⟨fun t h4 => ⟨ht t h4, hy t h4, fun k hk => ?_⟩, fun i hi h6 => ?_⟩
    · have := hb (t * 24 + k) (by omega)
      unfold cut zb at this
      rw [show 42 + t * 24 + k = 42 + (t * 24 + k) by omega]; exact this
    · have := hm i h6
      rw [memSt_out hi] at this
      exact eq_of_beq this
  · rintro ⟨h1, h2⟩
    refine ⟨⟨fun i hi => (h1 i hi).1, fun k hk => ?_⟩, fun i hi => ?_, fun i hi => (h1 i hi).2.1⟩
    · rcases Nat.lt_or_ge k p.locs.length with h | h
      · exact memSt_in h
      · rw [memSt_out h, h2 k h hk]; rfl
    · have := (h1 (i / 24) (by omega)).2.2 (i % 24) (Nat.mod_lt _ (by omega))
      rw [show 42 + i / 24 * 24 + i % 24 = 42 + i by omega] at this
      exact this
theorem threadSt_none' {p : Prg} {s : By} {j : Nat} (h : p.threads.length ≤ j) : threadSt p s j = true ↔ ∀ i, i < 9 → s (j * 9 + i) = 0 := by
  rw [threadSt_none h, same_iff]; rfl
theorem lt_succ_all {P : Nat → Prop} {k : Nat} : (∀ i, i < k + 1 → P i) ↔ (∀ i, i < k → P i) ∧ P k :=
  ⟨fun h => ⟨fun i hi => h i (by omega), h k (by omega)⟩, fun h i hi => by
    rcases Nat.lt_or_ge i k with h1 | h1
    · exact h.1 i h1
    · obtain rfl : i = k := by omega
      exact h.2⟩
set_option maxHeartbeats 4000000 in
theorem r13right_any (cs : List Value) (p : Prg) (w0 : World) (hP : ProgAt w0 cs p) (hd : deepC p.cond ≤ 9223372036854775807) (s : By) :
    Calls Tryd.prog 26 #[.agg cs.toArray, .agg (bs 142 s).toArray] w0 fun e w' => e = .returned (.bool (rightS p s)) ∧ Below w0.heap.size w0 w' := by
  have H := Own.start w0 none
  have hP0 := hP
  obtain ⟨LA, LC, IA, IC, TA, TC, h, ccs, hp⟩ := hP
  obtain ⟨c1, c2, c3, c4, c5, rfl⟩ := len5 (condAt_len hp.cond)
  have hcs := hp.cs
  subst hcs
  have hn := hp.threadsN
  have hm := hp.locsN
  refine enterF Tryd.func26 rfl Tryd.ntmps26 rfl (fun a F => ?_)
  refine cSeq (fun K1 hK1 => ?_)
  refine cReg ?_
  refine sBx H F rfl rfl rfl ?_
  clear F a H; intro b2 a w F H
  refine sBxB H F rfl rfl rfl ?_
  clear F a H; intro b3 a w F H
  refine sAs F rfl rfl rfl ?_
  clear F a; intro a F
  refine sNil ?_
  refine hK1 _ _ ?_; clear hK1
  refine cSeq (fun K2 hK2 => ?_)
  refine cSeq (fun K3 hK3 => ?_)
  refine cReg ?_
  refine sLr Tryd.underlying29 rfl ?si F rfl rfl rfl (H.whole 1 rfl) ?_
  case si => exact info_size Tryd.sizeOf29
  clear F a; intro a F
  refine sCall Tryd.call39 F rfl rfl rfl (rright_any _ p _ (hP0.own H) hd) ?_
  rintro e w ⟨rfl, hb⟩
  replace H := H.grow hb; clear hb
  refine ⟨_, rfl, ?_⟩
  clear F a; intro a F
  refine sBin F rfl rfl rfl rfl bNeq ?_
  clear F a; intro a F
  refine sNil ?_
  refine hK3 _ _ ?_; clear hK3
  refine cIf F rfl (fun h13 => ?_) (fun h13 => ?_)
  ·
   replace h13 := bneT h13
   refine cSeq (fun K4 hK4 => ?_)
   refine cReg ?_
   refine sAs F rfl rfl rfl ?_
   clear F a; intro a F
   refine sNil ?_
   refine hK4 _ _ ?_; clear hK4
   refine wp_ret ?_
   simp only [Exit.then]
   refine bRet Tryd.results26 F rfl ?_
   refine ⟨retB ?_, H.below⟩
   clear F H
   first
     | exact (rightS_err h13).symm
     | (rw [Bool.eq_iff_iff, right_iff hp0, beq_iff_eq]
        obtain rfl : k = 6 := by omega
        unfold stateZ
        rw [← hz6]
        omega)
  ·
   replace h13 := bneF h13
   have hp0 : rightErr p = 0 := h13
   have hv := valid hp0
   have hv4 := hv.thr4
   have hv6 := hv.locs6
   refine wp_skip ?_
   refine hK2 _ _ ?_; clear hK2
   refine cSeq (fun K5 hK5 => ?_)
   refine cReg ?_
   refine sAs F rfl rfl rfl ?_
   clear F a; intro a F
   refine sNil ?_
   refine hK5 _ _ ?_; clear hK5
   refine cSeq (fun K6 hK6 => ?_)
   refine cSeq (fun K7 hK7 => ?_)
   refine cReg ?_
   refine sAs F rfl rfl rfl ?_
   clear F a; intro a F
   refine sNil ?_
   refine hK7 _ _ ?_; clear hK7
   refine wp_block ?_
   refine cLoopR [2, 3] (fun m ups w => ∃ j n : Nat, m = 4 - j ∧ ups = [(5, .int .i64 ((n : Nat) : Int)), (6, .int .i64 ((j : Nat) : Int))] ∧ j ≤ 4 ∧ n ≤ 20000 * j ∧ (n = 0 ↔ ∀ i, i < j → threadSt p s i = true ∧ bufZ s i) ∧ Own w0 none w [.blk b3 (bs 142 s) 41, .blk b2 ([.string p.name, .slice LA p.locs.length LC, .slice IA p.init.length IC, .slice TA p.threads.length TC, B8 p.ask] ++ [c1, c2, c3, c4, c5]) 29]) F (4) [(5, .int .i64 ((0 : Nat) : Int)), (6, .int .i64 ((0 : Nat) : Int))] (by repeat (first | exact SubR.nil | (apply SubR.cons; · rfl))) ?_ ?_ ?_
   · exact ⟨0, 0, rfl, rfl, by omega, by omega, ⟨fun _ i hi => by omega, fun _ => rfl⟩, H⟩
   · repeat (first | exact trivial | refine Le.cons rfl ?_)
   clear F
   clear H
   intro m ups a w hI F
   obtain ⟨j, n, rfl, rfl, hj, hnj, hz, H⟩ := hI
   refine cSeq (fun K8 hK8 => ?_)
   refine cSeq (fun K9 hK9 => ?_)
   refine cReg ?_
   refine sMv F rfl rfl rfl ?_
   clear F a; intro a F
   refine sBin F rfl rfl rfl rfl bLss ?_
   clear F a; intro a F
   refine sNil ?_
   refine hK9 _ _ ?_; clear hK9
   refine cIf F rfl (fun h15 => ?_) (fun h15 => ?_)
   ·
    replace h15 := of_decide_eq_true h15
    have hj4 : j < 4 := by omega
    refine wp_skip ?_
    refine hK8 _ _ ?_; clear hK8
    refine cSeq (fun K10 hK10 => ?_)
    refine wp_block ?_
    refine cSeq (fun K11 hK11 => ?_)
    refine cReg ?_
    refine sMv F rfl rfl rfl ?_
    clear F a; intro a F
    refine sFa (f := 0) (k := 0) Tryd.underlying41 rfl Tryd.sizeOf33 rfl rfl F rfl rfl rfl ?_
    clear F a; intro a F
    refine sIaZ Tryd.underlying33 Tryd.sizeOf32 F rfl rfl rfl rfl ?_ ?_
    focus (first | omega | decide | (simp; omega))
    clear F a; intro a F
    refine sLrB Tryd.underlying32 rfl Tryd.sizeOf32 F rfl rfl rfl (H.rangeB 0 _ 9 rfl (by omega)) ?_
    clear F a; intro a F
    refine sAlB H zB32 F rfl rfl ?_
    clear F a H; intro b7 a w F H
    refine sSrB H 0 Tryd.sizeOf32 F rfl rfl rfl rfl (by omega) ?_
    clear H; intro w H
    rw [lay_all] at H
    refine sNil ?_
    refine hK11 _ _ ?_; clear hK11
    refine cSeqJ [2, 3, 6] (fun ups w => ∃ n3 : Nat, ups = [(5, .int .i64 ((n3 : Nat) : Int))] ∧ n3 ≤ n + 3000 ∧ (n3 = 0 ↔ n = 0 ∧ threadSt p s j = true) ∧ Own w0 none w [.blk b7 (bs 9 (cut s (j * 9))) 32, .blk b3 (bs 142 s) 41, .blk b2 ([.string p.name, .slice LA p.locs.length LC, .slice IA p.init.length IC, .slice TA p.threads.length TC, B8 p.ask] ++ [c1, c2, c3, c4, c5]) 29]) F (by repeat (first | exact SubR.nil | (apply SubR.cons; · rfl))) ?_ ?_
    ·
     refine cSeq (fun K12 hK12 => ?_)
     refine cReg ?_
     refine sMv F rfl rfl rfl ?_
     clear F a; intro a F
     refine sFa (f := 3) (k := 3) Tryd.underlying29 rfl Tryd.sizeOf24 rfl rfl F rfl rfl rfl ?_
     clear F a; intro a F
     refine sLd Tryd.isAgg24 F rfl rfl rfl (H.cell 2 rfl rfl) ?_
     clear F a; intro a F
     refine sLen Tryd.underlying24 F rfl rfl rfl ?_
     clear F a; intro a F
     refine sBin F rfl rfl rfl rfl bLss ?_
     clear F a; intro a F
     refine sNil ?_
     refine hK12 _ _ ?_; clear hK12
     refine cIf F rfl (fun h26 => ?_) (fun h26 => ?_)
     ·
      replace h26 := of_decide_eq_true h26
      have hjl : j < p.threads.length := by omega
      obtain ⟨l, hl⟩ : ∃ l, p.threads[j]? = some l := ⟨_, List.getElem?_eq_getElem hjl⟩
      obtain ⟨bT, oT, BT, CT, rfl, hT1, hT2, hT3⟩ := hp.threads j l hl
      refine cSeq (fun K13 hK13 => ?_)
      refine cRegRO (by kernel_rfl) H ?_
      replace H := H.drew
      refine eTakeF (k := 0) (i := 0) rfl (by kernel_rfl) F rfl rfl rfl (fun w => rFa (f := 0) (k := 0) Tryd.underlying32 rfl Tryd.sizeOf5 rfl rfl F rfl) (H.sel [0, 1, 2] rfl rfl) (fun _ _ _ h => h) ?_
      clear F a; intro a F
      refine eTake (k := 1) (i := 1) rfl (by kernel_rfl) F rfl rfl rfl rfl (fun w H => rLd Tryd.isAgg5 F rfl (H.cellB 0 rfl (by omega))) (H.sel [0, 1, 2] rfl rfl) (fun _ _ _ h => h) ?_
      clear F a; intro a F
      refine eTakeF (k := 2) (i := 2) rfl (by kernel_rfl) F rfl rfl rfl (fun w => rCv Tryd.underlying5 Tryd.underlying3 F rfl (wrapB _)) (H.sel [0, 1, 2] rfl rfl) (fun _ _ _ h => h) ?_
      clear F a; intro a F
      refine eTakeF (k := 3) (i := 3) rfl (by kernel_rfl) F rfl rfl rfl (fun w => rFa (f := 3) (k := 3) Tryd.underlying29 rfl Tryd.sizeOf24 rfl rfl F rfl) (H.sel [0, 1, 2] rfl rfl) (fun _ _ _ h => h) ?_
      clear F a; intro a F
      refine eTake (k := 4) (i := 4) rfl (by kernel_rfl) F rfl rfl rfl rfl (fun w H => rLd Tryd.isAgg24 F rfl (H.cell 2 rfl rfl)) (H.sel [0, 1, 2] rfl rfl) (fun _ _ _ h => h) ?_
      clear F a; intro a F
      refine eTakeF (k := 5) (i := 5) rfl (by kernel_rfl) F rfl rfl rfl (fun w => rMv F rfl) (H.sel [0, 1, 2] rfl rfl) (fun _ _ _ h => h) ?_
      clear F a; intro a F
      refine eTakeF (k := 6) (i := 6) rfl (by kernel_rfl) F rfl rfl rfl (fun w => rIx Tryd.underlying24 Tryd.sizeOf53 F rfl rfl ?_) (H.sel [0, 1, 2] rfl rfl) (fun _ _ _ h => h) ?_
      focus (first | omega | decide | (simp; omega))
      clear F a; intro a F
      refine eTake (k := 7) (i := 7) rfl (by kernel_rfl) F rfl rfl rfl rfl (fun w H => rLd Tryd.isAgg53 F rfl (H.arg hT1)) (H.sel [0, 1, 2] rfl rfl) (fun _ _ _ h => h) ?_
      clear F a; intro a F
      refine eTake (k := 8) (i := 8) rfl (by kernel_rfl) F rfl rfl rfl rfl (fun w H => rLen Tryd.underlying53 F rfl) (H.sel [0, 1, 2] rfl rfl) (fun _ _ _ h => h) ?_
      clear F a; intro a F
      refine eTakeF (k := 9) (i := 9) rfl (by kernel_rfl) F rfl rfl rfl (fun w => rBin F rfl rfl bGtr) (H.sel [0, 1, 2] rfl rfl) (fun _ _ _ h => h) ?_
      clear F a; intro a F
      refine eNil (k := 10) (by kernel_rfl) ?_
      refine hK13 _ _ ?_; clear hK13
      refine cIf F rfl (fun h36 => ?_) (fun h36 => ?_)
      ·
       replace h36 := of_decide_eq_true h36
       refine cReg ?_
       refine sMv F rfl rfl rfl ?_
       clear F a; intro a F
       refine sBin F rfl rfl rfl rfl (bAddN (j := 1) ?_) ?_
       focus omega
       clear F a; intro a F
       refine sAs F rfl rfl rfl ?_
       clear F a; intro a F
       refine sNil ?_
       first
         | exact ⟨_, ⟨n + 1, rfl, by omega, ⟨fun h => by omega, fun h => absurd h.2 (by rw [threadSt_some hl, decide_eq_false (by simp only [cut, Nat.add_zero] at h36; omega)]; simp)⟩, H⟩, F.to (by repeat (first | exact trivial | refine Le.cons rfl ?_))⟩
         | exact ⟨_, ⟨n, rfl, by omega, ⟨fun h => ⟨h, by rw [threadSt_some hl]; exact decide_eq_true (by simp only [cut, Nat.add_zero] at h36; omega)⟩, fun h => h.1⟩, H⟩, F.to (by repeat (first | exact trivial | refine Le.cons rfl ?_))⟩
         | exact ⟨_, ⟨n2, rfl, by omega, by rw [hz2, threadSt_none' (by omega)], H⟩, F.to (by repeat (first | exact trivial | refine Le.cons rfl ?_))⟩
      ·
       replace h36 := of_decide_eq_false h36
       refine wp_skip ?_
       first
         | exact ⟨_, ⟨n + 1, rfl, by omega, ⟨fun h => by omega, fun h => absurd h.2 (by rw [threadSt_some hl, decide_eq_false (by simp only [cut, Nat.add_zero] at h36; omega)]; simp)⟩, H⟩, F.to (by repeat (first | exact trivial | refine Le.cons rfl ?_))⟩
         | exact ⟨_, ⟨n, rfl, by omega, ⟨fun h => ⟨h, by rw [threadSt_some hl]; exact decide_eq_true (by simp only [cut, Nat.add_zero] at h36; omega)⟩, fun h => h.1⟩, H⟩, F.to (by repeat (first | exact trivial | refine Le.cons rfl ?_))⟩
         | exact ⟨_, ⟨n2, rfl, by omega, by rw [hz2, threadSt_none' (by omega)], H⟩, F.to (by repeat (first | exact trivial | refine Le.cons rfl ?_))⟩
     ·
      replace h26 := of_decide_eq_false h26
      have hb0 := (cut s (j * 9) 0).toNat_lt
      refine cSeq (fun K14 hK14 => ?_)
      refine cReg ?_
      refine sMv F rfl rfl rfl ?_
      clear F a; intro a F
      refine sFa (f := 0) (k := 0) Tryd.underlying32 rfl Tryd.sizeOf5 rfl rfl F rfl rfl rfl ?_
      clear F a; intro a F
      refine sLd Tryd.isAgg5 F rfl rfl rfl (H.cellB 0 rfl (by omega)) ?_
      clear F a; intro a F
      refine sCv Tryd.underlying5 Tryd.underlying3 F rfl rfl rfl (wrapB _) ?_
      clear F a; intro a F
      refine sBin F rfl rfl rfl rfl (bAddN ?_) ?_
      focus omega
      clear F a; intro a F
      refine sAs F rfl rfl rfl ?_
      clear F a; intro a F
      refine sNil ?_
      refine hK14 _ _ ?_; clear hK14
      refine cSeq (fun K15 hK15 => ?_)
      refine cReg ?_
      refine sAs F rfl rfl rfl ?_
      clear F a; intro a F
      refine sNil ?_
      refine hK15 _ _ ?_; clear hK15
      refine wp_block ?_
      refine cLoopR [2, 3, 6, 7] (fun m ups w => ∃ k n2 : Nat, m = 8 - k ∧ ups = [(5, .int .i64 ((n2 : Nat) : Int)), (8, .int .i64 ((k : Nat) : Int))] ∧ k ≤ 8 ∧ n2 ≤ n + 255 * (k + 1) ∧ (n2 = 0 ↔ n = 0 ∧ ∀ i, i < k + 1 → s (j * 9 + i) = 0) ∧ Own w0 none w [.blk b7 (bs 9 (cut s (j * 9))) 32, .blk b3 (bs 142 s) 41, .blk b2 ([.string p.name, .slice LA p.locs.length LC, .slice IA p.init.length IC, .slice TA p.threads.length TC, B8 p.ask] ++ [c1, c2, c3, c4, c5]) 29]) F (8) [(5, .int .i64 ((n + (cut s (j * 9) 0).toNat : Nat) : Int)), (8, .int .i64 ((0 : Nat) : Int))] (by repeat (first | exact SubR.nil | (apply SubR.cons; · rfl))) ?_ ?_ ?_
      · (have := (cut s (j * 9) 0).toNat_lt
         exact ⟨0, _, rfl, rfl, by omega, by omega, ⟨fun h => ⟨by omega, fun i hi => by obtain rfl : i = 0 := (by omega); exact z8.1 (show (cut s (j * 9) 0).toNat = 0 by omega)⟩, fun h => by have := z8.2 (h.2 0 (by omega)); simp only [cut]; omega⟩, H⟩)
      · repeat (first | exact trivial | refine Le.cons rfl ?_)
      clear F
      clear H
      intro m ups a w hI F
      obtain ⟨k, n2, rfl, rfl, hk, hn2, hz2, H⟩ := hI
      have hvl := (cut s (j * 9) (1 + k)).toNat_lt
      refine cSeq (fun K16 hK16 => ?_)
      refine cSeq (fun K17 hK17 => ?_)
      refine cReg ?_
      refine sMv F rfl rfl rfl ?_
      clear F a; intro a F
      refine sBin F rfl rfl rfl rfl bLss ?_
      clear F a; intro a F
      refine sNil ?_
      refine hK17 _ _ ?_; clear hK17
      refine cIf F rfl (fun h45 => ?_) (fun h45 => ?_)
      ·
       replace h45 := of_decide_eq_true h45
       refine wp_skip ?_
       refine hK16 _ _ ?_; clear hK16
       refine cSeq (fun K18 hK18 => ?_)
       refine wp_block ?_
       refine cReg ?_
       refine sMv F rfl rfl rfl ?_
       clear F a; intro a F
       refine sMv F rfl rfl rfl ?_
       clear F a; intro a F
       refine sFa (f := 1) (k := 1) Tryd.underlying32 rfl Tryd.sizeOf30 rfl rfl F rfl rfl rfl ?_
       clear F a; intro a F
       refine sIa1 Tryd.underlying30 Tryd.sizeOf5 F rfl rfl rfl rfl ?_ ?_
       focus (first | omega | decide | (simp; omega))
       clear F a; intro a F
       refine sLd Tryd.isAgg5 F rfl rfl rfl (H.cellB 0 rfl (by omega)) ?_
       clear F a; intro a F
       refine sCv Tryd.underlying5 Tryd.underlying3 F rfl rfl rfl (wrapB _) ?_
       clear F a; intro a F
       refine sBin F rfl rfl rfl rfl (bAddN ?_) ?_
       focus omega
       clear F a; intro a F
       refine sAs F rfl rfl rfl ?_
       clear F a; intro a F
       refine sNil ?_
       refine hK18 _ _ ?_; clear hK18
       refine cReg ?_
       refine sMv F rfl rfl rfl ?_
       clear F a; intro a F
       refine sBin F rfl rfl rfl rfl (bAddN (j := 1) ?_) ?_
       focus omega
       clear F a; intro a F
       refine sAs F rfl rfl rfl ?_
       clear F a; intro a F
       refine sNil ?_
       refine ⟨_, by omega, _, ⟨k + 1, n2 + (cut s (j * 9) (1 + k)).toNat, rfl, rfl, by omega, by omega, ?_, H⟩, F.to (by repeat (first | exact trivial | refine Le.cons rfl ?_))⟩
       rw [lt_succ_all (k := k + 1), ← and_assoc, ← hz2, show s (j * 9 + (k + 1)) = cut s (j * 9) (1 + k) from congrArg s (by omega), ← z8]
       omega
      ·
       replace h45 := of_decide_eq_false h45
       obtain rfl : k = 8 := by omega
       refine wp_exit ?_
       first
         | exact ⟨_, ⟨n + 1, rfl, by omega, ⟨fun h => by omega, fun h => absurd h.2 (by rw [threadSt_some hl, decide_eq_false (by simp only [cut, Nat.add_zero] at h36; omega)]; simp)⟩, H⟩, F.to (by repeat (first | exact trivial | refine Le.cons rfl ?_))⟩
         | exact ⟨_, ⟨n, rfl, by omega, ⟨fun h => ⟨h, by rw [threadSt_some hl]; exact decide_eq_true (by simp only [cut, Nat.add_zero] at h36; omega)⟩, fun h => h.1⟩, H⟩, F.to (by repeat (first | exact trivial | refine Le.cons rfl ?_))⟩
         | exact ⟨_, ⟨n2, rfl, by omega, by rw [hz2, threadSt_none' (by omega)], H⟩, F.to (by repeat (first | exact trivial | refine Le.cons rfl ?_))⟩
    clear F H
    intro ups a w hI F
    (obtain ⟨n3, rfl, hn3, hz3, H⟩ := hI; have hbm := (s (138 + j)).toNat_lt)
    refine cSeq (fun K19 hK19 => ?_)
    refine cReg ?_
    refine sMv F rfl rfl rfl ?_
    clear F a; intro a F
    refine sMv F rfl rfl rfl ?_
    clear F a; intro a F
    refine sFa (f := 3) (k := 138) Tryd.underlying41 rfl Tryd.sizeOf39 rfl rfl F rfl rfl rfl ?_
    clear F a; intro a F
    refine sIa1 Tryd.underlying39 Tryd.sizeOf5 F rfl rfl rfl rfl ?_ ?_
    focus (first | omega | decide | (simp; omega))
    clear F a; intro a F
    refine sLd Tryd.isAgg5 F rfl rfl rfl (H.cellB 1 rfl (by omega)) ?_
    clear F a; intro a F
    refine sCv Tryd.underlying5 Tryd.underlying3 F rfl rfl rfl (wrapB _) ?_
    clear F a; intro a F
    refine sBin F rfl rfl rfl rfl (bAddN ?_) ?_
    focus omega
    clear F a; intro a F
    refine sAs F rfl rfl rfl ?_
    clear F a; intro a F
    refine sNil ?_
    refine hK19 _ _ ?_; clear hK19
    refine cSeq (fun K20 hK20 => ?_)
    refine cReg ?_
    refine sAs F rfl rfl rfl ?_
    clear F a; intro a F
    refine sNil ?_
    refine hK20 _ _ ?_; clear hK20
    refine wp_block ?_
    refine cLoopR [2, 3, 6] (fun m ups w => ∃ k n5 : Nat, m = 12 - k ∧ ups = [(5, .int .i64 ((n5 : Nat) : Int)), (9, .int .i64 ((k : Nat) : Int))] ∧ k ≤ 12 ∧ n5 ≤ n + 3255 + 510 * k ∧ (n5 = 0 ↔ (n = 0 ∧ threadSt p s j = true) ∧ s (138 + j) = 0 ∧ ∀ i, i < 2 * k → s (42 + j * 24 + i) = 0) ∧ Own w0 none w [.blk b7 (bs 9 (cut s (j * 9))) 32, .blk b3 (bs 142 s) 41, .blk b2 ([.string p.name, .slice LA p.locs.length LC, .slice IA p.init.length IC, .slice TA p.threads.length TC, B8 p.ask] ++ [c1, c2, c3, c4, c5]) 29]) F (12) [(5, .int .i64 ((n3 + (s (138 + j)).toNat : Nat) : Int)), (9, .int .i64 ((0 : Nat) : Int))] (by repeat (first | exact SubR.nil | (apply SubR.cons; · rfl))) ?_ ?_ ?_
    · (have := (s (138 + j)).toNat_lt
       exact ⟨0, _, rfl, rfl, by omega, by omega, by rw [← hz3, ← z8]; exact ⟨fun h => ⟨by omega, by omega, fun i hi => by omega⟩, fun h => by omega⟩, H⟩)
    · repeat (first | exact trivial | refine Le.cons rfl ?_)
    clear F
    clear H
    intro m ups a w hI F
    obtain ⟨k, n5, rfl, rfl, hk, hn5, hz5, H⟩ := hI
    have hv1 := (s (42 + j * 24 + k * 2)).toNat_lt
    have hv2 := (s (42 + j * 24 + k * 2 + 1)).toNat_lt
    refine cSeq (fun K21 hK21 => ?_)
    refine cSeq (fun K22 hK22 => ?_)
    refine cReg ?_
    refine sMv F rfl rfl rfl ?_
    clear F a; intro a F
    refine sBin F rfl rfl rfl rfl bLss ?_
    clear F a; intro a F
    refine sNil ?_
    refine hK22 _ _ ?_; clear hK22
    refine cIf F rfl (fun h63 => ?_) (fun h63 => ?_)
    ·
     replace h63 := of_decide_eq_true h63
     refine wp_skip ?_
     refine hK21 _ _ ?_; clear hK21
     refine cSeq (fun K23 hK23 => ?_)
     refine wp_block ?_
     refine cRegRO (by kernel_rfl) H ?_
     replace H := H.drew
     refine eTakeF (k := 0) (i := 0) rfl (by kernel_rfl) F rfl rfl rfl (fun w => rMv F rfl) (H.sel [0, 1, 2] rfl rfl) (fun _ _ _ h => h) ?_
     clear F a; intro a F
     refine eTakeF (k := 1) (i := 1) rfl (by kernel_rfl) F rfl rfl rfl (fun w => rMv F rfl) (H.sel [0, 1, 2] rfl rfl) (fun _ _ _ h => h) ?_
     clear F a; intro a F
     refine eTakeF (k := 2) (i := 2) rfl (by kernel_rfl) F rfl rfl rfl (fun w => rMv F rfl) (H.sel [0, 1, 2] rfl rfl) (fun _ _ _ h => h) ?_
     clear F a; intro a F
     refine eTakeF (k := 3) (i := 3) rfl (by kernel_rfl) F rfl rfl rfl (fun w => rFa (f := 2) (k := 42) Tryd.underlying41 rfl Tryd.sizeOf38 rfl rfl F rfl) (H.sel [0, 1, 2] rfl rfl) (fun _ _ _ h => h) ?_
     clear F a; intro a F
     refine eTakeF (k := 4) (i := 4) rfl (by kernel_rfl) F rfl rfl rfl (fun w => rIa Tryd.underlying38 Tryd.sizeOf37 F rfl rfl ?_) (H.sel [0, 1, 2] rfl rfl) (fun _ _ _ h => h) ?_
     focus (first | omega | decide | (simp; omega))
     clear F a; intro a F
     refine eTakeF (k := 5) (i := 5) rfl (by kernel_rfl) F rfl rfl rfl (fun w => rIa Tryd.underlying37 Tryd.sizeOf36 F rfl rfl ?_) (H.sel [0, 1, 2] rfl rfl) (fun _ _ _ h => h) ?_
     focus (first | omega | decide | (simp; omega))
     clear F a; intro a F
     refine eTakeF (k := 6) (i := 6) rfl (by kernel_rfl) F rfl rfl rfl (fun w => rFaZ (f := 0) Tryd.underlying36 rfl Tryd.sizeOf5 rfl rfl F rfl) (H.sel [0, 1, 2] rfl rfl) (fun _ _ _ h => h) ?_
     clear F a; intro a F
     refine eTake (k := 7) (i := 7) rfl (by kernel_rfl) F rfl rfl rfl rfl (fun w H => rLd Tryd.isAgg5 F rfl (H.cellB 1 rfl (by omega))) (H.sel [0, 1, 2] rfl rfl) (fun _ _ _ h => h) ?_
     clear F a; intro a F
     refine eTakeF (k := 8) (i := 8) rfl (by kernel_rfl) F rfl rfl rfl (fun w => rCv Tryd.underlying5 Tryd.underlying3 F rfl (wrapB _)) (H.sel [0, 1, 2] rfl rfl) (fun _ _ _ h => h) ?_
     clear F a; intro a F
     refine eTakeF (k := 9) (i := 9) rfl (by kernel_rfl) F rfl rfl rfl (fun w => rBin F rfl rfl (bAddN ?_)) (H.sel [0, 1, 2] rfl rfl) (fun _ _ _ h => h) ?_
     focus omega
     clear F a; intro a F
     refine eTakeF (k := 10) (i := 10) rfl (by kernel_rfl) F rfl rfl rfl (fun w => rMv F rfl) (H.sel [0, 1, 2] rfl rfl) (fun _ _ _ h => h) ?_
     clear F a; intro a F
     refine eTakeF (k := 11) (i := 11) rfl (by kernel_rfl) F rfl rfl rfl (fun w => rMv F rfl) (H.sel [0, 1, 2] rfl rfl) (fun _ _ _ h => h) ?_
     clear F a; intro a F
     refine eTakeF (k := 12) (i := 12) rfl (by kernel_rfl) F rfl rfl rfl (fun w => rFa (f := 2) (k := 42) Tryd.underlying41 rfl Tryd.sizeOf38 rfl rfl F rfl) (H.sel [0, 1, 2] rfl rfl) (fun _ _ _ h => h) ?_
     clear F a; intro a F
     refine eTakeF (k := 13) (i := 13) rfl (by kernel_rfl) F rfl rfl rfl (fun w => rIa Tryd.underlying38 Tryd.sizeOf37 F rfl rfl ?_) (H.sel [0, 1, 2] rfl rfl) (fun _ _ _ h => h) ?_
     focus (first | omega | decide | (simp; omega))
     clear F a; intro a F
     refine eTakeF (k := 14) (i := 14) rfl (by kernel_rfl) F rfl rfl rfl (fun w => rIa Tryd.underlying37 Tryd.sizeOf36 F rfl rfl ?_) (H.sel [0, 1, 2] rfl rfl) (fun _ _ _ h => h) ?_
     focus (first | omega | decide | (simp; omega))
     clear F a; intro a F
     refine eTakeF (k := 15) (i := 15) rfl (by kernel_rfl) F rfl rfl rfl (fun w => rFa (f := 1) (k := _ + 1) Tryd.underlying36 rfl Tryd.sizeOf5 rfl rfl F rfl) (H.sel [0, 1, 2] rfl rfl) (fun _ _ _ h => h) ?_
     clear F a; intro a F
     refine eTake (k := 16) (i := 16) rfl (by kernel_rfl) F rfl rfl rfl rfl (fun w H => rLd Tryd.isAgg5 F rfl (H.cellB 1 rfl (by omega))) (H.sel [0, 1, 2] rfl rfl) (fun _ _ _ h => h) ?_
     clear F a; intro a F
     refine eTakeF (k := 17) (i := 17) rfl (by kernel_rfl) F rfl rfl rfl (fun w => rCv Tryd.underlying5 Tryd.underlying3 F rfl (wrapB _)) (H.sel [0, 1, 2] rfl rfl) (fun _ _ _ h => h) ?_
     clear F a; intro a F
     refine eTakeF (k := 18) (i := 18) rfl (by kernel_rfl) F rfl rfl rfl (fun w => rBin F rfl rfl (bAddN ?_)) (H.sel [0, 1, 2] rfl rfl) (fun _ _ _ h => h) ?_
     focus omega
     clear F a; intro a F
     refine eTakeF (k := 19) (i := 19) rfl (by kernel_rfl) F rfl rfl rfl (fun w => rAs F rfl) (H.sel [0, 1, 2] rfl rfl) (fun _ _ _ h => h) ?_
     clear F a; intro a F
     refine eNil (k := 20) (by kernel_rfl) ?_
     refine hK23 _ _ ?_; clear hK23
     refine cReg ?_
     refine sMv F rfl rfl rfl ?_
     clear F a; intro a F
     refine sBin F rfl rfl rfl rfl (bAddN (j := 1) ?_) ?_
     focus omega
     clear F a; intro a F
     refine sAs F rfl rfl rfl ?_
     clear F a; intro a F
     refine sNil ?_
     refine ⟨_, by omega, _, ⟨k + 1, n5 + (s (42 + j * 24 + k * 2)).toNat + (s (42 + j * 24 + k * 2 + 1)).toNat, rfl, rfl, by omega, by omega, ?_, H⟩, F.to (by repeat (first | exact trivial | refine Le.cons rfl ?_))⟩
     rw [show 2 * (k + 1) = 2 * k + 1 + 1 by omega, lt_succ_all (k := 2 * k + 1), lt_succ_all (k := 2 * k), ← and_assoc, ← and_assoc, ← and_assoc, and_assoc (a := n = 0 ∧ threadSt p s j = true), ← hz5, show 42 + j * 24 + 2 * k = 42 + j * 24 + k * 2 by omega, show 42 + j * 24 + (2 * k + 1) = 42 + j * 24 + k * 2 + 1 by omega, ← z8, ← z8]
     omega
    ·
     replace h63 := of_decide_eq_false h63
     refine wp_exit ?_
     refine hK10 _ _ ?_; clear hK10
     refine cReg ?_
     refine sMv F rfl rfl rfl ?_
     clear F a; intro a F
     refine sBin F rfl rfl rfl rfl (bAddN (j := 1) ?_) ?_
     focus omega
     clear F a; intro a F
     refine sAs F rfl rfl rfl ?_
     clear F a; intro a F
     refine sNil ?_
     refine ⟨_, by omega, _, ⟨j + 1, n5, rfl, rfl, by omega, by omega, ?_, H.sel [1, 2] rfl rfl⟩, F.to (by repeat (first | exact trivial | refine Le.cons rfl ?_))⟩
     obtain rfl : k = 12 := by omega
     rw [lt_succ_all (k := j), ← hz, hz5]
     unfold bufZ
     constructor
     · rintro ⟨⟨h1, h2⟩, h3, h4⟩; exact ⟨h1, h2, h3, h4⟩
     · rintro ⟨h1, h2, h3, h4⟩; exact ⟨⟨h1, h2⟩, h3, h4⟩
   ·
    replace h15 := of_decide_eq_false h15
    obtain rfl : j = 4 := by omega
    refine wp_exit ?_
    refine hK6 _ _ ?_; clear hK6
    refine cSeq (fun K24 hK24 => ?_)
    refine cSeq (fun K25 hK25 => ?_)
    refine cReg ?_
    refine sFa (f := 1) (k := 1) Tryd.underlying29 rfl Tryd.sizeOf22 rfl rfl F rfl rfl rfl ?_
    clear F a; intro a F
    refine sLd Tryd.isAgg22 F rfl rfl rfl (H.cell 1 rfl rfl) ?_
    clear F a; intro a F
    refine sLen Tryd.underlying22 F rfl rfl rfl ?_
    clear F a; intro a F
    refine sAs F rfl rfl rfl ?_
    clear F a; intro a F
    refine sNil ?_
    refine hK25 _ _ ?_; clear hK25
    refine wp_block ?_
    refine cLoopR [3] (fun m ups w => ∃ k n6 : Nat, m = 6 - k ∧ ups = [(5, .int .i64 ((n6 : Nat) : Int)), (10, .int .i64 ((k : Nat) : Int))] ∧ p.locs.length ≤ k ∧ k ≤ 6 ∧ n6 ≤ 100000 + 255 * k ∧ (n6 = 0 ↔ (∀ i, i < 4 → threadSt p s i = true ∧ bufZ s i) ∧ ∀ i, p.locs.length ≤ i → i < k → s (36 + i) = 0) ∧ Own w0 none w [.blk b3 (bs 142 s) 41, .blk b2 ([.string p.name, .slice LA p.locs.length LC, .slice IA p.init.length IC, .slice TA p.threads.length TC, B8 p.ask] ++ [c1, c2, c3, c4, c5]) 29]) F (6 - p.locs.length) [(5, .int .i64 ((n : Nat) : Int)), (10, .int .i64 ((p.locs.length : Nat) : Int))] (by repeat (first | exact SubR.nil | (apply SubR.cons; · rfl))) ?_ ?_ ?_
    · exact ⟨p.locs.length, n, rfl, rfl, by omega, by omega, by omega, by rw [← hz]; exact ⟨fun h => ⟨h, fun i h1 h2 => by omega⟩, fun h => h.1⟩, H⟩
    · repeat (first | exact trivial | refine Le.cons rfl ?_)
    clear F
    clear H
    intro m ups a w hI F
    obtain ⟨k, n6, rfl, rfl, hlk, hk, hn6, hz6, H⟩ := hI
    have hv1 := (s (36 + k)).toNat_lt
    refine cSeq (fun K26 hK26 => ?_)
    refine cSeq (fun K27 hK27 => ?_)
    refine cReg ?_
    refine sMv F rfl rfl rfl ?_
    clear F a; intro a F
    refine sBin F rfl rfl rfl rfl bLss ?_
    clear F a; intro a F
    refine sNil ?_
    refine hK27 _ _ ?_; clear hK27
    refine cIf F rfl (fun h89 => ?_) (fun h89 => ?_)
    ·
     replace h89 := of_decide_eq_true h89
     refine wp_skip ?_
     refine hK26 _ _ ?_; clear hK26
     refine cSeq (fun K28 hK28 => ?_)
     refine wp_block ?_
     refine cReg ?_
     refine sMv F rfl rfl rfl ?_
     clear F a; intro a F
     refine sMv F rfl rfl rfl ?_
     clear F a; intro a F
     refine sFa (f := 1) (k := 36) Tryd.underlying41 rfl Tryd.sizeOf34 rfl rfl F rfl rfl rfl ?_
     clear F a; intro a F
     refine sIa1 Tryd.underlying34 Tryd.sizeOf5 F rfl rfl rfl rfl ?_ ?_
     focus (first | omega | decide | (simp; omega))
     clear F a; intro a F
     refine sLd Tryd.isAgg5 F rfl rfl rfl (H.cellB 0 rfl (by omega)) ?_
     clear F a; intro a F
     refine sCv Tryd.underlying5 Tryd.underlying3 F rfl rfl rfl (wrapB _) ?_
     clear F a; intro a F
     refine sBin F rfl rfl rfl rfl (bAddN ?_) ?_
     focus omega
     clear F a; intro a F
     refine sAs F rfl rfl rfl ?_
     clear F a; intro a F
     refine sNil ?_
     refine hK28 _ _ ?_; clear hK28
     refine cReg ?_
     refine sMv F rfl rfl rfl ?_
     clear F a; intro a F
     refine sBin F rfl rfl rfl rfl (bAddN (j := 1) ?_) ?_
     focus omega
     clear F a; intro a F
     refine sAs F rfl rfl rfl ?_
     clear F a; intro a F
     refine sNil ?_
     refine ⟨_, by omega, _, ⟨k + 1, n6 + (s (36 + k)).toNat, rfl, rfl, by omega, by omega, by omega, ?_, H⟩, F.to (by repeat (first | exact trivial | refine Le.cons rfl ?_))⟩
     constructor
     · intro h
       have h1 := hz6.1 (by omega)
       have h2 : s (36 + k) = 0 := z8.1 (by omega)
       refine ⟨h1.1, fun i hi hk2 => ?_⟩
       rcases Nat.lt_or_ge i k with h3 | h3
       · exact h1.2 i hi h3
       · obtain rfl : i = k := by omega
         exact h2
     · intro h
       have h1 := hz6.2 ⟨h.1, fun i hi hk2 => h.2 i hi (by omega)⟩
       have h2 := z8.2 (h.2 k hlk (by omega))
       omega
    ·
     replace h89 := of_decide_eq_false h89
     refine wp_exit ?_
     refine hK24 _ _ ?_; clear hK24
     refine cSeq (fun K29 hK29 => ?_)
     refine cReg ?_
     refine sMv F rfl rfl rfl ?_
     clear F a; intro a F
     refine sBin F rfl rfl rfl rfl bEql ?_
     clear F a; intro a F
     refine sAs F rfl rfl rfl ?_
     clear F a; intro a F
     refine sNil ?_
     refine hK29 _ _ ?_; clear hK29
     refine wp_ret ?_
     refine bRet Tryd.results26 F rfl ?_
     refine ⟨retB ?_, H.below⟩
     clear F H
     first
       | exact (rightS_err h13).symm
       | (rw [Bool.eq_iff_iff, right_iff hp0, beq_iff_eq]
          obtain rfl : k = 6 := by omega
          unfold stateZ
          rw [← hz6]
          omega)
end Go.Proofs.YtfemniboggnbiaaDoor
