/-
  WALK2. The reference's Deep, cond, Cond. Conditions: the condition lies in memory, and its depth is a number that an int holds.
-/
import Derived.Test.YtmfdpnjgljlkbaaDoorRfA
import Derived.Test.YtmfdpnjgljlkbaaDoorVcX
import Derived.Test.YtmfdpnjgljlkbaaDoorRdB
set_option linter.unusedSimpArgs false
set_option linter.unusedVariables false
namespace Go.Proofs.YtmfdpnjgljlkbaaDoor
open Go.RowKit
set_option maxRecDepth 100000

theorem len_beq1 (n : Nat) : ((n : Int) == 1) = (n == 1) := by rw [Bool.eq_iff_iff]; simp; omega
set_option maxHeartbeats 2000000 in
theorem rcond_any (threads locs : Int) (h : Nat) : ∀ (cs : List Value) (c : Cnd) (w0 : World), CondAt w0 h cs c →
    Calls Tryd.prog 37 #[.agg cs.toArray, .int .i64 threads, .int .i64 locs] w0 fun e w' => e = .returned (.bool (freeC threads locs c)) ∧ Below w0.heap.size w0 w' := by
  induction h with
  | zero => intro cs c w0 hC; exact hC.elim
  | succ h ih =>
    intro cs c w0 hC
    obtain ⟨k, t, n, v, kids⟩ := c
    obtain ⟨A, C, rfl, hkl, hK⟩ := hC
    have H := Own.start w0 none
    refine enterF Tryd.func37 rfl Tryd.ntmps37 rfl (fun a F => ?_)
    refine cSeq (fun K1 hK1 => ?_)
    refine cReg ?_
    refine sBx H F rfl rfl rfl ?_
    clear F a H; intro b3 a w F H
    refine sAs F rfl rfl rfl ?_;clear F a;intro a F
    refine sNil ?_
    refine hK1 _ _ ?_; clear hK1
    refine cSeq (fun K2 hK2 => ?_)
    refine cSeq (fun K3 hK3 => ?_)
    refine cReg ?_
    refine sAs F rfl rfl rfl ?_;clear F a;intro a F
    refine sNil ?_
    refine hK3 _ _ ?_; clear hK3
    refine wp_block ?_
    refine cLoopR [1, 2, 3] (fun m ups w => ∃ j : Nat, m = kids.length - j ∧ ups = [(7, .int .i64 ((j : Nat) : Int))] ∧ j ≤ kids.length ∧ kids.all (freeC threads locs) = (kids.drop j).all (freeC threads locs) ∧ Own w0 none w [.blk b3 [Go.Proofs.YtmfdpnjgljlkbaaDoor.b8 k, Go.Proofs.YtmfdpnjgljlkbaaDoor.b8 t, Go.Proofs.YtmfdpnjgljlkbaaDoor.b8 n, Go.Proofs.YtmfdpnjgljlkbaaDoor.b8 v, .slice A kids.length C] 25]) F (kids.length) [(7, .int .i64 ((0 : Nat) : Int))] (by repeat (first | exact SubR.nil | (apply SubR.cons; · rfl))) ?_ ?_ ?_
    · exact ⟨0, rfl, rfl, by omega, rfl, H⟩
    · repeat (first | exact trivial | refine Le.cons rfl ?_)
    clear F
    clear H
    intro m ups a w hI F
    obtain ⟨j, rfl, rfl, hj, ht, H⟩ := hI
    refine cSeq (fun K4 hK4 => ?_)
    refine cSeq (fun K5 hK5 => ?_)
    refine cReg ?_
    refine sMv F rfl rfl rfl ?_;clear F a;intro a F
    refine sFa (f := 4) (k := 4) Tryd.underlying25 rfl Tryd.sizeOf23 rfl rfl F rfl rfl rfl ?_;clear F a;intro a F
    refine sLd Tryd.isAgg23 F rfl rfl rfl (H.cell 0 rfl rfl) ?_;clear F a;intro a F
    refine sLen Tryd.underlying23 F rfl rfl rfl ?_;clear F a;intro a F
    refine sBin F rfl rfl rfl rfl bLss ?_;clear F a;intro a F
    refine sNil ?_
    refine hK5 _ _ ?_; clear hK5
    refine cIf F rfl (fun h13 => ?_) (fun h13 => ?_)
    ·
     replace h13 := of_decide_eq_true h13
     have hjl : j < kids.length := by omega
     obtain ⟨kid, hx⟩ : ∃ x, kids[j]? = some x := ⟨_, List.getElem?_eq_getElem hjl⟩
     obtain ⟨b', off', cs', rfl, hR', hC'⟩ := hK j kid hx
     obtain ⟨k0, k1, k2, k3, k4, rfl⟩ := len5 (condAt_len hC')
     have hd := all_drop (freeC threads locs) hx
     refine wp_skip ?_
     refine hK4 _ _ ?_; clear hK4
     refine cSeq (fun K6 hK6 => ?_)
     refine wp_block ?_
     refine cSeq (fun K7 hK7 => ?_)
     refine cReg ?_
     refine sFa (f := 4) (k := 4) Tryd.underlying25 rfl Tryd.sizeOf23 rfl rfl F rfl rfl rfl ?_;clear F a;intro a F
     refine sLd Tryd.isAgg23 F rfl rfl rfl (H.cell 0 rfl rfl) ?_;clear F a;intro a F
     refine sMv F rfl rfl rfl ?_;clear F a;intro a F
     refine sIx Tryd.underlying23 Tryd.sizeOf25 F rfl rfl rfl rfl ?_ ?_
     focus (first | omega | decide | (simp; omega))
     clear F a; intro a F
     refine sLr Tryd.underlying25 rfl ?si F rfl rfl rfl (H.argR hR') ?_
     case si => exact info_size Tryd.sizeOf25
     clear F a; intro a F
     refine sMv F rfl rfl rfl ?_;clear F a;intro a F
     refine sMv F rfl rfl rfl ?_;clear F a;intro a F
     refine sCall Tryd.call37 F rfl rfl rfl (ih _ kid _ (CondAt.grown H.grown rfl _ _ _ hC')) ?_
     rintro e w ⟨rfl, hb⟩
     replace H := H.grow hb; clear hb
     refine ⟨_, rfl, ?_⟩
     clear F a; intro a F
     refine sNot F rfl rfl rfl ?_;clear F a;intro a F
     refine sNil ?_
     refine hK7 _ _ ?_; clear hK7
     refine cIf F rfl (fun h24 => ?_) (fun h24 => ?_)
     ·
      replace h24 := notT h24
      refine cSeq (fun K8 hK8 => ?_)
      refine cReg ?_
      refine sAs F rfl rfl rfl ?_;clear F a;intro a F
      refine sNil ?_
      refine hK8 _ _ ?_; clear hK8
      refine wp_ret ?_
      simp only [Exit.inBlock, Exit.then]
      refine bRet Tryd.results37 F rfl ?_
      refine ⟨retB ?_, H.below⟩
      clear F H ih hK
      first
        | (rw [freeC, freeL_all, ht, hd, h24]; simp; done)
        | (rw [freeC, ht, Bool.true_and, if_pos hk, ← hr, h44, Bool.true_and, len_beq0]; done)
        | (rw [freeC, ht, Bool.true_and, if_pos hk, ← hr, h44, Bool.false_and]; done)
        | (rw [freeC, ht, Bool.true_and, if_neg nk0, if_pos hk]; simp [*, len_beq0]; done)
        | (rw [freeC, ht, Bool.true_and, if_neg nk0, if_neg nk1, if_pos hk]; simp [*, len_beq0]; done)
        | (rw [freeC, ht, Bool.true_and, if_neg nk0, if_neg nk1, if_neg nk2, if_pos hk, ← hr, h90, Bool.true_and, Bool.eq_iff_iff]; simp only [decide_eq_true_eq]; omega)
        | (rw [freeC, ht, Bool.true_and, if_neg nk0, if_neg nk1, if_neg nk2, if_pos hk, ← hr, h90, Bool.false_and]; done)
        | (have nk34 : ¬ (k = 3 ∨ k = 4) := by rw [hk]; decide
           rw [freeC, ht, Bool.true_and, if_neg nk0, if_neg nk1, if_neg nk2, if_neg nk34, if_pos hk, ← hr, h99, Bool.true_and, len_beq1]; done)
        | (have nk34 : ¬ (k = 3 ∨ k = 4) := by rw [hk]; decide
           rw [freeC, ht, Bool.true_and, if_neg nk0, if_neg nk1, if_neg nk2, if_neg nk34, if_pos hk, ← hr, h99, Bool.false_and]; done)
        | (have nk34 : ¬ (k = 3 ∨ k = 4) := by
             have e3 : (3 : UInt8).toNat = 3 := rfl
             have e4 : (4 : UInt8).toNat = 4 := rfl
             rintro (e | e) <;> (have := congrArg UInt8.toNat e; omega)
           rw [freeC, ht, Bool.true_and, if_neg nk0, if_neg nk1, if_neg nk2, if_neg nk34, if_neg nk5, Bool.and_false]; done)
        | (have nk34 : ¬ (k = 3 ∨ k = 4) := by
             have e3 : (3 : UInt8).toNat = 3 := rfl
             have e4 : (4 : UInt8).toNat = 4 := rfl
             rintro (e | e) <;> (have := congrArg UInt8.toNat e; omega)
           rw [freeC, ht, Bool.true_and, if_neg nk0, if_neg nk1, if_neg nk2, if_neg nk34, if_neg nk5]; done)
        | (trace_state; done)
     replace h24 := notF h24
     refine wp_skip ?_
     refine hK6 _ _ ?_; clear hK6
     refine cReg ?_
     refine sMv F rfl rfl rfl ?_;clear F a;intro a F
     refine sBin F rfl rfl rfl rfl (bAddN (j := 1) ?_) ?_
     focus omega
     clear F a; intro a F
     refine sAs F rfl rfl rfl ?_;clear F a;intro a F
     refine sNil ?_
     exact ⟨_, by omega, _, ⟨j + 1, rfl, rfl, by omega, by rw [ht, hd, h24, Bool.true_and], H⟩, F.to (by repeat (first | exact trivial | refine Le.cons rfl ?_))⟩
    replace h13 := of_decide_eq_false h13
    rw [List.drop_eq_nil_of_le (by omega), List.all_nil, ← freeL_all] at ht
    refine wp_exit ?_
    refine hK2 _ _ ?_; clear hK2
    refine cSeqJ [1, 2, 3] (fun ups w => ∃ r, ups = [(8, .bool r)] ∧ r = (t == 0 && n == 0 && v == 0) ∧ Own w0 none w [.blk b3 [Go.Proofs.YtmfdpnjgljlkbaaDoor.b8 k, Go.Proofs.YtmfdpnjgljlkbaaDoor.b8 t, Go.Proofs.YtmfdpnjgljlkbaaDoor.b8 n, Go.Proofs.YtmfdpnjgljlkbaaDoor.b8 v, .slice A kids.length C] 25]) F (by repeat (first | exact SubR.nil | (apply SubR.cons; · rfl))) ?_ ?_
    ·
     refine cReg ?_
     refine sFa (f := 1) (k := 1) Tryd.underlying25 rfl Tryd.sizeOf5 rfl rfl F rfl rfl rfl ?_;clear F a;intro a F
     refine sLd Tryd.isAgg5 F rfl rfl rfl (H.cell 0 rfl rfl) ?_;clear F a;intro a F
     refine sBin F rfl rfl rfl rfl (bEqlB (y := 0)) ?_;clear F a;intro a F
     refine sMv F rfl rfl rfl ?_;clear F a;intro a F
     refine F.split 28 rfl ?_ ?_ <;> (clear F; intro h28 F)
     ·
      replace h28 := beqT h28
      refine sFa (f := 2) (k := 2) Tryd.underlying25 rfl Tryd.sizeOf5 rfl rfl F rfl rfl rfl ?_;clear F a;intro a F
      refine sLd Tryd.isAgg5 F rfl rfl rfl (H.cell 0 rfl rfl) ?_;clear F a;intro a F
      refine sBin F rfl rfl rfl rfl (bEqlB (y := 0)) ?_;clear F a;intro a F
      refine sPk F rfl rfl rfl rfl ?_;clear F a;intro a F
      refine sMv F rfl rfl rfl ?_;clear F a;intro a F
      refine F.split 33 rfl ?_ ?_ <;> (clear F; intro h33 F)
      ·
       replace h33 := beqT h33
       refine sFa (f := 3) (k := 3) Tryd.underlying25 rfl Tryd.sizeOf5 rfl rfl F rfl rfl rfl ?_;clear F a;intro a F
       refine sLd Tryd.isAgg5 F rfl rfl rfl (H.cell 0 rfl rfl) ?_;clear F a;intro a F
       refine sBin F rfl rfl rfl rfl (bEqlB (y := 0)) ?_;clear F a;intro a F
       refine sPk F rfl rfl rfl rfl ?_;clear F a;intro a F
       refine sAs F rfl rfl rfl ?_;clear F a;intro a F
       refine sNil ?_
       refine ⟨_, ⟨_, rfl, ?_, H⟩, F.to (by repeat (first | exact trivial | refine Le.cons rfl ?_))⟩
       simp_all
      replace h33 := beqF h33
      refine sSk F rfl rfl ?_;clear F a;intro a F
      refine sSk F rfl rfl ?_;clear F a;intro a F
      refine sSk F rfl rfl ?_;clear F a;intro a F
      refine sPk F rfl rfl rfl rfl ?_;clear F a;intro a F
      refine sAs F rfl rfl rfl ?_;clear F a;intro a F
      refine sNil ?_
      refine ⟨_, ⟨_, rfl, ?_, H⟩, F.to (by repeat (first | exact trivial | refine Le.cons rfl ?_))⟩
      simp_all
     replace h28 := beqF h28
     refine sSk F rfl rfl ?_;clear F a;intro a F
     refine sSk F rfl rfl ?_;clear F a;intro a F
     refine sSk F rfl rfl ?_;clear F a;intro a F
     refine sPk F rfl rfl rfl rfl ?_;clear F a;intro a F
     refine sMv F rfl rfl rfl ?_;clear F a;intro a F
     refine sSk F rfl rfl ?_;clear F a;intro a F
     refine sSk F rfl rfl ?_;clear F a;intro a F
     refine sSk F rfl rfl ?_;clear F a;intro a F
     refine sPk F rfl rfl rfl rfl ?_;clear F a;intro a F
     refine sAs F rfl rfl rfl ?_;clear F a;intro a F
     refine sNil ?_
     refine ⟨_, ⟨_, rfl, ?_, H⟩, F.to (by repeat (first | exact trivial | refine Le.cons rfl ?_))⟩
     simp_all
    clear F H
    intro ups a w hI F
    obtain ⟨r, rfl, hr, H⟩ := hI
    refine cSeq (fun K9 hK9 => ?_)
    refine cSeq (fun K10 hK10 => ?_)
    refine cReg ?_
    refine sFa (f := 0) (k := 0) Tryd.underlying25 rfl Tryd.sizeOf5 rfl rfl F rfl rfl rfl ?_;clear F a;intro a F
    refine sLd Tryd.isAgg5 F rfl rfl rfl (H.cell 0 rfl rfl) ?_;clear F a;intro a F
    refine sCv Tryd.underlying5 Tryd.underlying3 F rfl rfl rfl (wrapB _) ?_;clear F a;intro a F
    refine sNil ?_
    refine hK10 _ _ ?_; clear hK10
    refine wp_block ?_
    refine cSeq (fun K11 hK11 => ?_)
    refine cReg ?_
    refine sBin F rfl rfl rfl rfl bEql ?_;clear F a;intro a F
    refine sAs F rfl rfl rfl ?_;clear F a;intro a F
    refine sNil ?_
    refine hK11 _ _ ?_; clear hK11
    refine cIf F rfl (fun h41 => ?_) (fun h41 => ?_)
    ·
     replace h41 := beqT h41
     have hk : k = 0 := UInt8.toNat_inj.1 (by have : (0 : UInt8).toNat = 0 := rfl; omega)
     refine cSeq (fun K12 hK12 => ?_)
     refine cReg ?_
     refine sMv F rfl rfl rfl ?_;clear F a;intro a F
     refine sMv F rfl rfl rfl ?_;clear F a;intro a F
     refine F.split 44 rfl ?_ ?_ <;> (clear F; intro h44 F)
     ·
      refine sFa (f := 4) (k := 4) Tryd.underlying25 rfl Tryd.sizeOf23 rfl rfl F rfl rfl rfl ?_;clear F a;intro a F
      refine sLd Tryd.isAgg23 F rfl rfl rfl (H.cell 0 rfl rfl) ?_;clear F a;intro a F
      refine sLen Tryd.underlying23 F rfl rfl rfl ?_;clear F a;intro a F
      refine sBin F rfl rfl rfl rfl bEql ?_;clear F a;intro a F
      refine sPk F rfl rfl rfl rfl ?_;clear F a;intro a F
      refine sAs F rfl rfl rfl ?_;clear F a;intro a F
      refine sNil ?_
      refine hK12 _ _ ?_; clear hK12
      refine wp_ret ?_
      simp only [Exit.inBlock, Exit.then]
      refine bRet Tryd.results37 F rfl ?_
      refine ⟨retB ?_, H.below⟩
      clear F H ih hK
      first
        | (rw [freeC, freeL_all, ht, hd, h24]; simp; done)
        | (rw [freeC, ht, Bool.true_and, if_pos hk, ← hr, h44, Bool.true_and, len_beq0]; done)
        | (rw [freeC, ht, Bool.true_and, if_pos hk, ← hr, h44, Bool.false_and]; done)
        | (rw [freeC, ht, Bool.true_and, if_neg nk0, if_pos hk]; simp [*, len_beq0]; done)
        | (rw [freeC, ht, Bool.true_and, if_neg nk0, if_neg nk1, if_pos hk]; simp [*, len_beq0]; done)
        | (rw [freeC, ht, Bool.true_and, if_neg nk0, if_neg nk1, if_neg nk2, if_pos hk, ← hr, h90, Bool.true_and, Bool.eq_iff_iff]; simp only [decide_eq_true_eq]; omega)
        | (rw [freeC, ht, Bool.true_and, if_neg nk0, if_neg nk1, if_neg nk2, if_pos hk, ← hr, h90, Bool.false_and]; done)
        | (have nk34 : ¬ (k = 3 ∨ k = 4) := by rw [hk]; decide
           rw [freeC, ht, Bool.true_and, if_neg nk0, if_neg nk1, if_neg nk2, if_neg nk34, if_pos hk, ← hr, h99, Bool.true_and, len_beq1]; done)
        | (have nk34 : ¬ (k = 3 ∨ k = 4) := by rw [hk]; decide
           rw [freeC, ht, Bool.true_and, if_neg nk0, if_neg nk1, if_neg nk2, if_neg nk34, if_pos hk, ← hr, h99, Bool.false_and]; done)
        | (have nk34 : ¬ (k = 3 ∨ k = 4) := by
             have e3 : (3 : UInt8).toNat = 3 := rfl
             have e4 : (4 : UInt8).toNat = 4 := rfl
             rintro (e | e) <;> (have := congrArg UInt8.toNat e; omega)
           rw [freeC, ht, Bool.true_and, if_neg nk0, if_neg nk1, if_neg nk2, if_neg nk34, if_neg nk5, Bool.and_false]; done)
        | (have nk34 : ¬ (k = 3 ∨ k = 4) := by
             have e3 : (3 : UInt8).toNat = 3 := rfl
             have e4 : (4 : UInt8).toNat = 4 := rfl
             rintro (e | e) <;> (have := congrArg UInt8.toNat e; omega)
           rw [freeC, ht, Bool.true_and, if_neg nk0, if_neg nk1, if_neg nk2, if_neg nk34, if_neg nk5]; done)
        | (trace_state; done)
     refine sSk F rfl rfl ?_;clear F a;intro a F
     refine sSk F rfl rfl ?_;clear F a;intro a F
     refine sSk F rfl rfl ?_;clear F a;intro a F
     refine sSk F rfl rfl ?_;clear F a;intro a F
     refine sPk F rfl rfl rfl rfl ?_;clear F a;intro a F
     refine sAs F rfl rfl rfl ?_;clear F a;intro a F
     refine sNil ?_
     refine hK12 _ _ ?_; clear hK12
     refine wp_ret ?_
     simp only [Exit.inBlock, Exit.then]
     refine bRet Tryd.results37 F rfl ?_
     refine ⟨retB ?_, H.below⟩
     clear F H ih hK
     first
       | (rw [freeC, freeL_all, ht, hd, h24]; simp; done)
       | (rw [freeC, ht, Bool.true_and, if_pos hk, ← hr, h44, Bool.true_and, len_beq0]; done)
       | (rw [freeC, ht, Bool.true_and, if_pos hk, ← hr, h44, Bool.false_and]; done)
       | (rw [freeC, ht, Bool.true_and, if_neg nk0, if_pos hk]; simp [*, len_beq0]; done)
       | (rw [freeC, ht, Bool.true_and, if_neg nk0, if_neg nk1, if_pos hk]; simp [*, len_beq0]; done)
       | (rw [freeC, ht, Bool.true_and, if_neg nk0, if_neg nk1, if_neg nk2, if_pos hk, ← hr, h90, Bool.true_and, Bool.eq_iff_iff]; simp only [decide_eq_true_eq]; omega)
       | (rw [freeC, ht, Bool.true_and, if_neg nk0, if_neg nk1, if_neg nk2, if_pos hk, ← hr, h90, Bool.false_and]; done)
       | (have nk34 : ¬ (k = 3 ∨ k = 4) := by rw [hk]; decide
          rw [freeC, ht, Bool.true_and, if_neg nk0, if_neg nk1, if_neg nk2, if_neg nk34, if_pos hk, ← hr, h99, Bool.true_and, len_beq1]; done)
       | (have nk34 : ¬ (k = 3 ∨ k = 4) := by rw [hk]; decide
          rw [freeC, ht, Bool.true_and, if_neg nk0, if_neg nk1, if_neg nk2, if_neg nk34, if_pos hk, ← hr, h99, Bool.false_and]; done)
       | (have nk34 : ¬ (k = 3 ∨ k = 4) := by
            have e3 : (3 : UInt8).toNat = 3 := rfl
            have e4 : (4 : UInt8).toNat = 4 := rfl
            rintro (e | e) <;> (have := congrArg UInt8.toNat e; omega)
          rw [freeC, ht, Bool.true_and, if_neg nk0, if_neg nk1, if_neg nk2, if_neg nk34, if_neg nk5, Bool.and_false]; done)
       | (have nk34 : ¬ (k = 3 ∨ k = 4) := by
            have e3 : (3 : UInt8).toNat = 3 := rfl
            have e4 : (4 : UInt8).toNat = 4 := rfl
            rintro (e | e) <;> (have := congrArg UInt8.toNat e; omega)
          rw [freeC, ht, Bool.true_and, if_neg nk0, if_neg nk1, if_neg nk2, if_neg nk34, if_neg nk5]; done)
       | (trace_state; done)
    replace h41 := beqF h41
    have nk0 : k ≠ 0 := fun e => h41 (by rw [e]; rfl)
    refine cSeq (fun K13 hK13 => ?_)
    refine cReg ?_
    refine sBin F rfl rfl rfl rfl bEql ?_;clear F a;intro a F
    refine sAs F rfl rfl rfl ?_;clear F a;intro a F
    refine sNil ?_
    refine hK13 _ _ ?_; clear hK13
    refine cIf F rfl (fun h50 => ?_) (fun h50 => ?_)
    ·
     replace h50 := beqT h50
     have hk : k = 1 := UInt8.toNat_inj.1 (by have : (1 : UInt8).toNat = 1 := rfl; omega)
     refine cSeq (fun K14 hK14 => ?_)
     refine cReg ?_
     refine sFa (f := 1) (k := 1) Tryd.underlying25 rfl Tryd.sizeOf5 rfl rfl F rfl rfl rfl ?_;clear F a;intro a F
     refine sLd Tryd.isAgg5 F rfl rfl rfl (H.cell 0 rfl rfl) ?_;clear F a;intro a F
     refine sCv Tryd.underlying5 Tryd.underlying3 F rfl rfl rfl (wrapB _) ?_;clear F a;intro a F
     refine sMv F rfl rfl rfl ?_;clear F a;intro a F
     refine sBin F rfl rfl rfl rfl bLss ?_;clear F a;intro a F
     refine sMv F rfl rfl rfl ?_;clear F a;intro a F
     refine F.split 57 rfl ?_ ?_ <;> (clear F; intro h57 F)
     ·
      replace h57 := of_decide_eq_true h57
      refine sFa (f := 2) (k := 2) Tryd.underlying25 rfl Tryd.sizeOf5 rfl rfl F rfl rfl rfl ?_;clear F a;intro a F
      refine sLd Tryd.isAgg5 F rfl rfl rfl (H.cell 0 rfl rfl) ?_;clear F a;intro a F
      refine sBin F rfl rfl rfl rfl (bLssB (y := 8)) ?_;clear F a;intro a F
      refine sPk F rfl rfl rfl rfl ?_;clear F a;intro a F
      refine sMv F rfl rfl rfl ?_;clear F a;intro a F
      refine F.split 62 rfl ?_ ?_ <;> (clear F; intro h62 F)
      ·
       replace h62 := of_decide_eq_true h62
       refine sFa (f := 4) (k := 4) Tryd.underlying25 rfl Tryd.sizeOf23 rfl rfl F rfl rfl rfl ?_;clear F a;intro a F
       refine sLd Tryd.isAgg23 F rfl rfl rfl (H.cell 0 rfl rfl) ?_;clear F a;intro a F
       refine sLen Tryd.underlying23 F rfl rfl rfl ?_;clear F a;intro a F
       refine sBin F rfl rfl rfl rfl bEql ?_;clear F a;intro a F
       refine sPk F rfl rfl rfl rfl ?_;clear F a;intro a F
       refine sAs F rfl rfl rfl ?_;clear F a;intro a F
       refine sNil ?_
       refine hK14 _ _ ?_; clear hK14
       refine wp_ret ?_
       simp only [Exit.inBlock, Exit.then]
       refine bRet Tryd.results37 F rfl ?_
       refine ⟨retB ?_, H.below⟩
       clear F H ih hK
       first
         | (rw [freeC, freeL_all, ht, hd, h24]; simp; done)
         | (rw [freeC, ht, Bool.true_and, if_pos hk, ← hr, h44, Bool.true_and, len_beq0]; done)
         | (rw [freeC, ht, Bool.true_and, if_pos hk, ← hr, h44, Bool.false_and]; done)
         | (rw [freeC, ht, Bool.true_and, if_neg nk0, if_pos hk]; simp [*, len_beq0]; done)
         | (rw [freeC, ht, Bool.true_and, if_neg nk0, if_neg nk1, if_pos hk]; simp [*, len_beq0]; done)
         | (rw [freeC, ht, Bool.true_and, if_neg nk0, if_neg nk1, if_neg nk2, if_pos hk, ← hr, h90, Bool.true_and, Bool.eq_iff_iff]; simp only [decide_eq_true_eq]; omega)
         | (rw [freeC, ht, Bool.true_and, if_neg nk0, if_neg nk1, if_neg nk2, if_pos hk, ← hr, h90, Bool.false_and]; done)
         | (have nk34 : ¬ (k = 3 ∨ k = 4) := by rw [hk]; decide
            rw [freeC, ht, Bool.true_and, if_neg nk0, if_neg nk1, if_neg nk2, if_neg nk34, if_pos hk, ← hr, h99, Bool.true_and, len_beq1]; done)
         | (have nk34 : ¬ (k = 3 ∨ k = 4) := by rw [hk]; decide
            rw [freeC, ht, Bool.true_and, if_neg nk0, if_neg nk1, if_neg nk2, if_neg nk34, if_pos hk, ← hr, h99, Bool.false_and]; done)
         | (have nk34 : ¬ (k = 3 ∨ k = 4) := by
              have e3 : (3 : UInt8).toNat = 3 := rfl
              have e4 : (4 : UInt8).toNat = 4 := rfl
              rintro (e | e) <;> (have := congrArg UInt8.toNat e; omega)
            rw [freeC, ht, Bool.true_and, if_neg nk0, if_neg nk1, if_neg nk2, if_neg nk34, if_neg nk5, Bool.and_false]; done)
         | (have nk34 : ¬ (k = 3 ∨ k = 4) := by
              have e3 : (3 : UInt8).toNat = 3 := rfl
              have e4 : (4 : UInt8).toNat = 4 := rfl
              rintro (e | e) <;> (have := congrArg UInt8.toNat e; omega)
            rw [freeC, ht, Bool.true_and, if_neg nk0, if_neg nk1, if_neg nk2, if_neg nk34, if_neg nk5]; done)
         | (trace_state; done)
      replace h62 := of_decide_eq_false h62
      refine sSk F rfl rfl ?_;clear F a;intro a F
      refine sSk F rfl rfl ?_;clear F a;intro a F
      refine sSk F rfl rfl ?_;clear F a;intro a F
      refine sSk F rfl rfl ?_;clear F a;intro a F
      refine sPk F rfl rfl rfl rfl ?_;clear F a;intro a F
      refine sAs F rfl rfl rfl ?_;clear F a;intro a F
      refine sNil ?_
      refine hK14 _ _ ?_; clear hK14
      refine wp_ret ?_
      simp only [Exit.inBlock, Exit.then]
      refine bRet Tryd.results37 F rfl ?_
      refine ⟨retB ?_, H.below⟩
      clear F H ih hK
      first
        | (rw [freeC, freeL_all, ht, hd, h24]; simp; done)
        | (rw [freeC, ht, Bool.true_and, if_pos hk, ← hr, h44, Bool.true_and, len_beq0]; done)
        | (rw [freeC, ht, Bool.true_and, if_pos hk, ← hr, h44, Bool.false_and]; done)
        | (rw [freeC, ht, Bool.true_and, if_neg nk0, if_pos hk]; simp [*, len_beq0]; done)
        | (rw [freeC, ht, Bool.true_and, if_neg nk0, if_neg nk1, if_pos hk]; simp [*, len_beq0]; done)
        | (rw [freeC, ht, Bool.true_and, if_neg nk0, if_neg nk1, if_neg nk2, if_pos hk, ← hr, h90, Bool.true_and, Bool.eq_iff_iff]; simp only [decide_eq_true_eq]; omega)
        | (rw [freeC, ht, Bool.true_and, if_neg nk0, if_neg nk1, if_neg nk2, if_pos hk, ← hr, h90, Bool.false_and]; done)
        | (have nk34 : ¬ (k = 3 ∨ k = 4) := by rw [hk]; decide
           rw [freeC, ht, Bool.true_and, if_neg nk0, if_neg nk1, if_neg nk2, if_neg nk34, if_pos hk, ← hr, h99, Bool.true_and, len_beq1]; done)
        | (have nk34 : ¬ (k = 3 ∨ k = 4) := by rw [hk]; decide
           rw [freeC, ht, Bool.true_and, if_neg nk0, if_neg nk1, if_neg nk2, if_neg nk34, if_pos hk, ← hr, h99, Bool.false_and]; done)
        | (have nk34 : ¬ (k = 3 ∨ k = 4) := by
             have e3 : (3 : UInt8).toNat = 3 := rfl
             have e4 : (4 : UInt8).toNat = 4 := rfl
             rintro (e | e) <;> (have := congrArg UInt8.toNat e; omega)
           rw [freeC, ht, Bool.true_and, if_neg nk0, if_neg nk1, if_neg nk2, if_neg nk34, if_neg nk5, Bool.and_false]; done)
        | (have nk34 : ¬ (k = 3 ∨ k = 4) := by
             have e3 : (3 : UInt8).toNat = 3 := rfl
             have e4 : (4 : UInt8).toNat = 4 := rfl
             rintro (e | e) <;> (have := congrArg UInt8.toNat e; omega)
           rw [freeC, ht, Bool.true_and, if_neg nk0, if_neg nk1, if_neg nk2, if_neg nk34, if_neg nk5]; done)
        | (trace_state; done)
     replace h57 := of_decide_eq_false h57
     refine sSk F rfl rfl ?_;clear F a;intro a F
     refine sSk F rfl rfl ?_;clear F a;intro a F
     refine sSk F rfl rfl ?_;clear F a;intro a F
     refine sPk F rfl rfl rfl rfl ?_;clear F a;intro a F
     refine sMv F rfl rfl rfl ?_;clear F a;intro a F
     refine sSk F rfl rfl ?_;clear F a;intro a F
     refine sSk F rfl rfl ?_;clear F a;intro a F
     refine sSk F rfl rfl ?_;clear F a;intro a F
     refine sSk F rfl rfl ?_;clear F a;intro a F
     refine sPk F rfl rfl rfl rfl ?_;clear F a;intro a F
     refine sAs F rfl rfl rfl ?_;clear F a;intro a F
     refine sNil ?_
     refine hK14 _ _ ?_; clear hK14
     refine wp_ret ?_
     simp only [Exit.inBlock, Exit.then]
     refine bRet Tryd.results37 F rfl ?_
     refine ⟨retB ?_, H.below⟩
     clear F H ih hK
     first
       | (rw [freeC, freeL_all, ht, hd, h24]; simp; done)
       | (rw [freeC, ht, Bool.true_and, if_pos hk, ← hr, h44, Bool.true_and, len_beq0]; done)
       | (rw [freeC, ht, Bool.true_and, if_pos hk, ← hr, h44, Bool.false_and]; done)
       | (rw [freeC, ht, Bool.true_and, if_neg nk0, if_pos hk]; simp [*, len_beq0]; done)
       | (rw [freeC, ht, Bool.true_and, if_neg nk0, if_neg nk1, if_pos hk]; simp [*, len_beq0]; done)
       | (rw [freeC, ht, Bool.true_and, if_neg nk0, if_neg nk1, if_neg nk2, if_pos hk, ← hr, h90, Bool.true_and, Bool.eq_iff_iff]; simp only [decide_eq_true_eq]; omega)
       | (rw [freeC, ht, Bool.true_and, if_neg nk0, if_neg nk1, if_neg nk2, if_pos hk, ← hr, h90, Bool.false_and]; done)
       | (have nk34 : ¬ (k = 3 ∨ k = 4) := by rw [hk]; decide
          rw [freeC, ht, Bool.true_and, if_neg nk0, if_neg nk1, if_neg nk2, if_neg nk34, if_pos hk, ← hr, h99, Bool.true_and, len_beq1]; done)
       | (have nk34 : ¬ (k = 3 ∨ k = 4) := by rw [hk]; decide
          rw [freeC, ht, Bool.true_and, if_neg nk0, if_neg nk1, if_neg nk2, if_neg nk34, if_pos hk, ← hr, h99, Bool.false_and]; done)
       | (have nk34 : ¬ (k = 3 ∨ k = 4) := by
            have e3 : (3 : UInt8).toNat = 3 := rfl
            have e4 : (4 : UInt8).toNat = 4 := rfl
            rintro (e | e) <;> (have := congrArg UInt8.toNat e; omega)
          rw [freeC, ht, Bool.true_and, if_neg nk0, if_neg nk1, if_neg nk2, if_neg nk34, if_neg nk5, Bool.and_false]; done)
       | (have nk34 : ¬ (k = 3 ∨ k = 4) := by
            have e3 : (3 : UInt8).toNat = 3 := rfl
            have e4 : (4 : UInt8).toNat = 4 := rfl
            rintro (e | e) <;> (have := congrArg UInt8.toNat e; omega)
          rw [freeC, ht, Bool.true_and, if_neg nk0, if_neg nk1, if_neg nk2, if_neg nk34, if_neg nk5]; done)
       | (trace_state; done)
    replace h50 := beqF h50
    have nk1 : k ≠ 1 := fun e => h50 (by rw [e]; rfl)
    refine cSeq (fun K15 hK15 => ?_)
    refine cReg ?_
    refine sBin F rfl rfl rfl rfl bEql ?_;clear F a;intro a F
    refine sAs F rfl rfl rfl ?_;clear F a;intro a F
    refine sNil ?_
    refine hK15 _ _ ?_; clear hK15
    refine cIf F rfl (fun h68 => ?_) (fun h68 => ?_)
    ·
     replace h68 := beqT h68
     have hk : k = 2 := UInt8.toNat_inj.1 (by have : (2 : UInt8).toNat = 2 := rfl; omega)
     refine cSeq (fun K16 hK16 => ?_)
     refine cReg ?_
     refine sFa (f := 2) (k := 2) Tryd.underlying25 rfl Tryd.sizeOf5 rfl rfl F rfl rfl rfl ?_;clear F a;intro a F
     refine sLd Tryd.isAgg5 F rfl rfl rfl (H.cell 0 rfl rfl) ?_;clear F a;intro a F
     refine sCv Tryd.underlying5 Tryd.underlying3 F rfl rfl rfl (wrapB _) ?_;clear F a;intro a F
     refine sMv F rfl rfl rfl ?_;clear F a;intro a F
     refine sBin F rfl rfl rfl rfl bLss ?_;clear F a;intro a F
     refine sMv F rfl rfl rfl ?_;clear F a;intro a F
     refine F.split 75 rfl ?_ ?_ <;> (clear F; intro h75 F)
     ·
      replace h75 := of_decide_eq_true h75
      refine sFa (f := 1) (k := 1) Tryd.underlying25 rfl Tryd.sizeOf5 rfl rfl F rfl rfl rfl ?_;clear F a;intro a F
      refine sLd Tryd.isAgg5 F rfl rfl rfl (H.cell 0 rfl rfl) ?_;clear F a;intro a F
      refine sBin F rfl rfl rfl rfl (bEqlB (y := 0)) ?_;clear F a;intro a F
      refine sPk F rfl rfl rfl rfl ?_;clear F a;intro a F
      refine sMv F rfl rfl rfl ?_;clear F a;intro a F
      refine F.split 80 rfl ?_ ?_ <;> (clear F; intro h80 F)
      ·
       replace h80 := beqT h80
       refine sFa (f := 4) (k := 4) Tryd.underlying25 rfl Tryd.sizeOf23 rfl rfl F rfl rfl rfl ?_;clear F a;intro a F
       refine sLd Tryd.isAgg23 F rfl rfl rfl (H.cell 0 rfl rfl) ?_;clear F a;intro a F
       refine sLen Tryd.underlying23 F rfl rfl rfl ?_;clear F a;intro a F
       refine sBin F rfl rfl rfl rfl bEql ?_;clear F a;intro a F
       refine sPk F rfl rfl rfl rfl ?_;clear F a;intro a F
       refine sAs F rfl rfl rfl ?_;clear F a;intro a F
       refine sNil ?_
       refine hK16 _ _ ?_; clear hK16
       refine wp_ret ?_
       simp only [Exit.inBlock, Exit.then]
       refine bRet Tryd.results37 F rfl ?_
       refine ⟨retB ?_, H.below⟩
       clear F H ih hK
       first
         | (rw [freeC, freeL_all, ht, hd, h24]; simp; done)
         | (rw [freeC, ht, Bool.true_and, if_pos hk, ← hr, h44, Bool.true_and, len_beq0]; done)
         | (rw [freeC, ht, Bool.true_and, if_pos hk, ← hr, h44, Bool.false_and]; done)
         | (rw [freeC, ht, Bool.true_and, if_neg nk0, if_pos hk]; simp [*, len_beq0]; done)
         | (rw [freeC, ht, Bool.true_and, if_neg nk0, if_neg nk1, if_pos hk]; simp [*, len_beq0]; done)
         | (rw [freeC, ht, Bool.true_and, if_neg nk0, if_neg nk1, if_neg nk2, if_pos hk, ← hr, h90, Bool.true_and, Bool.eq_iff_iff]; simp only [decide_eq_true_eq]; omega)
         | (rw [freeC, ht, Bool.true_and, if_neg nk0, if_neg nk1, if_neg nk2, if_pos hk, ← hr, h90, Bool.false_and]; done)
         | (have nk34 : ¬ (k = 3 ∨ k = 4) := by rw [hk]; decide
            rw [freeC, ht, Bool.true_and, if_neg nk0, if_neg nk1, if_neg nk2, if_neg nk34, if_pos hk, ← hr, h99, Bool.true_and, len_beq1]; done)
         | (have nk34 : ¬ (k = 3 ∨ k = 4) := by rw [hk]; decide
            rw [freeC, ht, Bool.true_and, if_neg nk0, if_neg nk1, if_neg nk2, if_neg nk34, if_pos hk, ← hr, h99, Bool.false_and]; done)
         | (have nk34 : ¬ (k = 3 ∨ k = 4) := by
              have e3 : (3 : UInt8).toNat = 3 := rfl
              have e4 : (4 : UInt8).toNat = 4 := rfl
              rintro (e | e) <;> (have := congrArg UInt8.toNat e; omega)
            rw [freeC, ht, Bool.true_and, if_neg nk0, if_neg nk1, if_neg nk2, if_neg nk34, if_neg nk5, Bool.and_false]; done)
         | (have nk34 : ¬ (k = 3 ∨ k = 4) := by
              have e3 : (3 : UInt8).toNat = 3 := rfl
              have e4 : (4 : UInt8).toNat = 4 := rfl
              rintro (e | e) <;> (have := congrArg UInt8.toNat e; omega)
            rw [freeC, ht, Bool.true_and, if_neg nk0, if_neg nk1, if_neg nk2, if_neg nk34, if_neg nk5]; done)
         | (trace_state; done)
      replace h80 := beqF h80
      refine sSk F rfl rfl ?_;clear F a;intro a F
      refine sSk F rfl rfl ?_;clear F a;intro a F
      refine sSk F rfl rfl ?_;clear F a;intro a F
      refine sSk F rfl rfl ?_;clear F a;intro a F
      refine sPk F rfl rfl rfl rfl ?_;clear F a;intro a F
      refine sAs F rfl rfl rfl ?_;clear F a;intro a F
      refine sNil ?_
      refine hK16 _ _ ?_; clear hK16
      refine wp_ret ?_
      simp only [Exit.inBlock, Exit.then]
      refine bRet Tryd.results37 F rfl ?_
      refine ⟨retB ?_, H.below⟩
      clear F H ih hK
      first
        | (rw [freeC, freeL_all, ht, hd, h24]; simp; done)
        | (rw [freeC, ht, Bool.true_and, if_pos hk, ← hr, h44, Bool.true_and, len_beq0]; done)
        | (rw [freeC, ht, Bool.true_and, if_pos hk, ← hr, h44, Bool.false_and]; done)
        | (rw [freeC, ht, Bool.true_and, if_neg nk0, if_pos hk]; simp [*, len_beq0]; done)
        | (rw [freeC, ht, Bool.true_and, if_neg nk0, if_neg nk1, if_pos hk]; simp [*, len_beq0]; done)
        | (rw [freeC, ht, Bool.true_and, if_neg nk0, if_neg nk1, if_neg nk2, if_pos hk, ← hr, h90, Bool.true_and, Bool.eq_iff_iff]; simp only [decide_eq_true_eq]; omega)
        | (rw [freeC, ht, Bool.true_and, if_neg nk0, if_neg nk1, if_neg nk2, if_pos hk, ← hr, h90, Bool.false_and]; done)
        | (have nk34 : ¬ (k = 3 ∨ k = 4) := by rw [hk]; decide
           rw [freeC, ht, Bool.true_and, if_neg nk0, if_neg nk1, if_neg nk2, if_neg nk34, if_pos hk, ← hr, h99, Bool.true_and, len_beq1]; done)
        | (have nk34 : ¬ (k = 3 ∨ k = 4) := by rw [hk]; decide
           rw [freeC, ht, Bool.true_and, if_neg nk0, if_neg nk1, if_neg nk2, if_neg nk34, if_pos hk, ← hr, h99, Bool.false_and]; done)
        | (have nk34 : ¬ (k = 3 ∨ k = 4) := by
             have e3 : (3 : UInt8).toNat = 3 := rfl
             have e4 : (4 : UInt8).toNat = 4 := rfl
             rintro (e | e) <;> (have := congrArg UInt8.toNat e; omega)
           rw [freeC, ht, Bool.true_and, if_neg nk0, if_neg nk1, if_neg nk2, if_neg nk34, if_neg nk5, Bool.and_false]; done)
        | (have nk34 : ¬ (k = 3 ∨ k = 4) := by
             have e3 : (3 : UInt8).toNat = 3 := rfl
             have e4 : (4 : UInt8).toNat = 4 := rfl
             rintro (e | e) <;> (have := congrArg UInt8.toNat e; omega)
           rw [freeC, ht, Bool.true_and, if_neg nk0, if_neg nk1, if_neg nk2, if_neg nk34, if_neg nk5]; done)
        | (trace_state; done)
     replace h75 := of_decide_eq_false h75
     refine sSk F rfl rfl ?_;clear F a;intro a F
     refine sSk F rfl rfl ?_;clear F a;intro a F
     refine sSk F rfl rfl ?_;clear F a;intro a F
     refine sPk F rfl rfl rfl rfl ?_;clear F a;intro a F
     refine sMv F rfl rfl rfl ?_;clear F a;intro a F
     refine sSk F rfl rfl ?_;clear F a;intro a F
     refine sSk F rfl rfl ?_;clear F a;intro a F
     refine sSk F rfl rfl ?_;clear F a;intro a F
     refine sSk F rfl rfl ?_;clear F a;intro a F
     refine sPk F rfl rfl rfl rfl ?_;clear F a;intro a F
     refine sAs F rfl rfl rfl ?_;clear F a;intro a F
     refine sNil ?_
     refine hK16 _ _ ?_; clear hK16
     refine wp_ret ?_
     simp only [Exit.inBlock, Exit.then]
     refine bRet Tryd.results37 F rfl ?_
     refine ⟨retB ?_, H.below⟩
     clear F H ih hK
     first
       | (rw [freeC, freeL_all, ht, hd, h24]; simp; done)
       | (rw [freeC, ht, Bool.true_and, if_pos hk, ← hr, h44, Bool.true_and, len_beq0]; done)
       | (rw [freeC, ht, Bool.true_and, if_pos hk, ← hr, h44, Bool.false_and]; done)
       | (rw [freeC, ht, Bool.true_and, if_neg nk0, if_pos hk]; simp [*, len_beq0]; done)
       | (rw [freeC, ht, Bool.true_and, if_neg nk0, if_neg nk1, if_pos hk]; simp [*, len_beq0]; done)
       | (rw [freeC, ht, Bool.true_and, if_neg nk0, if_neg nk1, if_neg nk2, if_pos hk, ← hr, h90, Bool.true_and, Bool.eq_iff_iff]; simp only [decide_eq_true_eq]; omega)
       | (rw [freeC, ht, Bool.true_and, if_neg nk0, if_neg nk1, if_neg nk2, if_pos hk, ← hr, h90, Bool.false_and]; done)
       | (have nk34 : ¬ (k = 3 ∨ k = 4) := by rw [hk]; decide
          rw [freeC, ht, Bool.true_and, if_neg nk0, if_neg nk1, if_neg nk2, if_neg nk34, if_pos hk, ← hr, h99, Bool.true_and, len_beq1]; done)
       | (have nk34 : ¬ (k = 3 ∨ k = 4) := by rw [hk]; decide
          rw [freeC, ht, Bool.true_and, if_neg nk0, if_neg nk1, if_neg nk2, if_neg nk34, if_pos hk, ← hr, h99, Bool.false_and]; done)
       | (have nk34 : ¬ (k = 3 ∨ k = 4) := by
            have e3 : (3 : UInt8).toNat = 3 := rfl
            have e4 : (4 : UInt8).toNat = 4 := rfl
            rintro (e | e) <;> (have := congrArg UInt8.toNat e; omega)
          rw [freeC, ht, Bool.true_and, if_neg nk0, if_neg nk1, if_neg nk2, if_neg nk34, if_neg nk5, Bool.and_false]; done)
       | (have nk34 : ¬ (k = 3 ∨ k = 4) := by
            have e3 : (3 : UInt8).toNat = 3 := rfl
            have e4 : (4 : UInt8).toNat = 4 := rfl
            rintro (e | e) <;> (have := congrArg UInt8.toNat e; omega)
          rw [freeC, ht, Bool.true_and, if_neg nk0, if_neg nk1, if_neg nk2, if_neg nk34, if_neg nk5]; done)
       | (trace_state; done)
    replace h68 := beqF h68
    have nk2 : k ≠ 2 := fun e => h68 (by rw [e]; rfl)
    refine cSeq (fun K17 hK17 => ?_)
    refine cSeq (fun K18 hK18 => ?_)
    refine cReg ?_
    refine sBin F rfl rfl rfl rfl bEql ?_;clear F a;intro a F
    refine sAs F rfl rfl rfl ?_;clear F a;intro a F
    refine sNil ?_
    refine hK18 _ _ ?_; clear hK18
    refine F.split 86 rfl ?_ ?_ <;> (clear F; intro h86 F)
    ·
     replace h86 := beqT h86
     have hk : k = 3 ∨ k = 4 := (by first | exact .inl (UInt8.toNat_inj.1 (by have : (3 : UInt8).toNat = 3 := rfl; omega)) | exact .inr (UInt8.toNat_inj.1 (by have : (4 : UInt8).toNat = 4 := rfl; omega)))
     refine cIfT F rfl ?_
     refine wp_skip ?_
     refine hK17 _ _ ?_; clear hK17
     refine cIfT F rfl ?_
     refine cSeq (fun K19 hK19 => ?_)
     refine cReg ?_
     refine sMv F rfl rfl rfl ?_;clear F a;intro a F
     refine sMv F rfl rfl rfl ?_;clear F a;intro a F
     refine F.split 90 rfl ?_ ?_ <;> (clear F; intro h90 F)
     ·
      refine sFa (f := 4) (k := 4) Tryd.underlying25 rfl Tryd.sizeOf23 rfl rfl F rfl rfl rfl ?_;clear F a;intro a F
      refine sLd Tryd.isAgg23 F rfl rfl rfl (H.cell 0 rfl rfl) ?_;clear F a;intro a F
      refine sLen Tryd.underlying23 F rfl rfl rfl ?_;clear F a;intro a F
      refine sBin F rfl rfl rfl rfl bGtr ?_;clear F a;intro a F
      refine sPk F rfl rfl rfl rfl ?_;clear F a;intro a F
      refine sAs F rfl rfl rfl ?_;clear F a;intro a F
      refine sNil ?_
      refine hK19 _ _ ?_; clear hK19
      refine wp_ret ?_
      simp only [Exit.inBlock, Exit.then]
      refine bRet Tryd.results37 F rfl ?_
      refine ⟨retB ?_, H.below⟩
      clear F H ih hK
      first
        | (rw [freeC, freeL_all, ht, hd, h24]; simp; done)
        | (rw [freeC, ht, Bool.true_and, if_pos hk, ← hr, h44, Bool.true_and, len_beq0]; done)
        | (rw [freeC, ht, Bool.true_and, if_pos hk, ← hr, h44, Bool.false_and]; done)
        | (rw [freeC, ht, Bool.true_and, if_neg nk0, if_pos hk]; simp [*, len_beq0]; done)
        | (rw [freeC, ht, Bool.true_and, if_neg nk0, if_neg nk1, if_pos hk]; simp [*, len_beq0]; done)
        | (rw [freeC, ht, Bool.true_and, if_neg nk0, if_neg nk1, if_neg nk2, if_pos hk, ← hr, h90, Bool.true_and, Bool.eq_iff_iff]; simp only [decide_eq_true_eq]; omega)
        | (rw [freeC, ht, Bool.true_and, if_neg nk0, if_neg nk1, if_neg nk2, if_pos hk, ← hr, h90, Bool.false_and]; done)
        | (have nk34 : ¬ (k = 3 ∨ k = 4) := by rw [hk]; decide
           rw [freeC, ht, Bool.true_and, if_neg nk0, if_neg nk1, if_neg nk2, if_neg nk34, if_pos hk, ← hr, h99, Bool.true_and, len_beq1]; done)
        | (have nk34 : ¬ (k = 3 ∨ k = 4) := by rw [hk]; decide
           rw [freeC, ht, Bool.true_and, if_neg nk0, if_neg nk1, if_neg nk2, if_neg nk34, if_pos hk, ← hr, h99, Bool.false_and]; done)
        | (have nk34 : ¬ (k = 3 ∨ k = 4) := by
             have e3 : (3 : UInt8).toNat = 3 := rfl
             have e4 : (4 : UInt8).toNat = 4 := rfl
             rintro (e | e) <;> (have := congrArg UInt8.toNat e; omega)
           rw [freeC, ht, Bool.true_and, if_neg nk0, if_neg nk1, if_neg nk2, if_neg nk34, if_neg nk5, Bool.and_false]; done)
        | (have nk34 : ¬ (k = 3 ∨ k = 4) := by
             have e3 : (3 : UInt8).toNat = 3 := rfl
             have e4 : (4 : UInt8).toNat = 4 := rfl
             rintro (e | e) <;> (have := congrArg UInt8.toNat e; omega)
           rw [freeC, ht, Bool.true_and, if_neg nk0, if_neg nk1, if_neg nk2, if_neg nk34, if_neg nk5]; done)
        | (trace_state; done)
     refine sSk F rfl rfl ?_;clear F a;intro a F
     refine sSk F rfl rfl ?_;clear F a;intro a F
     refine sSk F rfl rfl ?_;clear F a;intro a F
     refine sSk F rfl rfl ?_;clear F a;intro a F
     refine sPk F rfl rfl rfl rfl ?_;clear F a;intro a F
     refine sAs F rfl rfl rfl ?_;clear F a;intro a F
     refine sNil ?_
     refine hK19 _ _ ?_; clear hK19
     refine wp_ret ?_
     simp only [Exit.inBlock, Exit.then]
     refine bRet Tryd.results37 F rfl ?_
     refine ⟨retB ?_, H.below⟩
     clear F H ih hK
     first
       | (rw [freeC, freeL_all, ht, hd, h24]; simp; done)
       | (rw [freeC, ht, Bool.true_and, if_pos hk, ← hr, h44, Bool.true_and, len_beq0]; done)
       | (rw [freeC, ht, Bool.true_and, if_pos hk, ← hr, h44, Bool.false_and]; done)
       | (rw [freeC, ht, Bool.true_and, if_neg nk0, if_pos hk]; simp [*, len_beq0]; done)
       | (rw [freeC, ht, Bool.true_and, if_neg nk0, if_neg nk1, if_pos hk]; simp [*, len_beq0]; done)
       | (rw [freeC, ht, Bool.true_and, if_neg nk0, if_neg nk1, if_neg nk2, if_pos hk, ← hr, h90, Bool.true_and, Bool.eq_iff_iff]; simp only [decide_eq_true_eq]; omega)
       | (rw [freeC, ht, Bool.true_and, if_neg nk0, if_neg nk1, if_neg nk2, if_pos hk, ← hr, h90, Bool.false_and]; done)
       | (have nk34 : ¬ (k = 3 ∨ k = 4) := by rw [hk]; decide
          rw [freeC, ht, Bool.true_and, if_neg nk0, if_neg nk1, if_neg nk2, if_neg nk34, if_pos hk, ← hr, h99, Bool.true_and, len_beq1]; done)
       | (have nk34 : ¬ (k = 3 ∨ k = 4) := by rw [hk]; decide
          rw [freeC, ht, Bool.true_and, if_neg nk0, if_neg nk1, if_neg nk2, if_neg nk34, if_pos hk, ← hr, h99, Bool.false_and]; done)
       | (have nk34 : ¬ (k = 3 ∨ k = 4) := by
            have e3 : (3 : UInt8).toNat = 3 := rfl
            have e4 : (4 : UInt8).toNat = 4 := rfl
            rintro (e | e) <;> (have := congrArg UInt8.toNat e; omega)
          rw [freeC, ht, Bool.true_and, if_neg nk0, if_neg nk1, if_neg nk2, if_neg nk34, if_neg nk5, Bool.and_false]; done)
       | (have nk34 : ¬ (k = 3 ∨ k = 4) := by
            have e3 : (3 : UInt8).toNat = 3 := rfl
            have e4 : (4 : UInt8).toNat = 4 := rfl
            rintro (e | e) <;> (have := congrArg UInt8.toNat e; omega)
          rw [freeC, ht, Bool.true_and, if_neg nk0, if_neg nk1, if_neg nk2, if_neg nk34, if_neg nk5]; done)
       | (trace_state; done)
    replace h86 := beqF h86
    refine cIfF F rfl ?_
    refine cReg ?_
    refine sBin F rfl rfl rfl rfl bEql ?_;clear F a;intro a F
    refine sAs F rfl rfl rfl ?_;clear F a;intro a F
    refine sNil ?_
    refine hK17 _ _ ?_; clear hK17
    refine F.split 86 rfl ?_ ?_ <;> (clear F; intro h86 F)
    ·
     replace h86 := beqT h86
     have hk : k = 3 ∨ k = 4 := (by first | exact .inl (UInt8.toNat_inj.1 (by have : (3 : UInt8).toNat = 3 := rfl; omega)) | exact .inr (UInt8.toNat_inj.1 (by have : (4 : UInt8).toNat = 4 := rfl; omega)))
     refine cIfT F rfl ?_
     refine cSeq (fun K20 hK20 => ?_)
     refine cReg ?_
     refine sMv F rfl rfl rfl ?_;clear F a;intro a F
     refine sMv F rfl rfl rfl ?_;clear F a;intro a F
     refine F.split 90 rfl ?_ ?_ <;> (clear F; intro h90 F)
     ·
      refine sFa (f := 4) (k := 4) Tryd.underlying25 rfl Tryd.sizeOf23 rfl rfl F rfl rfl rfl ?_;clear F a;intro a F
      refine sLd Tryd.isAgg23 F rfl rfl rfl (H.cell 0 rfl rfl) ?_;clear F a;intro a F
      refine sLen Tryd.underlying23 F rfl rfl rfl ?_;clear F a;intro a F
      refine sBin F rfl rfl rfl rfl bGtr ?_;clear F a;intro a F
      refine sPk F rfl rfl rfl rfl ?_;clear F a;intro a F
      refine sAs F rfl rfl rfl ?_;clear F a;intro a F
      refine sNil ?_
      refine hK20 _ _ ?_; clear hK20
      refine wp_ret ?_
      simp only [Exit.inBlock, Exit.then]
      refine bRet Tryd.results37 F rfl ?_
      refine ⟨retB ?_, H.below⟩
      clear F H ih hK
      first
        | (rw [freeC, freeL_all, ht, hd, h24]; simp; done)
        | (rw [freeC, ht, Bool.true_and, if_pos hk, ← hr, h44, Bool.true_and, len_beq0]; done)
        | (rw [freeC, ht, Bool.true_and, if_pos hk, ← hr, h44, Bool.false_and]; done)
        | (rw [freeC, ht, Bool.true_and, if_neg nk0, if_pos hk]; simp [*, len_beq0]; done)
        | (rw [freeC, ht, Bool.true_and, if_neg nk0, if_neg nk1, if_pos hk]; simp [*, len_beq0]; done)
        | (rw [freeC, ht, Bool.true_and, if_neg nk0, if_neg nk1, if_neg nk2, if_pos hk, ← hr, h90, Bool.true_and, Bool.eq_iff_iff]; simp only [decide_eq_true_eq]; omega)
        | (rw [freeC, ht, Bool.true_and, if_neg nk0, if_neg nk1, if_neg nk2, if_pos hk, ← hr, h90, Bool.false_and]; done)
        | (have nk34 : ¬ (k = 3 ∨ k = 4) := by rw [hk]; decide
           rw [freeC, ht, Bool.true_and, if_neg nk0, if_neg nk1, if_neg nk2, if_neg nk34, if_pos hk, ← hr, h99, Bool.true_and, len_beq1]; done)
        | (have nk34 : ¬ (k = 3 ∨ k = 4) := by rw [hk]; decide
           rw [freeC, ht, Bool.true_and, if_neg nk0, if_neg nk1, if_neg nk2, if_neg nk34, if_pos hk, ← hr, h99, Bool.false_and]; done)
        | (have nk34 : ¬ (k = 3 ∨ k = 4) := by
             have e3 : (3 : UInt8).toNat = 3 := rfl
             have e4 : (4 : UInt8).toNat = 4 := rfl
             rintro (e | e) <;> (have := congrArg UInt8.toNat e; omega)
           rw [freeC, ht, Bool.true_and, if_neg nk0, if_neg nk1, if_neg nk2, if_neg nk34, if_neg nk5, Bool.and_false]; done)
        | (have nk34 : ¬ (k = 3 ∨ k = 4) := by
             have e3 : (3 : UInt8).toNat = 3 := rfl
             have e4 : (4 : UInt8).toNat = 4 := rfl
             rintro (e | e) <;> (have := congrArg UInt8.toNat e; omega)
           rw [freeC, ht, Bool.true_and, if_neg nk0, if_neg nk1, if_neg nk2, if_neg nk34, if_neg nk5]; done)
        | (trace_state; done)
     refine sSk F rfl rfl ?_;clear F a;intro a F
     refine sSk F rfl rfl ?_;clear F a;intro a F
     refine sSk F rfl rfl ?_;clear F a;intro a F
     refine sSk F rfl rfl ?_;clear F a;intro a F
     refine sPk F rfl rfl rfl rfl ?_;clear F a;intro a F
     refine sAs F rfl rfl rfl ?_;clear F a;intro a F
     refine sNil ?_
     refine hK20 _ _ ?_; clear hK20
     refine wp_ret ?_
     simp only [Exit.inBlock, Exit.then]
     refine bRet Tryd.results37 F rfl ?_
     refine ⟨retB ?_, H.below⟩
     clear F H ih hK
     first
       | (rw [freeC, freeL_all, ht, hd, h24]; simp; done)
       | (rw [freeC, ht, Bool.true_and, if_pos hk, ← hr, h44, Bool.true_and, len_beq0]; done)
       | (rw [freeC, ht, Bool.true_and, if_pos hk, ← hr, h44, Bool.false_and]; done)
       | (rw [freeC, ht, Bool.true_and, if_neg nk0, if_pos hk]; simp [*, len_beq0]; done)
       | (rw [freeC, ht, Bool.true_and, if_neg nk0, if_neg nk1, if_pos hk]; simp [*, len_beq0]; done)
       | (rw [freeC, ht, Bool.true_and, if_neg nk0, if_neg nk1, if_neg nk2, if_pos hk, ← hr, h90, Bool.true_and, Bool.eq_iff_iff]; simp only [decide_eq_true_eq]; omega)
       | (rw [freeC, ht, Bool.true_and, if_neg nk0, if_neg nk1, if_neg nk2, if_pos hk, ← hr, h90, Bool.false_and]; done)
       | (have nk34 : ¬ (k = 3 ∨ k = 4) := by rw [hk]; decide
          rw [freeC, ht, Bool.true_and, if_neg nk0, if_neg nk1, if_neg nk2, if_neg nk34, if_pos hk, ← hr, h99, Bool.true_and, len_beq1]; done)
       | (have nk34 : ¬ (k = 3 ∨ k = 4) := by rw [hk]; decide
          rw [freeC, ht, Bool.true_and, if_neg nk0, if_neg nk1, if_neg nk2, if_neg nk34, if_pos hk, ← hr, h99, Bool.false_and]; done)
       | (have nk34 : ¬ (k = 3 ∨ k = 4) := by
            have e3 : (3 : UInt8).toNat = 3 := rfl
            have e4 : (4 : UInt8).toNat = 4 := rfl
            rintro (e | e) <;> (have := congrArg UInt8.toNat e; omega)
          rw [freeC, ht, Bool.true_and, if_neg nk0, if_neg nk1, if_neg nk2, if_neg nk34, if_neg nk5, Bool.and_false]; done)
       | (have nk34 : ¬ (k = 3 ∨ k = 4) := by
            have e3 : (3 : UInt8).toNat = 3 := rfl
            have e4 : (4 : UInt8).toNat = 4 := rfl
            rintro (e | e) <;> (have := congrArg UInt8.toNat e; omega)
          rw [freeC, ht, Bool.true_and, if_neg nk0, if_neg nk1, if_neg nk2, if_neg nk34, if_neg nk5]; done)
       | (trace_state; done)
    replace h86 := beqF h86
    refine cIfF F rfl ?_
    refine cSeq (fun K21 hK21 => ?_)
    refine cReg ?_
    refine sBin F rfl rfl rfl rfl bEql ?_;clear F a;intro a F
    refine sAs F rfl rfl rfl ?_;clear F a;intro a F
    refine sNil ?_
    refine hK21 _ _ ?_; clear hK21
    refine cIf F rfl (fun h96 => ?_) (fun h96 => ?_)
    ·
     replace h96 := beqT h96
     have hk : k = 5 := UInt8.toNat_inj.1 (by have : (5 : UInt8).toNat = 5 := rfl; omega)
     refine cSeq (fun K22 hK22 => ?_)
     refine cReg ?_
     refine sMv F rfl rfl rfl ?_;clear F a;intro a F
     refine sMv F rfl rfl rfl ?_;clear F a;intro a F
     refine F.split 99 rfl ?_ ?_ <;> (clear F; intro h99 F)
     ·
      refine sFa (f := 4) (k := 4) Tryd.underlying25 rfl Tryd.sizeOf23 rfl rfl F rfl rfl rfl ?_;clear F a;intro a F
      refine sLd Tryd.isAgg23 F rfl rfl rfl (H.cell 0 rfl rfl) ?_;clear F a;intro a F
      refine sLen Tryd.underlying23 F rfl rfl rfl ?_;clear F a;intro a F
      refine sBin F rfl rfl rfl rfl bEql ?_;clear F a;intro a F
      refine sPk F rfl rfl rfl rfl ?_;clear F a;intro a F
      refine sAs F rfl rfl rfl ?_;clear F a;intro a F
      refine sNil ?_
      refine hK22 _ _ ?_; clear hK22
      refine wp_ret ?_
      simp only [Exit.inBlock, Exit.then]
      refine bRet Tryd.results37 F rfl ?_
      refine ⟨retB ?_, H.below⟩
      clear F H ih hK
      first
        | (rw [freeC, freeL_all, ht, hd, h24]; simp; done)
        | (rw [freeC, ht, Bool.true_and, if_pos hk, ← hr, h44, Bool.true_and, len_beq0]; done)
        | (rw [freeC, ht, Bool.true_and, if_pos hk, ← hr, h44, Bool.false_and]; done)
        | (rw [freeC, ht, Bool.true_and, if_neg nk0, if_pos hk]; simp [*, len_beq0]; done)
        | (rw [freeC, ht, Bool.true_and, if_neg nk0, if_neg nk1, if_pos hk]; simp [*, len_beq0]; done)
        | (rw [freeC, ht, Bool.true_and, if_neg nk0, if_neg nk1, if_neg nk2, if_pos hk, ← hr, h90, Bool.true_and, Bool.eq_iff_iff]; simp only [decide_eq_true_eq]; omega)
        | (rw [freeC, ht, Bool.true_and, if_neg nk0, if_neg nk1, if_neg nk2, if_pos hk, ← hr, h90, Bool.false_and]; done)
        | (have nk34 : ¬ (k = 3 ∨ k = 4) := by rw [hk]; decide
           rw [freeC, ht, Bool.true_and, if_neg nk0, if_neg nk1, if_neg nk2, if_neg nk34, if_pos hk, ← hr, h99, Bool.true_and, len_beq1]; done)
        | (have nk34 : ¬ (k = 3 ∨ k = 4) := by rw [hk]; decide
           rw [freeC, ht, Bool.true_and, if_neg nk0, if_neg nk1, if_neg nk2, if_neg nk34, if_pos hk, ← hr, h99, Bool.false_and]; done)
        | (have nk34 : ¬ (k = 3 ∨ k = 4) := by
             have e3 : (3 : UInt8).toNat = 3 := rfl
             have e4 : (4 : UInt8).toNat = 4 := rfl
             rintro (e | e) <;> (have := congrArg UInt8.toNat e; omega)
           rw [freeC, ht, Bool.true_and, if_neg nk0, if_neg nk1, if_neg nk2, if_neg nk34, if_neg nk5, Bool.and_false]; done)
        | (have nk34 : ¬ (k = 3 ∨ k = 4) := by
             have e3 : (3 : UInt8).toNat = 3 := rfl
             have e4 : (4 : UInt8).toNat = 4 := rfl
             rintro (e | e) <;> (have := congrArg UInt8.toNat e; omega)
           rw [freeC, ht, Bool.true_and, if_neg nk0, if_neg nk1, if_neg nk2, if_neg nk34, if_neg nk5]; done)
        | (trace_state; done)
     refine sSk F rfl rfl ?_;clear F a;intro a F
     refine sSk F rfl rfl ?_;clear F a;intro a F
     refine sSk F rfl rfl ?_;clear F a;intro a F
     refine sSk F rfl rfl ?_;clear F a;intro a F
     refine sPk F rfl rfl rfl rfl ?_;clear F a;intro a F
     refine sAs F rfl rfl rfl ?_;clear F a;intro a F
     refine sNil ?_
     refine hK22 _ _ ?_; clear hK22
     refine wp_ret ?_
     simp only [Exit.inBlock, Exit.then]
     refine bRet Tryd.results37 F rfl ?_
     refine ⟨retB ?_, H.below⟩
     clear F H ih hK
     first
       | (rw [freeC, freeL_all, ht, hd, h24]; simp; done)
       | (rw [freeC, ht, Bool.true_and, if_pos hk, ← hr, h44, Bool.true_and, len_beq0]; done)
       | (rw [freeC, ht, Bool.true_and, if_pos hk, ← hr, h44, Bool.false_and]; done)
       | (rw [freeC, ht, Bool.true_and, if_neg nk0, if_pos hk]; simp [*, len_beq0]; done)
       | (rw [freeC, ht, Bool.true_and, if_neg nk0, if_neg nk1, if_pos hk]; simp [*, len_beq0]; done)
       | (rw [freeC, ht, Bool.true_and, if_neg nk0, if_neg nk1, if_neg nk2, if_pos hk, ← hr, h90, Bool.true_and, Bool.eq_iff_iff]; simp only [decide_eq_true_eq]; omega)
       | (rw [freeC, ht, Bool.true_and, if_neg nk0, if_neg nk1, if_neg nk2, if_pos hk, ← hr, h90, Bool.false_and]; done)
       | (have nk34 : ¬ (k = 3 ∨ k = 4) := by rw [hk]; decide
          rw [freeC, ht, Bool.true_and, if_neg nk0, if_neg nk1, if_neg nk2, if_neg nk34, if_pos hk, ← hr, h99, Bool.true_and, len_beq1]; done)
       | (have nk34 : ¬ (k = 3 ∨ k = 4) := by rw [hk]; decide
          rw [freeC, ht, Bool.true_and, if_neg nk0, if_neg nk1, if_neg nk2, if_neg nk34, if_pos hk, ← hr, h99, Bool.false_and]; done)
       | (have nk34 : ¬ (k = 3 ∨ k = 4) := by
            have e3 : (3 : UInt8).toNat = 3 := rfl
            have e4 : (4 : UInt8).toNat = 4 := rfl
            rintro (e | e) <;> (have := congrArg UInt8.toNat e; omega)
          rw [freeC, ht, Bool.true_and, if_neg nk0, if_neg nk1, if_neg nk2, if_neg nk34, if_neg nk5, Bool.and_false]; done)
       | (have nk34 : ¬ (k = 3 ∨ k = 4) := by
            have e3 : (3 : UInt8).toNat = 3 := rfl
            have e4 : (4 : UInt8).toNat = 4 := rfl
            rintro (e | e) <;> (have := congrArg UInt8.toNat e; omega)
          rw [freeC, ht, Bool.true_and, if_neg nk0, if_neg nk1, if_neg nk2, if_neg nk34, if_neg nk5]; done)
       | (trace_state; done)
    replace h96 := beqF h96
    have nk5 : k ≠ 5 := fun e => h96 (by rw [e]; rfl)
    refine wp_skip ?_
    refine hK9 _ _ ?_; clear hK9
    refine cSeq (fun K23 hK23 => ?_)
    refine cReg ?_
    refine sAs F rfl rfl rfl ?_;clear F a;intro a F
    refine sNil ?_
    refine hK23 _ _ ?_; clear hK23
    refine wp_ret ?_
    refine bRet Tryd.results37 F rfl ?_
    refine ⟨retB ?_, H.below⟩
    clear F H ih hK
    first
      | (rw [freeC, freeL_all, ht, hd, h24]; simp; done)
      | (rw [freeC, ht, Bool.true_and, if_pos hk, ← hr, h44, Bool.true_and, len_beq0]; done)
      | (rw [freeC, ht, Bool.true_and, if_pos hk, ← hr, h44, Bool.false_and]; done)
      | (rw [freeC, ht, Bool.true_and, if_neg nk0, if_pos hk]; simp [*, len_beq0]; done)
      | (rw [freeC, ht, Bool.true_and, if_neg nk0, if_neg nk1, if_pos hk]; simp [*, len_beq0]; done)
      | (rw [freeC, ht, Bool.true_and, if_neg nk0, if_neg nk1, if_neg nk2, if_pos hk, ← hr, h90, Bool.true_and, Bool.eq_iff_iff]; simp only [decide_eq_true_eq]; omega)
      | (rw [freeC, ht, Bool.true_and, if_neg nk0, if_neg nk1, if_neg nk2, if_pos hk, ← hr, h90, Bool.false_and]; done)
      | (have nk34 : ¬ (k = 3 ∨ k = 4) := by rw [hk]; decide
         rw [freeC, ht, Bool.true_and, if_neg nk0, if_neg nk1, if_neg nk2, if_neg nk34, if_pos hk, ← hr, h99, Bool.true_and, len_beq1]; done)
      | (have nk34 : ¬ (k = 3 ∨ k = 4) := by rw [hk]; decide
         rw [freeC, ht, Bool.true_and, if_neg nk0, if_neg nk1, if_neg nk2, if_neg nk34, if_pos hk, ← hr, h99, Bool.false_and]; done)
      | (have nk34 : ¬ (k = 3 ∨ k = 4) := by
           have e3 : (3 : UInt8).toNat = 3 := rfl
           have e4 : (4 : UInt8).toNat = 4 := rfl
           rintro (e | e) <;> (have := congrArg UInt8.toNat e; omega)
         rw [freeC, ht, Bool.true_and, if_neg nk0, if_neg nk1, if_neg nk2, if_neg nk34, if_neg nk5, Bool.and_false]; done)
      | (have nk34 : ¬ (k = 3 ∨ k = 4) := by
           have e3 : (3 : UInt8).toNat = 3 := rfl
           have e4 : (4 : UInt8).toNat = 4 := rfl
           rintro (e | e) <;> (have := congrArg UInt8.toNat e; omega)
         rw [freeC, ht, Bool.true_and, if_neg nk0, if_neg nk1, if_neg nk2, if_neg nk34, if_neg nk5]; done)
      | (trace_state; done)
theorem rCond_any (threads locs : Int) (h : Nat) (cs : List Value) (c : Cnd) (w0 : World) (hC : CondAt w0 h cs c) (hd : deepC c ≤ 9223372036854775807) :
    Calls Tryd.prog 13 #[.agg cs.toArray, .int .i64 threads, .int .i64 locs] w0 fun e w' => e = .returned (.bool (condOk threads locs 20 c)) ∧ Below w0.heap.size w0 w' := by
  obtain ⟨k0, k1, k2, k3, k4, rfl⟩ := len5 (condAt_len hC)
  have H := Own.start w0 none
  refine enterF Tryd.func13 rfl Tryd.ntmps13 rfl (fun a F => ?_)
  refine cSeq (fun K1 hK1 => ?_)
  refine cReg ?_
  refine sBx H F rfl rfl rfl ?_
  clear F a H; intro b3 a w F H
  refine sAs F rfl rfl rfl ?_;clear F a;intro a F
  refine sNil ?_
  refine hK1 _ _ ?_; clear hK1
  refine cSeq (fun K2 hK2 => ?_)
  refine cReg ?_
  refine sLr Tryd.underlying25 rfl ?si F rfl rfl rfl (H.whole 0 rfl) ?_
  case si => exact info_size Tryd.sizeOf25
  clear F a; intro a F
  refine sCall Tryd.call36 F rfl rfl rfl (rdeep_any h _ c _ (CondAt.grown H.grown rfl _ _ _ hC) hd) ?_
  rintro e w ⟨rfl, hb⟩
  replace H := H.grow hb; clear hb
  refine ⟨_, rfl, ?_⟩
  clear F a; intro a F
  refine sBin F rfl rfl rfl rfl bLeq ?_;clear F a;intro a F
  refine sMv F rfl rfl rfl ?_;clear F a;intro a F
  refine F.split 10 rfl ?_ ?_ <;> (clear F; intro h10 F)
  ·
   replace h10 := of_decide_eq_true h10
   refine sLr Tryd.underlying25 rfl ?si F rfl rfl rfl (H.whole 0 rfl) ?_
   case si => exact info_size Tryd.sizeOf25
   clear F a; intro a F
   refine sMv F rfl rfl rfl ?_;clear F a;intro a F
   refine sMv F rfl rfl rfl ?_;clear F a;intro a F
   refine sCall Tryd.call37 F rfl rfl rfl (rcond_any threads locs h _ c _ (CondAt.grown H.grown rfl _ _ _ hC)) ?_
   rintro e w ⟨rfl, hb⟩
   replace H := H.grow hb; clear hb
   refine ⟨_, rfl, ?_⟩
   clear F a; intro a F
   refine sPk F rfl rfl rfl rfl ?_;clear F a;intro a F
   refine sAs F rfl rfl rfl ?_;clear F a;intro a F
   refine sNil ?_
   refine hK2 _ _ ?_; clear hK2
   refine wp_ret ?_
   refine bRet Tryd.results13 F rfl ?_
   refine ⟨retB ?_, H.below⟩
   rw [condOk_free]
   clear F H
   first
     | (rw [decide_eq_true (by omega), Bool.true_and]; done)
     | (rw [decide_eq_false (by omega), Bool.false_and]; done)
  replace h10 := of_decide_eq_false h10
  refine sSk F rfl rfl ?_;clear F a;intro a F
  refine sSk F rfl rfl ?_;clear F a;intro a F
  refine sSk F rfl rfl ?_;clear F a;intro a F
  refine sSk F rfl rfl ?_;clear F a;intro a F
  refine sPk F rfl rfl rfl rfl ?_;clear F a;intro a F
  refine sAs F rfl rfl rfl ?_;clear F a;intro a F
  refine sNil ?_
  refine hK2 _ _ ?_; clear hK2
  refine wp_ret ?_
  refine bRet Tryd.results13 F rfl ?_
  refine ⟨retB ?_, H.below⟩
  rw [condOk_free]
  clear F H
  first
    | (rw [decide_eq_true (by omega), Bool.true_and]; done)
    | (rw [decide_eq_false (by omega), Bool.false_and]; done)
end Go.Proofs.YtmfdpnjgljlkbaaDoor
