/-
  WALK2. The law of chapter 07: CheckParts answers true. Conditions: what it is handed lies in memory; block 0 holds the table of needs.
-/
import Derived.Test.YtmfdpnjgljlkbaaDoorRfB
import Derived.Test.YtmfdpnjgljlkbaaDoorLfB
import Derived.Test.YtmfdpnjgljlkbaaDoorKtD
import Derived.Test.YtmfdpnjgljlkbaaDoorKtE
import Derived.Test.YtmfdpnjgljlkbaaDoorPgC
set_option linter.unusedSimpArgs false
set_option linter.unusedVariables false
namespace Go.Proofs.YtmfdpnjgljlkbaaDoor
open Go.RowKit
set_option maxRecDepth 100000

theorem RowsAt.pre {w : World} {A : Option Addr} {sz : Nat} {a b : List (List Value)} (h : RowsAt w A sz (a ++ b)) : RowsAt w A sz a := fun j cs hj => h j cs (by rw [List.getElem?_append_left (List.getElem?_eq_some_iff.1 hj).1]; exact hj)
set_option maxHeartbeats 4000000 in
theorem checkParts_any (A : Option Addr) (C : Nat) (l : List Ins) (h : Nat) (ccs : List Value) (c : Cnd) (threads locs : Int) (w0 : World) (hR : RowsAt w0 A 10 (l.map Ins.cells)) (hl : l.length ≤ 9223372036854775807) (hc : CapAt w0 h ccs c) (hN : NeedsAt w0) :
    Calls Tryd.prog 3 #[.slice A l.length C, .agg ccs.toArray, .int .i64 threads, .int .i64 locs] w0 fun e w' => e = .returned (.bool true) ∧ Below w0.heap.size w0 w' := by
  obtain ⟨c1, c2, c3, c4, A9, m9, C9, rfl⟩ := condShape hc.at
  have hall : ∀ r ∈ (l ++ marksI 1 12).map Ins.cells, r.length = 10 := hone _
  have H := Own.start w0 none
  refine enterF Tryd.func3 rfl Tryd.ntmps3 rfl (fun a F => ?_)
  refine cSeq (fun K1 hK1 => ?_)
  refine cReg ?_
  refine sBx H F rfl rfl rfl ?_
  clear F a H; intro b5 a w F H
  refine sAs F rfl rfl rfl ?_;clear F a;intro a F
  refine sNil ?_
  refine hK1 _ _ ?_; clear hK1
  refine cSeq (fun K2 hK2 => ?_)
  refine cSeq (fun K3 hK3 => ?_)
  refine cReg ?_
  refine sMv F rfl rfl rfl ?_;clear F a;intro a F
  refine sLen Tryd.underlying22 F rfl rfl rfl ?_;clear F a;intro a F
  refine sBin F rfl rfl rfl rfl bGtr ?_;clear F a;intro a F
  refine sMv F rfl rfl rfl ?_;clear F a;intro a F
  refine F.split 13 rfl ?_ ?_ <;> (clear F; intro h13 F)
  ·
   replace h13 := of_decide_eq_true h13
   refine sSk F rfl rfl ?_;clear F a;intro a F
   refine sSk F rfl rfl ?_;clear F a;intro a F
   refine sSk F rfl rfl ?_;clear F a;intro a F
   refine sPk F rfl rfl rfl rfl ?_;clear F a;intro a F
   refine sNil ?_
   refine hK3 _ _ ?_; clear hK3
   refine cIfT F rfl ?_
   refine cSeq (fun K4 hK4 => ?_)
   refine cReg ?_
   refine sCall Tryd.call8 F rfl rfl rfl (awake7_any _ (hN.own H)) ?_
   rintro e w ⟨rfl, hb⟩
   replace H := H.grow hb; clear hb
   refine ⟨_, rfl, ?_⟩
   clear F a; intro a F
   refine sAs F rfl rfl rfl ?_;clear F a;intro a F
   refine sNil ?_
   refine hK4 _ _ ?_; clear hK4
   refine wp_ret ?_
   simp only [Exit.then]
   refine bRet Tryd.results3 F rfl ?_
   exact ⟨rfl, H.below⟩
  replace h13 := of_decide_eq_false h13
  refine sLr Tryd.underlying25 rfl ?si F rfl rfl rfl (H.whole 0 rfl) ?_
  case si => exact info_size Tryd.sizeOf25
  clear F a; intro a F
  refine sCall Tryd.call7 F rfl rfl rfl (sizeCond_any h 400 _ c _ (hc.own H) (by omega) (by omega)) ?_
  rintro e w ⟨n15, rfl, hn1, hn2, hb⟩
  replace H := H.grow hb; clear hb
  refine ⟨_, rfl, ?_⟩
  clear F a; intro a F
  refine sBin F rfl rfl rfl rfl bGeq ?_;clear F a;intro a F
  refine sPk F rfl rfl rfl rfl ?_;clear F a;intro a F
  refine sNil ?_
  refine hK3 _ _ ?_; clear hK3
  refine cIf F rfl (fun h17 => ?_) (fun h17 => ?_)
  ·
   replace h17 := of_decide_eq_true h17
   refine cSeq (fun K5 hK5 => ?_)
   refine cReg ?_
   refine sCall Tryd.call8 F rfl rfl rfl (awake7_any _ (hN.own H)) ?_
   rintro e w ⟨rfl, hb⟩
   replace H := H.grow hb; clear hb
   refine ⟨_, rfl, ?_⟩
   clear F a; intro a F
   refine sAs F rfl rfl rfl ?_;clear F a;intro a F
   refine sNil ?_
   refine hK5 _ _ ?_; clear hK5
   refine wp_ret ?_
   simp only [Exit.then]
   refine bRet Tryd.results3 F rfl ?_
   exact ⟨rfl, H.below⟩
  replace h17 := of_decide_eq_false h17
  refine wp_skip ?_
  refine hK2 _ _ ?_; clear hK2
  refine cSeq (fun K6 hK6 => ?_)
  refine cReg ?_
  refine sMv F rfl rfl rfl ?_;clear F a;intro a F
  refine sCall Tryd.call9 F rfl rfl rfl (lentInses_any A C l _ (hR.own H) (by omega)) ?_
  rintro e w ⟨A2, k2, rfl, hk2, H2⟩
  replace H := H.join H2; clear H2
  refine ⟨_, rfl, ?_⟩
  clear F a; intro a F
  refine sAs F rfl rfl rfl ?_;clear F a;intro a F
  refine sNil ?_
  refine hK6 _ _ ?_; clear hK6
  refine cSeq (fun K7 hK7 => ?_)
  refine cRegRO (by kernel_rfl) H ?_
  replace H := H.drew
  refine eTakeF (k := 0) (i := 0) rfl (by kernel_rfl) F rfl rfl rfl (fun w => rMv F rfl) H (fun _ _ _ h => h) ?_;clear F a;intro a F
  refine eTakeF (k := 1) (i := 1) rfl (by kernel_rfl) F rfl rfl rfl (fun w => rMv F rfl) H (fun _ _ _ h => h) ?_;clear F a;intro a F
  refine eTakeF (k := 2) (i := 3) rfl (by kernel_rfl) F rfl rfl rfl (fun w => rMv F rfl) H (fun _ _ _ h => h) ?_;clear F a;intro a F
  refine eTakeF (k := 3) (i := 4) rfl (by kernel_rfl) F rfl rfl rfl (fun w => rMv F rfl) H (fun _ _ _ h => h) ?_;clear F a;intro a F
  refine eOne (k := 4) (i := 2) rfl (by kernel_rfl) F rfl (oCall Tryd.call10 F rfl rfl (thread_any A2 k2 l locs _ ((List.map_append ▸ H.rowsAt 0 rfl hall (by decide) : RowsAt _ A2 10 (l.map Ins.cells ++ (marksI 1 12).map Ins.cells)).pre) (hN.own H) hl) ?_)
  rintro e w ⟨rfl, hb⟩
  replace H := H.grow hb; clear hb
  refine ⟨_, rfl, ?_⟩
  clear F a; intro a F
  refine ePartO (by kernel_rfl) H ?_
  refine eOne (k := 5) (i := 5) rfl (by kernel_rfl) F rfl (oCall Tryd.call11 F rfl rfl (rthread_any A C l locs _ (hR.own H) hl) ?_)
  rintro e w ⟨rfl, hb⟩
  replace H := H.grow hb; clear hb
  refine ⟨_, rfl, ?_⟩
  clear F a; intro a F
  refine ePartO (by kernel_rfl) H ?_
  refine eTakeF (k := 6) (i := 6) rfl (by kernel_rfl) F rfl rfl rfl (fun w => rBin F rfl rfl (bBoolEq Tryd.underlying4)) H (fun _ _ _ h => h) ?_;clear F a;intro a F
  refine eTakeF (k := 7) (i := 7) rfl (by kernel_rfl) F rfl rfl rfl (fun w => rMv F rfl) H (fun _ _ _ h => h) ?_;clear F a;intro a F
  refine F.split 28 rfl ?_ ?_ <;> (clear F; intro h28 F)
  ·
   replace h28 := beqT h28
   refine eTake (k := 8) (i := 8) rfl (by kernel_rfl) F rfl rfl rfl rfl (fun w H => rLr Tryd.underlying25 rfl ?si F rfl (H.whole 1 rfl)) H (fun _ _ _ h => h) ?_
   case si => exact info_size Tryd.sizeOf25
   clear F a; intro a F
   refine eTakeF (k := 9) (i := 9) rfl (by kernel_rfl) F rfl rfl rfl (fun w => rMv F rfl) H (fun _ _ _ h => h) ?_;clear F a;intro a F
   refine eTakeF (k := 10) (i := 10) rfl (by kernel_rfl) F rfl rfl rfl (fun w => rMv F rfl) H (fun _ _ _ h => h) ?_;clear F a;intro a F
   refine eTake (k := 11) (i := 12) rfl (by kernel_rfl) F rfl rfl rfl rfl (fun w H => rLr Tryd.underlying25 rfl ?si F rfl (H.whole 1 rfl)) H (fun _ _ _ h => h) ?_
   case si => exact info_size Tryd.sizeOf25
   clear F a; intro a F
   refine eTakeF (k := 12) (i := 13) rfl (by kernel_rfl) F rfl rfl rfl (fun w => rMv F rfl) H (fun _ _ _ h => h) ?_;clear F a;intro a F
   refine eTakeF (k := 13) (i := 14) rfl (by kernel_rfl) F rfl rfl rfl (fun w => rMv F rfl) H (fun _ _ _ h => h) ?_;clear F a;intro a F
   refine eOne (k := 14) (i := 11) rfl (by kernel_rfl) F rfl (oCall Tryd.call12 F rfl rfl (cond_any threads locs h _ c _ (hc.own H).at) ?_)
   rintro e w ⟨rfl, hb⟩
   replace H := H.grow hb; clear hb
   refine ⟨_, rfl, ?_⟩
   clear F a; intro a F
   refine eKeep H ?_
   refine eOne (k := 15) (i := 15) rfl (by kernel_rfl) F rfl (oCall Tryd.call13 F rfl rfl (rCond_any threads locs h _ c _ (hc.own H).at (by have := deep_size c; omega)) ?_)
   rintro e w ⟨rfl, hb⟩
   replace H := H.grow hb; clear hb
   refine ⟨_, rfl, ?_⟩
   clear F a; intro a F
   refine ePartO (by kernel_rfl) H ?_
   refine eTakeF (k := 16) (i := 16) rfl (by kernel_rfl) F rfl rfl rfl (fun w => rBin F rfl rfl (bBoolEq Tryd.underlying4)) H (fun _ _ _ h => h) ?_;clear F a;intro a F
   refine eTakeF (k := 17) (i := 17) rfl (by kernel_rfl) F rfl rfl rfl (fun w => rPk F rfl rfl) H (fun _ _ _ h => h) ?_;clear F a;intro a F
   refine eTakeF (k := 18) (i := 18) rfl (by kernel_rfl) F rfl rfl rfl (fun w => rMv F rfl) H (fun _ _ _ h => h) ?_;clear F a;intro a F
   refine F.split 39 rfl ?_ ?_ <;> (clear F; intro h39 F)
   ·
    replace h39 := beqT h39
    refine eTakeF (k := 19) (i := 19) rfl (by kernel_rfl) F rfl rfl rfl (fun w => rMv F rfl) H (fun _ _ _ h => h) ?_;clear F a;intro a F
    refine eTakeF (k := 20) (i := 20) rfl (by kernel_rfl) F rfl rfl rfl (fun w => rMv F rfl) H (fun _ _ _ h => h) ?_;clear F a;intro a F
    refine eOne (k := 21) (i := 21) rfl (by kernel_rfl) F rfl (oCall Tryd.call14 F rfl rfl (keptInses_any A A2 C k2 l _ (hR.own H) (H.rowsAt 0 rfl hall (by decide)) hk2 (by omega)) ?_)
    rintro e w ⟨rfl, hb⟩
    replace H := H.grow hb; clear hb
    refine ⟨_, rfl, ?_⟩
    clear F a; intro a F
    refine ePartO (by kernel_rfl) H ?_
    refine eTakeF (k := 22) (i := 22) rfl (by kernel_rfl) F rfl rfl rfl (fun w => rPk F rfl rfl) H (fun _ _ _ h => h) ?_;clear F a;intro a F
    refine eTakeF (k := 23) (i := 23) rfl (by kernel_rfl) F rfl rfl rfl (fun w => rMv F rfl) H (fun _ _ _ h => h) ?_;clear F a;intro a F
    refine F.split 44 rfl ?_ ?_ <;> (clear F; intro h44 F)
    ·
     refine eOne (k := 24) (i := 24) rfl (by kernel_rfl) F rfl (oCall Tryd.call8 F rfl rfl (awake7_any _ (hN.own H)) ?_)
     rintro e w ⟨rfl, hb⟩
     replace H := H.grow hb; clear hb
     refine ⟨_, rfl, ?_⟩
     clear F a; intro a F
     refine ePartO (by kernel_rfl) H ?_
     refine eTakeF (k := 25) (i := 25) rfl (by kernel_rfl) F rfl rfl rfl (fun w => rPk F rfl rfl) H (fun _ _ _ h => h) ?_;clear F a;intro a F
     refine eTakeF (k := 26) (i := 26) rfl (by kernel_rfl) F rfl rfl rfl (fun w => rAs F rfl) H (fun _ _ _ h => h) ?_;clear F a;intro a F
     refine eNil (k := 27) (by kernel_rfl) ?_
     refine hK7 _ _ ?_; clear hK7
     refine wp_ret ?_
     refine bRet Tryd.results3 F rfl ?_
     exact ⟨rfl, H.below⟩
    (first | exact absurd rfl h44 | cases h44 | (simp at h44; done))
   replace h39 := beqF h39
   (first | exact absurd rfl h39 | cases h39 | (simp at h39; done))
  replace h28 := beqF h28
  (first | exact absurd rfl h28 | cases h28 | (simp at h28; done))
end Go.Proofs.YtmfdpnjgljlkbaaDoor
