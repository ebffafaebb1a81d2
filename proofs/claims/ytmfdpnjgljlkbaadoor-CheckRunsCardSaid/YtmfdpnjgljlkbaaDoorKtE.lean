/-
  WALK2. seisinkit: KeptInses. Conditions: both slices lie in memory, the marks behind the first; they are short.
-/
import Derived.Test.YtmfdpnjgljlkbaaDoorKtC
set_option linter.unusedSimpArgs false
set_option linter.unusedVariables false
namespace Go.Proofs.YtmfdpnjgljlkbaaDoor
open Go.RowKit
set_option maxRecDepth 100000

theorem marksI_at {k n i : Nat} (h : i < n) : (marksI k n)[i]? = some (markI k i) := by
  rw [marksI, List.getElem?_map, List.getElem?_range h]
  rfl
set_option maxHeartbeats 800000 in
theorem keptInses_any (A1 A2 : Option Addr) (C1 C2 : Nat) (l : List Ins) (w0 : World) (hR1 : RowsAt w0 A1 10 (l.map Ins.cells)) (hR2 : RowsAt w0 A2 10 ((l ++ marksI 1 12).map Ins.cells)) (hC : l.length + 12 ≤ C2) (hl : l.length ≤ 1000000) :
    Calls Tryd.prog 14 #[.slice A2 l.length C2, .slice A1 l.length C1] w0 fun e w' => e = .returned (.bool true) ∧ Below w0.heap.size w0 w' := by
  have H := Own.start w0 none
  refine enterF Tryd.func14 rfl Tryd.ntmps14 rfl (fun a F => ?_)
  refine cSeq (fun K1 hK1 => ?_)
  refine cReg ?_
  refine sAs F rfl rfl rfl ?_;clear F a;intro a F
  refine sNil ?_
  refine hK1 _ _ ?_; clear hK1
  refine cSeq (fun K2 hK2 => ?_)
  refine cSeq (fun K3 hK3 => ?_)
  refine cReg ?_
  refine sMv F rfl rfl rfl ?_;clear F a;intro a F
  refine sLen Tryd.underlying22 F rfl rfl rfl ?_;clear F a;intro a F
  refine sMv F rfl rfl rfl ?_;clear F a;intro a F
  refine sLen Tryd.underlying22 F rfl rfl rfl ?_;clear F a;intro a F
  refine sBin F rfl rfl rfl rfl bNeq ?_;clear F a;intro a F
  refine sNil ?_
  refine hK3 _ _ ?_; clear hK3
  refine cIf F rfl (fun h11 => ?_) (fun h11 => ?_)
  ·
   replace h11 := bneT h11
   exact absurd rfl h11
  replace h11 := bneF h11
  refine wp_skip ?_
  refine hK2 _ _ ?_; clear hK2
  refine cSeq (fun K4 hK4 => ?_)
  refine cReg ?_
  refine sMv F rfl rfl rfl ?_;clear F a;intro a F
  refine sMv F rfl rfl rfl ?_;clear F a;intro a F
  refine sLen Tryd.underlying22 F rfl rfl rfl ?_;clear F a;intro a F
  refine sBin F rfl rfl rfl rfl (bAddN (j := 12) ?_) ?_
  focus omega
  clear F a; intro a F
  refine sSlH Tryd.underlying22 (fun w => ⟨_, Tryd.sizeOf50 w⟩) F rfl rfl rfl rfl ?_ ?_
  focus (first | omega | decide | (simp; omega))
  clear F a; intro a F
  refine sAs F rfl rfl rfl ?_;clear F a;intro a F
  refine sNil ?_
  refine hK4 _ _ ?_; clear hK4
  refine cSeq (fun K5 hK5 => ?_)
  refine cSeq (fun K6 hK6 => ?_)
  refine cReg ?_
  refine sAs F rfl rfl rfl ?_;clear F a;intro a F
  refine sNil ?_
  refine hK6 _ _ ?_; clear hK6
  refine wp_block ?_
  refine cLoopR [1, 5] (fun m ups w => ∃ i : Nat, m = l.length + 12 - i ∧ ups = [(6, .int .i64 ((i : Nat) : Int))] ∧ i ≤ l.length + 12 ∧ Own w0 none w []) F (l.length + 12) [(6, .int .i64 ((0 : Nat) : Int))] (by repeat (first | exact SubR.nil | (apply SubR.cons; · rfl))) ?_ ?_ ?_
  · exact ⟨0, rfl, rfl, by omega, H.sel [] rfl rfl⟩
  · repeat (first | exact trivial | refine Le.cons rfl ?_)
  clear F
  clear H
  intro m ups a w hI F
  obtain ⟨i, rfl, rfl, hi, H⟩ := hI
  refine cSeq (fun K7 hK7 => ?_)
  refine cSeq (fun K8 hK8 => ?_)
  refine cReg ?_
  refine sMv F rfl rfl rfl ?_;clear F a;intro a F
  refine sMv F rfl rfl rfl ?_;clear F a;intro a F
  refine sLen Tryd.underlying22 F rfl rfl rfl ?_;clear F a;intro a F
  refine sBin F rfl rfl rfl rfl bLss ?_;clear F a;intro a F
  refine sNil ?_
  refine hK8 _ _ ?_; clear hK8
  refine cIf F rfl (fun h20 => ?_) (fun h20 => ?_)
  ·
   replace h20 := of_decide_eq_true h20
   obtain ⟨x, hx⟩ : ∃ x, (l ++ marksI 1 12)[i]? = some x := ⟨_, List.getElem?_eq_getElem (by rw [List.length_append, marksI_length]; omega)⟩
   obtain ⟨b2, o2, rfl, hx2⟩ := hR2 i x.cells (by rw [List.getElem?_map, hx]; rfl)
   refine wp_skip ?_
   refine hK7 _ _ ?_; clear hK7
   refine cSeq (fun K9 hK9 => ?_)
   refine wp_block ?_
   refine cSeq (fun K10 hK10 => ?_)
   refine cRegRO (by kernel_rfl) H ?_
   replace H := H.drew
   refine eTakeF (k := 0) (i := 0) rfl (by kernel_rfl) F rfl rfl rfl (fun w => rMv F rfl) H (fun _ _ _ h => h) ?_;clear F a;intro a F
   refine eTakeF (k := 1) (i := 1) rfl (by kernel_rfl) F rfl rfl rfl (fun w => rMv F rfl) H (fun _ _ _ h => h) ?_;clear F a;intro a F
   refine eTake (k := 2) (i := 2) rfl (by kernel_rfl) F rfl rfl rfl rfl (fun w H => rLen Tryd.underlying22 F rfl) H (fun _ _ _ h => h) ?_;clear F a;intro a F
   refine eTakeF (k := 3) (i := 3) rfl (by kernel_rfl) F rfl rfl rfl (fun w => rBin F rfl rfl bLss) H (fun _ _ _ h => h) ?_;clear F a;intro a F
   refine eTakeF (k := 4) (i := 4) rfl (by kernel_rfl) F rfl rfl rfl (fun w => rMv F rfl) H (fun _ _ _ h => h) ?_;clear F a;intro a F
   refine F.split 27 rfl ?_ ?_ <;> (clear F; intro h27 F)
   ·
    replace h27 := of_decide_eq_true h27
    have hx3 : l[i]? = some x := by rw [← hx, List.getElem?_append_left (by omega)]
    obtain ⟨b1, o1, rfl, hx1⟩ := hR1 i x.cells (by rw [List.getElem?_map, hx3]; rfl)
    have hmk : l.length ≤ i → ∀ w, Calls Tryd.prog 32 #[.int .i64 ((1 : Nat) : Int), .int .i64 ((i - l.length : Nat) : Int)] w fun e w' => e = .returned (.agg x.cells.toArray) ∧ Below w.heap.size w w' := fun h => absurd h (by omega)
    refine eTakeF (k := 5) (i := 5) rfl (by kernel_rfl) F rfl rfl rfl (fun w => rMv F rfl) H (fun _ _ _ h => h) ?_;clear F a;intro a F
    refine eTakeF (k := 6) (i := 6) rfl (by kernel_rfl) F rfl rfl rfl (fun w => rMv F rfl) H (fun _ _ _ h => h) ?_;clear F a;intro a F
    refine eTakeF (k := 7) (i := 7) rfl (by kernel_rfl) F rfl rfl rfl (fun w => rIx Tryd.underlying22 Tryd.sizeOf50 F rfl rfl ?_) H (fun _ _ _ h => h) ?_
    focus (first | omega | decide | (simp; omega))
    clear F a; intro a F
    refine eTake (k := 8) (i := 8) rfl (by kernel_rfl) F rfl rfl rfl rfl (fun w H => rLr Tryd.underlying50 rfl ?si F rfl (H.argR hx2)) H (fun _ _ _ h => h) ?_
    case si => exact info_size Tryd.sizeOf50
    clear F a; intro a F
    refine eTakeF (k := 9) (i := 9) rfl (by kernel_rfl) F rfl rfl rfl (fun w => rMv F rfl) H (fun _ _ _ h => h) ?_;clear F a;intro a F
    refine eTakeF (k := 10) (i := 10) rfl (by kernel_rfl) F rfl rfl rfl (fun w => rMv F rfl) H (fun _ _ _ h => h) ?_;clear F a;intro a F
    refine eTakeF (k := 11) (i := 11) rfl (by kernel_rfl) F rfl rfl rfl (fun w => rIx Tryd.underlying22 Tryd.sizeOf50 F rfl rfl ?_) H (fun _ _ _ h => h) ?_
    focus (first | omega | decide | (simp; omega))
    clear F a; intro a F
    refine eTake (k := 12) (i := 12) rfl (by kernel_rfl) F rfl rfl rfl rfl (fun w H => rLr Tryd.underlying50 rfl ?si F rfl (H.argR hx1)) H (fun _ _ _ h => h) ?_
    case si => exact info_size Tryd.sizeOf50
    clear F a; intro a F
    refine eTakeF (k := 13) (i := 13) rfl (by kernel_rfl) F rfl rfl rfl (fun w => rBin F rfl rfl bEqI) H (fun _ _ _ h => h) ?_;clear F a;intro a F
    refine eTakeF (k := 14) (i := 14) rfl (by kernel_rfl) F rfl rfl rfl (fun w => rNot F rfl) H (fun _ _ _ h => h) ?_;clear F a;intro a F
    refine eTakeF (k := 15) (i := 15) rfl (by kernel_rfl) F rfl rfl rfl (fun w => rPk F rfl rfl) H (fun _ _ _ h => h) ?_;clear F a;intro a F
    refine eTakeF (k := 16) (i := 16) rfl (by kernel_rfl) F rfl rfl rfl (fun w => rMv F rfl) H (fun _ _ _ h => h) ?_;clear F a;intro a F
    refine F.split 39 rfl ?_ ?_ <;> (clear F; intro h39 F)
    ·
     replace h39 := notT h39
     exact absurd h39 (by decide)
    replace h39 := notF h39
    refine eTakeF (k := 17) (i := 17) rfl (by kernel_rfl) F rfl rfl rfl (fun w => rMv F rfl) H (fun _ _ _ h => h) ?_;clear F a;intro a F
    refine eTakeF (k := 18) (i := 18) rfl (by kernel_rfl) F rfl rfl rfl (fun w => rMv F rfl) H (fun _ _ _ h => h) ?_;clear F a;intro a F
    refine eTake (k := 19) (i := 19) rfl (by kernel_rfl) F rfl rfl rfl rfl (fun w H => rLen Tryd.underlying22 F rfl) H (fun _ _ _ h => h) ?_;clear F a;intro a F
    refine eTakeF (k := 20) (i := 20) rfl (by kernel_rfl) F rfl rfl rfl (fun w => rBin F rfl rfl bGeq) H (fun _ _ _ h => h) ?_;clear F a;intro a F
    refine eTakeF (k := 21) (i := 21) rfl (by kernel_rfl) F rfl rfl rfl (fun w => rMv F rfl) H (fun _ _ _ h => h) ?_;clear F a;intro a F
    refine F.split 44 rfl ?_ ?_ <;> (clear F; intro h44 F)
    ·
     replace h44 := of_decide_eq_true h44
     refine eTakeF (k := 22) (i := 22) rfl (by kernel_rfl) F rfl rfl rfl (fun w => rMv F rfl) H (fun _ _ _ h => h) ?_;clear F a;intro a F
     refine eTakeF (k := 23) (i := 23) rfl (by kernel_rfl) F rfl rfl rfl (fun w => rMv F rfl) H (fun _ _ _ h => h) ?_;clear F a;intro a F
     refine eTakeF (k := 24) (i := 24) rfl (by kernel_rfl) F rfl rfl rfl (fun w => rIx Tryd.underlying22 Tryd.sizeOf50 F rfl rfl ?_) H (fun _ _ _ h => h) ?_
     focus (first | omega | decide | (simp; omega))
     clear F a; intro a F
     refine eTake (k := 25) (i := 25) rfl (by kernel_rfl) F rfl rfl rfl rfl (fun w H => rLr Tryd.underlying50 rfl ?si F rfl (H.argR hx2)) H (fun _ _ _ h => h) ?_
     case si => exact info_size Tryd.sizeOf50
     clear F a; intro a F
     refine eTakeF (k := 26) (i := 26) rfl (by kernel_rfl) F rfl rfl rfl (fun w => rMv F rfl) H (fun _ _ _ h => h) ?_;clear F a;intro a F
     refine eTakeF (k := 27) (i := 27) rfl (by kernel_rfl) F rfl rfl rfl (fun w => rMv F rfl) H (fun _ _ _ h => h) ?_;clear F a;intro a F
     refine eTake (k := 28) (i := 28) rfl (by kernel_rfl) F rfl rfl rfl rfl (fun w H => rLen Tryd.underlying22 F rfl) H (fun _ _ _ h => h) ?_;clear F a;intro a F
     refine eTakeF (k := 29) (i := 29) rfl (by kernel_rfl) F rfl rfl rfl (fun w => rBin F rfl rfl (bSubN ?_ ?_)) H (fun _ _ _ h => h) ?_
     focus omega
     focus omega
     clear F a; intro a F
     refine eOne (k := 30) (i := 30) rfl (by kernel_rfl) F rfl (oCall Tryd.call32 F rfl rfl (hmk (by omega) _) ?_)
     rintro e w ⟨rfl, hb⟩
     replace H := H.grow hb; clear hb
     refine ⟨_, rfl, ?_⟩
     clear F a; intro a F
     refine eKeep H ?_
     refine eTakeF (k := 31) (i := 31) rfl (by kernel_rfl) F rfl rfl rfl (fun w => rBin F rfl rfl bEqI) H (fun _ _ _ h => h) ?_;clear F a;intro a F
     refine eTakeF (k := 32) (i := 32) rfl (by kernel_rfl) F rfl rfl rfl (fun w => rNot F rfl) H (fun _ _ _ h => h) ?_;clear F a;intro a F
     refine eTakeF (k := 33) (i := 33) rfl (by kernel_rfl) F rfl rfl rfl (fun w => rPk F rfl rfl) H (fun _ _ _ h => h) ?_;clear F a;intro a F
     refine eTakeF (k := 34) (i := 34) rfl (by kernel_rfl) F rfl rfl rfl (fun w => rPk F rfl rfl) H (fun _ _ _ h => h) ?_;clear F a;intro a F
     refine eNil (k := 35) (by kernel_rfl) ?_
     refine hK10 _ _ ?_; clear hK10
     refine cIf F rfl (fun h57 => ?_) (fun h57 => ?_)
     ·
      replace h57 := notT h57
      exact absurd h57 (by decide)
     replace h57 := notF h57
     refine wp_skip ?_
     refine hK9 _ _ ?_; clear hK9
     refine cReg ?_
     refine sMv F rfl rfl rfl ?_;clear F a;intro a F
     refine sBin F rfl rfl rfl rfl (bAddN (j := 1) ?_) ?_
     focus omega
     clear F a; intro a F
     refine sAs F rfl rfl rfl ?_;clear F a;intro a F
     refine sNil ?_
     exact ⟨_, by omega, _, ⟨i + 1, rfl, rfl, by omega, H.sel [] rfl rfl⟩, F.to (by repeat (first | exact trivial | refine Le.cons rfl ?_))⟩
    replace h44 := of_decide_eq_false h44
    refine eSkip (k := 22) (i := 22) rfl (by kernel_rfl) F rfl rfl rfl H (fun _ _ _ h => h) ?_;clear F a;intro a F
    refine eSkip (k := 23) (i := 23) rfl (by kernel_rfl) F rfl rfl rfl H (fun _ _ _ h => h) ?_;clear F a;intro a F
    refine eSkip (k := 24) (i := 24) rfl (by kernel_rfl) F rfl rfl rfl H (fun _ _ _ h => h) ?_;clear F a;intro a F
    refine eSkip (k := 25) (i := 25) rfl (by kernel_rfl) F rfl rfl rfl H (fun _ _ _ h => h) ?_;clear F a;intro a F
    refine eSkip (k := 26) (i := 26) rfl (by kernel_rfl) F rfl rfl rfl H (fun _ _ _ h => h) ?_;clear F a;intro a F
    refine eSkip (k := 27) (i := 27) rfl (by kernel_rfl) F rfl rfl rfl H (fun _ _ _ h => h) ?_;clear F a;intro a F
    refine eSkip (k := 28) (i := 28) rfl (by kernel_rfl) F rfl rfl rfl H (fun _ _ _ h => h) ?_;clear F a;intro a F
    refine eSkip (k := 29) (i := 29) rfl (by kernel_rfl) F rfl rfl rfl H (fun _ _ _ h => h) ?_;clear F a;intro a F
    refine eSkip (k := 30) (i := 30) rfl (by kernel_rfl) F rfl rfl rfl H (fun _ _ _ h => h) ?_;clear F a;intro a F
    refine eSkip (k := 31) (i := 31) rfl (by kernel_rfl) F rfl rfl rfl H (fun _ _ _ h => h) ?_;clear F a;intro a F
    refine eSkip (k := 32) (i := 32) rfl (by kernel_rfl) F rfl rfl rfl H (fun _ _ _ h => h) ?_;clear F a;intro a F
    refine eTakeF (k := 33) (i := 33) rfl (by kernel_rfl) F rfl rfl rfl (fun w => rPk F rfl rfl) H (fun _ _ _ h => h) ?_;clear F a;intro a F
    refine eTakeF (k := 34) (i := 34) rfl (by kernel_rfl) F rfl rfl rfl (fun w => rPk F rfl rfl) H (fun _ _ _ h => h) ?_;clear F a;intro a F
    refine eNil (k := 35) (by kernel_rfl) ?_
    refine hK10 _ _ ?_; clear hK10
    refine cIfF F rfl ?_
    refine wp_skip ?_
    refine hK9 _ _ ?_; clear hK9
    refine cReg ?_
    refine sMv F rfl rfl rfl ?_;clear F a;intro a F
    refine sBin F rfl rfl rfl rfl (bAddN (j := 1) ?_) ?_
    focus omega
    clear F a; intro a F
    refine sAs F rfl rfl rfl ?_;clear F a;intro a F
    refine sNil ?_
    exact ⟨_, by omega, _, ⟨i + 1, rfl, rfl, by omega, H.sel [] rfl rfl⟩, F.to (by repeat (first | exact trivial | refine Le.cons rfl ?_))⟩
   replace h27 := of_decide_eq_false h27
   have hxm : x = markI 1 (i - l.length) := by
    rw [List.getElem?_append_right (by omega), marksI_at (by omega)] at hx
    exact (Option.some.inj hx).symm
   have hmk : l.length ≤ i → ∀ w, Calls Tryd.prog 32 #[.int .i64 ((1 : Nat) : Int), .int .i64 ((i - l.length : Nat) : Int)] w fun e w' => e = .returned (.agg x.cells.toArray) ∧ Below w.heap.size w w' := fun _ w => by
    rw [hxm]
    exact markIns_any 1 (i - l.length) (by omega) (by omega) w
   clear hxm
   refine eSkip (k := 5) (i := 5) rfl (by kernel_rfl) F rfl rfl rfl H (fun _ _ _ h => h) ?_;clear F a;intro a F
   refine eSkip (k := 6) (i := 6) rfl (by kernel_rfl) F rfl rfl rfl H (fun _ _ _ h => h) ?_;clear F a;intro a F
   refine eSkip (k := 7) (i := 7) rfl (by kernel_rfl) F rfl rfl rfl H (fun _ _ _ h => h) ?_;clear F a;intro a F
   refine eSkip (k := 8) (i := 8) rfl (by kernel_rfl) F rfl rfl rfl H (fun _ _ _ h => h) ?_;clear F a;intro a F
   refine eSkip (k := 9) (i := 9) rfl (by kernel_rfl) F rfl rfl rfl H (fun _ _ _ h => h) ?_;clear F a;intro a F
   refine eSkip (k := 10) (i := 10) rfl (by kernel_rfl) F rfl rfl rfl H (fun _ _ _ h => h) ?_;clear F a;intro a F
   refine eSkip (k := 11) (i := 11) rfl (by kernel_rfl) F rfl rfl rfl H (fun _ _ _ h => h) ?_;clear F a;intro a F
   refine eSkip (k := 12) (i := 12) rfl (by kernel_rfl) F rfl rfl rfl H (fun _ _ _ h => h) ?_;clear F a;intro a F
   refine eSkip (k := 13) (i := 13) rfl (by kernel_rfl) F rfl rfl rfl H (fun _ _ _ h => h) ?_;clear F a;intro a F
   refine eSkip (k := 14) (i := 14) rfl (by kernel_rfl) F rfl rfl rfl H (fun _ _ _ h => h) ?_;clear F a;intro a F
   refine eTakeF (k := 15) (i := 15) rfl (by kernel_rfl) F rfl rfl rfl (fun w => rPk F rfl rfl) H (fun _ _ _ h => h) ?_;clear F a;intro a F
   refine eTakeF (k := 16) (i := 16) rfl (by kernel_rfl) F rfl rfl rfl (fun w => rMv F rfl) H (fun _ _ _ h => h) ?_;clear F a;intro a F
   refine eTakeF (k := 17) (i := 17) rfl (by kernel_rfl) F rfl rfl rfl (fun w => rMv F rfl) H (fun _ _ _ h => h) ?_;clear F a;intro a F
   refine eTakeF (k := 18) (i := 18) rfl (by kernel_rfl) F rfl rfl rfl (fun w => rMv F rfl) H (fun _ _ _ h => h) ?_;clear F a;intro a F
   refine eTake (k := 19) (i := 19) rfl (by kernel_rfl) F rfl rfl rfl rfl (fun w H => rLen Tryd.underlying22 F rfl) H (fun _ _ _ h => h) ?_;clear F a;intro a F
   refine eTakeF (k := 20) (i := 20) rfl (by kernel_rfl) F rfl rfl rfl (fun w => rBin F rfl rfl bGeq) H (fun _ _ _ h => h) ?_;clear F a;intro a F
   refine eTakeF (k := 21) (i := 21) rfl (by kernel_rfl) F rfl rfl rfl (fun w => rMv F rfl) H (fun _ _ _ h => h) ?_;clear F a;intro a F
   refine F.split 44 rfl ?_ ?_ <;> (clear F; intro h44 F)
   ·
    replace h44 := of_decide_eq_true h44
    refine eTakeF (k := 22) (i := 22) rfl (by kernel_rfl) F rfl rfl rfl (fun w => rMv F rfl) H (fun _ _ _ h => h) ?_;clear F a;intro a F
    refine eTakeF (k := 23) (i := 23) rfl (by kernel_rfl) F rfl rfl rfl (fun w => rMv F rfl) H (fun _ _ _ h => h) ?_;clear F a;intro a F
    refine eTakeF (k := 24) (i := 24) rfl (by kernel_rfl) F rfl rfl rfl (fun w => rIx Tryd.underlying22 Tryd.sizeOf50 F rfl rfl ?_) H (fun _ _ _ h => h) ?_
    focus (first | omega | decide | (simp; omega))
    clear F a; intro a F
    refine eTake (k := 25) (i := 25) rfl (by kernel_rfl) F rfl rfl rfl rfl (fun w H => rLr Tryd.underlying50 rfl ?si F rfl (H.argR hx2)) H (fun _ _ _ h => h) ?_
    case si => exact info_size Tryd.sizeOf50
    clear F a; intro a F
    refine eTakeF (k := 26) (i := 26) rfl (by kernel_rfl) F rfl rfl rfl (fun w => rMv F rfl) H (fun _ _ _ h => h) ?_;clear F a;intro a F
    refine eTakeF (k := 27) (i := 27) rfl (by kernel_rfl) F rfl rfl rfl (fun w => rMv F rfl) H (fun _ _ _ h => h) ?_;clear F a;intro a F
    refine eTake (k := 28) (i := 28) rfl (by kernel_rfl) F rfl rfl rfl rfl (fun w H => rLen Tryd.underlying22 F rfl) H (fun _ _ _ h => h) ?_;clear F a;intro a F
    refine eTakeF (k := 29) (i := 29) rfl (by kernel_rfl) F rfl rfl rfl (fun w => rBin F rfl rfl (bSubN ?_ ?_)) H (fun _ _ _ h => h) ?_
    focus omega
    focus omega
    clear F a; intro a F
    refine eOne (k := 30) (i := 30) rfl (by kernel_rfl) F rfl (oCall Tryd.call32 F rfl rfl (hmk (by omega) _) ?_)
    rintro e w ⟨rfl, hb⟩
    replace H := H.grow hb; clear hb
    refine ⟨_, rfl, ?_⟩
    clear F a; intro a F
    refine eKeep H ?_
    refine eTakeF (k := 31) (i := 31) rfl (by kernel_rfl) F rfl rfl rfl (fun w => rBin F rfl rfl bEqI) H (fun _ _ _ h => h) ?_;clear F a;intro a F
    refine eTakeF (k := 32) (i := 32) rfl (by kernel_rfl) F rfl rfl rfl (fun w => rNot F rfl) H (fun _ _ _ h => h) ?_;clear F a;intro a F
    refine eTakeF (k := 33) (i := 33) rfl (by kernel_rfl) F rfl rfl rfl (fun w => rPk F rfl rfl) H (fun _ _ _ h => h) ?_;clear F a;intro a F
    refine eTakeF (k := 34) (i := 34) rfl (by kernel_rfl) F rfl rfl rfl (fun w => rPk F rfl rfl) H (fun _ _ _ h => h) ?_;clear F a;intro a F
    refine eNil (k := 35) (by kernel_rfl) ?_
    refine hK10 _ _ ?_; clear hK10
    refine cIf F rfl (fun h57 => ?_) (fun h57 => ?_)
    ·
     replace h57 := notT h57
     exact absurd h57 (by decide)
    replace h57 := notF h57
    refine wp_skip ?_
    refine hK9 _ _ ?_; clear hK9
    refine cReg ?_
    refine sMv F rfl rfl rfl ?_;clear F a;intro a F
    refine sBin F rfl rfl rfl rfl (bAddN (j := 1) ?_) ?_
    focus omega
    clear F a; intro a F
    refine sAs F rfl rfl rfl ?_;clear F a;intro a F
    refine sNil ?_
    exact ⟨_, by omega, _, ⟨i + 1, rfl, rfl, by omega, H.sel [] rfl rfl⟩, F.to (by repeat (first | exact trivial | refine Le.cons rfl ?_))⟩
   replace h44 := of_decide_eq_false h44
   refine eSkip (k := 22) (i := 22) rfl (by kernel_rfl) F rfl rfl rfl H (fun _ _ _ h => h) ?_;clear F a;intro a F
   refine eSkip (k := 23) (i := 23) rfl (by kernel_rfl) F rfl rfl rfl H (fun _ _ _ h => h) ?_;clear F a;intro a F
   refine eSkip (k := 24) (i := 24) rfl (by kernel_rfl) F rfl rfl rfl H (fun _ _ _ h => h) ?_;clear F a;intro a F
   refine eSkip (k := 25) (i := 25) rfl (by kernel_rfl) F rfl rfl rfl H (fun _ _ _ h => h) ?_;clear F a;intro a F
   refine eSkip (k := 26) (i := 26) rfl (by kernel_rfl) F rfl rfl rfl H (fun _ _ _ h => h) ?_;clear F a;intro a F
   refine eSkip (k := 27) (i := 27) rfl (by kernel_rfl) F rfl rfl rfl H (fun _ _ _ h => h) ?_;clear F a;intro a F
   refine eSkip (k := 28) (i := 28) rfl (by kernel_rfl) F rfl rfl rfl H (fun _ _ _ h => h) ?_;clear F a;intro a F
   refine eSkip (k := 29) (i := 29) rfl (by kernel_rfl) F rfl rfl rfl H (fun _ _ _ h => h) ?_;clear F a;intro a F
   refine eSkip (k := 30) (i := 30) rfl (by kernel_rfl) F rfl rfl rfl H (fun _ _ _ h => h) ?_;clear F a;intro a F
   refine eSkip (k := 31) (i := 31) rfl (by kernel_rfl) F rfl rfl rfl H (fun _ _ _ h => h) ?_;clear F a;intro a F
   refine eSkip (k := 32) (i := 32) rfl (by kernel_rfl) F rfl rfl rfl H (fun _ _ _ h => h) ?_;clear F a;intro a F
   refine eTakeF (k := 33) (i := 33) rfl (by kernel_rfl) F rfl rfl rfl (fun w => rPk F rfl rfl) H (fun _ _ _ h => h) ?_;clear F a;intro a F
   refine eTakeF (k := 34) (i := 34) rfl (by kernel_rfl) F rfl rfl rfl (fun w => rPk F rfl rfl) H (fun _ _ _ h => h) ?_;clear F a;intro a F
   refine eNil (k := 35) (by kernel_rfl) ?_
   refine hK10 _ _ ?_; clear hK10
   refine cIfF F rfl ?_
   refine wp_skip ?_
   refine hK9 _ _ ?_; clear hK9
   refine cReg ?_
   refine sMv F rfl rfl rfl ?_;clear F a;intro a F
   refine sBin F rfl rfl rfl rfl (bAddN (j := 1) ?_) ?_
   focus omega
   clear F a; intro a F
   refine sAs F rfl rfl rfl ?_;clear F a;intro a F
   refine sNil ?_
   exact ⟨_, by omega, _, ⟨i + 1, rfl, rfl, by omega, H.sel [] rfl rfl⟩, F.to (by repeat (first | exact trivial | refine Le.cons rfl ?_))⟩
  replace h20 := of_decide_eq_false h20
  refine wp_exit ?_
  refine hK5 _ _ ?_; clear hK5
  refine cSeq (fun K11 hK11 => ?_)
  refine cReg ?_
  refine sAs F rfl rfl rfl ?_;clear F a;intro a F
  refine sNil ?_
  refine hK11 _ _ ?_; clear hK11
  refine wp_ret ?_
  refine bRet Tryd.results14 F rfl ?_
  exact ⟨rfl, H.below⟩
end Go.Proofs.YtmfdpnjgljlkbaaDoor
