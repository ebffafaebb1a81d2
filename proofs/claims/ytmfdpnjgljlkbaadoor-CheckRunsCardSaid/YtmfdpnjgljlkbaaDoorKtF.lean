/-
  WALK2. seisinkit: SameTexts, SameBytes, SameInses, SameThreads, SameConds, SameCond, SameProg answer true of equal ones. Conditions: they lie in memory.
-/
import Derived.Test.YtmfdpnjgljlkbaaDoorTrQ
import Derived.Test.YtmfdpnjgljlkbaaDoorEqI
set_option linter.unusedSimpArgs false
set_option linter.unusedVariables false
namespace Go.Proofs.YtmfdpnjgljlkbaaDoor
open Go.RowKit
set_option maxRecDepth 100000

theorem bNeI {x y : Operand} {u : Ins} : BinR Tryd.prog .neq 50 x y (.agg u.cells.toArray) (.agg u.cells.toArray) (.bool false) := by
  have h := bNeT (x' := x) (y' := y) eTI (by kernel_rfl) (by decide) (fitsI u) (fitsI u)
  rw [ceqI] at h
  exact h
theorem mapAt {α : Type} {w : World} {A : Option Addr} {sz : Nat} {f : α → List Value} {l : List α} (h : RowsAt w A sz (l.map f)) {i : Nat} {x : α} (hx : l[i]? = some x) : ∃ b o, A = some ⟨b, o, none⟩ ∧ w.rangeAt b (o + i * sz) (f x) := by
  obtain ⟨b, o, h1, h2⟩ := h i (f x) (by rw [List.getElem?_map, hx]; rfl)
  exact ⟨b, o, h1, h2⟩
set_option maxHeartbeats 2000000 in
theorem sameTexts_any (A B : Option Addr) (CA CB : Nat) (l : List ByteArray) (w0 : World) (hA : RowsAt w0 A 1 (l.map (fun s => [.string s]))) (hB : RowsAt w0 B 1 (l.map (fun s => [.string s]))) (hl : l.length ≤ 9223372036854775807) :
    Calls Tryd.prog 19 #[.slice A l.length CA, .slice B l.length CB] w0 fun e w' => e = .returned (.bool true) ∧ Below w0.heap.size w0 w' := by
  have H := Own.start w0 none
  refine enterF Tryd.func19 rfl Tryd.ntmps19 rfl (fun a F => ?_)
  refine cSeq (fun K1 hK1 => ?_)
  refine cReg ?_
  refine sAs F rfl rfl rfl ?_;clear F a;intro a F
  refine sNil ?_
  refine hK1 _ _ ?_; clear hK1
  refine cSeq (fun K2 hK2 => ?_)
  refine cSeq (fun K3 hK3 => ?_)
  refine cReg ?_
  refine sMv F rfl rfl rfl ?_;clear F a;intro a F
  refine sLen Tryd.underlying33 F rfl rfl rfl ?_;clear F a;intro a F
  refine sMv F rfl rfl rfl ?_;clear F a;intro a F
  refine sLen Tryd.underlying33 F rfl rfl rfl ?_;clear F a;intro a F
  refine sBin F rfl rfl rfl rfl bNeq ?_;clear F a;intro a F
  refine sNil ?_
  refine hK3 _ _ ?_; clear hK3
  refine cIf F rfl (fun h10 => ?_) (fun h10 => ?_)
  ·
   replace h10 := bneT h10
   exact absurd rfl h10
  replace h10 := bneF h10
  refine wp_skip ?_
  refine hK2 _ _ ?_; clear hK2
  refine cSeq (fun K4 hK4 => ?_)
  refine cSeq (fun K5 hK5 => ?_)
  refine cReg ?_
  refine sAs F rfl rfl rfl ?_;clear F a;intro a F
  refine sNil ?_
  refine hK5 _ _ ?_; clear hK5
  refine wp_block ?_
  refine cLoopR [0, 1] (fun m ups w => ∃ i : Nat, m = l.length - i ∧ ups = [(5, .int .i64 ((i : Nat) : Int))] ∧ i ≤ l.length ∧ Own w0 none w []) F (l.length) [(5, .int .i64 ((0 : Nat) : Int))] (by repeat (first | exact SubR.nil | (apply SubR.cons; · rfl))) ?_ ?_ ?_
  · exact ⟨0, rfl, rfl, by omega, H.sel [] rfl rfl⟩
  · repeat (first | exact trivial | refine Le.cons rfl ?_)
  clear F
  clear H
  intro m ups a w hI F
  obtain ⟨i, rfl, rfl, hi, H⟩ := hI
  refine cSeq (fun K6 hK6 => ?_)
  refine cSeq (fun K7 hK7 => ?_)
  refine cReg ?_
  refine sMv F rfl rfl rfl ?_;clear F a;intro a F
  refine sMv F rfl rfl rfl ?_;clear F a;intro a F
  refine sLen Tryd.underlying33 F rfl rfl rfl ?_;clear F a;intro a F
  refine sBin F rfl rfl rfl rfl bLss ?_;clear F a;intro a F
  refine sNil ?_
  refine hK7 _ _ ?_; clear hK7
  refine cIf F rfl (fun h14 => ?_) (fun h14 => ?_)
  ·
   replace h14 := of_decide_eq_true h14
   obtain ⟨x, hx⟩ : ∃ x, l[i]? = some x := ⟨_, List.getElem?_eq_getElem (by omega)⟩
   obtain ⟨bA, oA, rfl, hAx⟩ := mapAt hA hx
   obtain ⟨bB, oB, rfl, hBx⟩ := mapAt hB hx
   refine wp_skip ?_
   refine hK6 _ _ ?_; clear hK6
   refine cSeq (fun K8 hK8 => ?_)
   refine wp_block ?_
   refine cSeq (fun K9 hK9 => ?_)
   refine cRegRO (by kernel_rfl) H ?_
   replace H := H.drew
   refine eTakeF (k := 0) (i := 0) rfl (by kernel_rfl) F rfl rfl rfl (fun w => rMv F rfl) H (fun _ _ _ h => h) ?_;clear F a;intro a F
   refine eTakeF (k := 1) (i := 1) rfl (by kernel_rfl) F rfl rfl rfl (fun w => rMv F rfl) H (fun _ _ _ h => h) ?_;clear F a;intro a F
   refine eTakeF (k := 2) (i := 2) rfl (by kernel_rfl) F rfl rfl rfl (fun w => rIx Tryd.underlying33 Tryd.sizeOf9 F rfl rfl ?_) H (fun _ _ _ h => h) ?_
   focus (first | omega | decide | (simp; omega))
   clear F a; intro a F
   refine eTake (k := 3) (i := 3) rfl (by kernel_rfl) F rfl rfl rfl rfl (fun w H => rLd Tryd.isAgg9 F rfl (H.arg (hAx 0 _ rfl))) H (fun _ _ _ h => h) ?_;clear F a;intro a F
   refine eTakeF (k := 4) (i := 4) rfl (by kernel_rfl) F rfl rfl rfl (fun w => rMv F rfl) H (fun _ _ _ h => h) ?_;clear F a;intro a F
   refine eTakeF (k := 5) (i := 5) rfl (by kernel_rfl) F rfl rfl rfl (fun w => rMv F rfl) H (fun _ _ _ h => h) ?_;clear F a;intro a F
   refine eTakeF (k := 6) (i := 6) rfl (by kernel_rfl) F rfl rfl rfl (fun w => rIx Tryd.underlying33 Tryd.sizeOf9 F rfl rfl ?_) H (fun _ _ _ h => h) ?_
   focus (first | omega | decide | (simp; omega))
   clear F a; intro a F
   refine eTake (k := 7) (i := 7) rfl (by kernel_rfl) F rfl rfl rfl rfl (fun w H => rLd Tryd.isAgg9 F rfl (H.arg (hBx 0 _ rfl))) H (fun _ _ _ h => h) ?_;clear F a;intro a F
   refine eTakeF (k := 8) (i := 8) rfl (by kernel_rfl) F rfl rfl rfl (fun w => rBin F rfl rfl bStrNe) H (fun _ _ _ h => h) ?_;clear F a;intro a F
   refine eNil (k := 9) (by kernel_rfl) ?_
   refine hK9 _ _ ?_; clear hK9
   refine cIf F rfl (fun h25 => ?_) (fun h25 => ?_)
   ·
    replace h25 := nbeqT h25
    (first | exact absurd rfl h25 | exact absurd h25 (by decide) | (simp at h25; done))
   replace h25 := nbeqF h25
   refine wp_skip ?_
   refine hK8 _ _ ?_; clear hK8
   refine cReg ?_
   refine sMv F rfl rfl rfl ?_;clear F a;intro a F
   refine sBin F rfl rfl rfl rfl (bAddN (j := 1) ?_) ?_
   focus omega
   clear F a; intro a F
   refine sAs F rfl rfl rfl ?_;clear F a;intro a F
   refine sNil ?_
   exact ⟨_, by omega, _, ⟨i + 1, rfl, rfl, by omega, H.sel [] rfl rfl⟩, F.to (by repeat (first | exact trivial | refine Le.cons rfl ?_))⟩
  replace h14 := of_decide_eq_false h14
  refine wp_exit ?_
  refine hK4 _ _ ?_; clear hK4
  refine cSeq (fun K10 hK10 => ?_)
  refine cReg ?_
  refine sAs F rfl rfl rfl ?_;clear F a;intro a F
  refine sNil ?_
  refine hK10 _ _ ?_; clear hK10
  refine wp_ret ?_
  refine bRet Tryd.results19 F rfl ?_
  exact ⟨rfl, H.below⟩
set_option maxHeartbeats 2000000 in
theorem sameBytes_any (A B : Option Addr) (CA CB : Nat) (l : List UInt8) (w0 : World) (hA : RowsAt w0 A 1 (l.map (fun x => [Go.Proofs.YtmfdpnjgljlkbaaDoor.b8 x]))) (hB : RowsAt w0 B 1 (l.map (fun x => [Go.Proofs.YtmfdpnjgljlkbaaDoor.b8 x]))) (hl : l.length ≤ 9223372036854775807) :
    Calls Tryd.prog 20 #[.slice A l.length CA, .slice B l.length CB] w0 fun e w' => e = .returned (.bool true) ∧ Below w0.heap.size w0 w' := by
  have H := Own.start w0 none
  refine enterF Tryd.func20 rfl Tryd.ntmps20 rfl (fun a F => ?_)
  refine cSeq (fun K1 hK1 => ?_)
  refine cReg ?_
  refine sAs F rfl rfl rfl ?_;clear F a;intro a F
  refine sNil ?_
  refine hK1 _ _ ?_; clear hK1
  refine cSeq (fun K2 hK2 => ?_)
  refine cSeq (fun K3 hK3 => ?_)
  refine cReg ?_
  refine sMv F rfl rfl rfl ?_;clear F a;intro a F
  refine sLen Tryd.underlying34 F rfl rfl rfl ?_;clear F a;intro a F
  refine sMv F rfl rfl rfl ?_;clear F a;intro a F
  refine sLen Tryd.underlying34 F rfl rfl rfl ?_;clear F a;intro a F
  refine sBin F rfl rfl rfl rfl bNeq ?_;clear F a;intro a F
  refine sNil ?_
  refine hK3 _ _ ?_; clear hK3
  refine cIf F rfl (fun h10 => ?_) (fun h10 => ?_)
  ·
   replace h10 := bneT h10
   exact absurd rfl h10
  replace h10 := bneF h10
  refine wp_skip ?_
  refine hK2 _ _ ?_; clear hK2
  refine cSeq (fun K4 hK4 => ?_)
  refine cSeq (fun K5 hK5 => ?_)
  refine cReg ?_
  refine sAs F rfl rfl rfl ?_;clear F a;intro a F
  refine sNil ?_
  refine hK5 _ _ ?_; clear hK5
  refine wp_block ?_
  refine cLoopR [0, 1] (fun m ups w => ∃ i : Nat, m = l.length - i ∧ ups = [(5, .int .i64 ((i : Nat) : Int))] ∧ i ≤ l.length ∧ Own w0 none w []) F (l.length) [(5, .int .i64 ((0 : Nat) : Int))] (by repeat (first | exact SubR.nil | (apply SubR.cons; · rfl))) ?_ ?_ ?_
  · exact ⟨0, rfl, rfl, by omega, H.sel [] rfl rfl⟩
  · repeat (first | exact trivial | refine Le.cons rfl ?_)
  clear F
  clear H
  intro m ups a w hI F
  obtain ⟨i, rfl, rfl, hi, H⟩ := hI
  refine cSeq (fun K6 hK6 => ?_)
  refine cSeq (fun K7 hK7 => ?_)
  refine cReg ?_
  refine sMv F rfl rfl rfl ?_;clear F a;intro a F
  refine sMv F rfl rfl rfl ?_;clear F a;intro a F
  refine sLen Tryd.underlying34 F rfl rfl rfl ?_;clear F a;intro a F
  refine sBin F rfl rfl rfl rfl bLss ?_;clear F a;intro a F
  refine sNil ?_
  refine hK7 _ _ ?_; clear hK7
  refine cIf F rfl (fun h14 => ?_) (fun h14 => ?_)
  ·
   replace h14 := of_decide_eq_true h14
   obtain ⟨x, hx⟩ : ∃ x, l[i]? = some x := ⟨_, List.getElem?_eq_getElem (by omega)⟩
   obtain ⟨bA, oA, rfl, hAx⟩ := mapAt hA hx
   obtain ⟨bB, oB, rfl, hBx⟩ := mapAt hB hx
   refine wp_skip ?_
   refine hK6 _ _ ?_; clear hK6
   refine cSeq (fun K8 hK8 => ?_)
   refine wp_block ?_
   refine cSeq (fun K9 hK9 => ?_)
   refine cRegRO (by kernel_rfl) H ?_
   replace H := H.drew
   refine eTakeF (k := 0) (i := 0) rfl (by kernel_rfl) F rfl rfl rfl (fun w => rMv F rfl) H (fun _ _ _ h => h) ?_;clear F a;intro a F
   refine eTakeF (k := 1) (i := 1) rfl (by kernel_rfl) F rfl rfl rfl (fun w => rMv F rfl) H (fun _ _ _ h => h) ?_;clear F a;intro a F
   refine eTakeF (k := 2) (i := 2) rfl (by kernel_rfl) F rfl rfl rfl (fun w => rIx Tryd.underlying34 Tryd.sizeOf5 F rfl rfl ?_) H (fun _ _ _ h => h) ?_
   focus (first | omega | decide | (simp; omega))
   clear F a; intro a F
   refine eTake (k := 3) (i := 3) rfl (by kernel_rfl) F rfl rfl rfl rfl (fun w H => rLd Tryd.isAgg5 F rfl (H.arg (hAx 0 _ rfl))) H (fun _ _ _ h => h) ?_;clear F a;intro a F
   refine eTakeF (k := 4) (i := 4) rfl (by kernel_rfl) F rfl rfl rfl (fun w => rMv F rfl) H (fun _ _ _ h => h) ?_;clear F a;intro a F
   refine eTakeF (k := 5) (i := 5) rfl (by kernel_rfl) F rfl rfl rfl (fun w => rMv F rfl) H (fun _ _ _ h => h) ?_;clear F a;intro a F
   refine eTakeF (k := 6) (i := 6) rfl (by kernel_rfl) F rfl rfl rfl (fun w => rIx Tryd.underlying34 Tryd.sizeOf5 F rfl rfl ?_) H (fun _ _ _ h => h) ?_
   focus (first | omega | decide | (simp; omega))
   clear F a; intro a F
   refine eTake (k := 7) (i := 7) rfl (by kernel_rfl) F rfl rfl rfl rfl (fun w H => rLd Tryd.isAgg5 F rfl (H.arg (hBx 0 _ rfl))) H (fun _ _ _ h => h) ?_;clear F a;intro a F
   refine eTakeF (k := 8) (i := 8) rfl (by kernel_rfl) F rfl rfl rfl (fun w => rBin F rfl rfl bNeqB) H (fun _ _ _ h => h) ?_;clear F a;intro a F
   refine eNil (k := 9) (by kernel_rfl) ?_
   refine hK9 _ _ ?_; clear hK9
   refine cIf F rfl (fun h25 => ?_) (fun h25 => ?_)
   ·
    replace h25 := bneT h25
    (first | exact absurd rfl h25 | exact absurd h25 (by decide) | (simp at h25; done))
   replace h25 := bneF h25
   refine wp_skip ?_
   refine hK8 _ _ ?_; clear hK8
   refine cReg ?_
   refine sMv F rfl rfl rfl ?_;clear F a;intro a F
   refine sBin F rfl rfl rfl rfl (bAddN (j := 1) ?_) ?_
   focus omega
   clear F a; intro a F
   refine sAs F rfl rfl rfl ?_;clear F a;intro a F
   refine sNil ?_
   exact ⟨_, by omega, _, ⟨i + 1, rfl, rfl, by omega, H.sel [] rfl rfl⟩, F.to (by repeat (first | exact trivial | refine Le.cons rfl ?_))⟩
  replace h14 := of_decide_eq_false h14
  refine wp_exit ?_
  refine hK4 _ _ ?_; clear hK4
  refine cSeq (fun K10 hK10 => ?_)
  refine cReg ?_
  refine sAs F rfl rfl rfl ?_;clear F a;intro a F
  refine sNil ?_
  refine hK10 _ _ ?_; clear hK10
  refine wp_ret ?_
  refine bRet Tryd.results20 F rfl ?_
  exact ⟨rfl, H.below⟩
set_option maxHeartbeats 2000000 in
theorem sameInses_any (A B : Option Addr) (CA CB : Nat) (l : List Ins) (w0 : World) (hA : RowsAt w0 A 10 (l.map Ins.cells)) (hB : RowsAt w0 B 10 (l.map Ins.cells)) (hl : l.length ≤ 9223372036854775807) :
    Calls Tryd.prog 79 #[.slice A l.length CA, .slice B l.length CB] w0 fun e w' => e = .returned (.bool true) ∧ Below w0.heap.size w0 w' := by
  have H := Own.start w0 none
  refine enterF Tryd.func79 rfl Tryd.ntmps79 rfl (fun a F => ?_)
  refine cSeq (fun K1 hK1 => ?_)
  refine cReg ?_
  refine sAs F rfl rfl rfl ?_;clear F a;intro a F
  refine sNil ?_
  refine hK1 _ _ ?_; clear hK1
  refine cSeq (fun K2 hK2 => ?_)
  refine cSeq (fun K3 hK3 => ?_)
  refine cReg ?_
  refine sMv F rfl rfl rfl ?_;clear F a;intro a F
  refine sLen Tryd.underlying22 F rfl rfl rfl ?_;clear F a;intro a F
  refine sMv F rfl rfl rfl ?_;clear F a;intro a F
  refine sLen Tryd.underlying22 F rfl rfl rfl ?_;clear F a;intro a F
  refine sBin F rfl rfl rfl rfl bNeq ?_;clear F a;intro a F
  refine sNil ?_
  refine hK3 _ _ ?_; clear hK3
  refine cIf F rfl (fun h10 => ?_) (fun h10 => ?_)
  ·
   replace h10 := bneT h10
   exact absurd rfl h10
  replace h10 := bneF h10
  refine wp_skip ?_
  refine hK2 _ _ ?_; clear hK2
  refine cSeq (fun K4 hK4 => ?_)
  refine cSeq (fun K5 hK5 => ?_)
  refine cReg ?_
  refine sAs F rfl rfl rfl ?_;clear F a;intro a F
  refine sNil ?_
  refine hK5 _ _ ?_; clear hK5
  refine wp_block ?_
  refine cLoopR [0, 1] (fun m ups w => ∃ i : Nat, m = l.length - i ∧ ups = [(5, .int .i64 ((i : Nat) : Int))] ∧ i ≤ l.length ∧ Own w0 none w []) F (l.length) [(5, .int .i64 ((0 : Nat) : Int))] (by repeat (first | exact SubR.nil | (apply SubR.cons; · rfl))) ?_ ?_ ?_
  · exact ⟨0, rfl, rfl, by omega, H.sel [] rfl rfl⟩
  · repeat (first | exact trivial | refine Le.cons rfl ?_)
  clear F
  clear H
  intro m ups a w hI F
  obtain ⟨i, rfl, rfl, hi, H⟩ := hI
  refine cSeq (fun K6 hK6 => ?_)
  refine cSeq (fun K7 hK7 => ?_)
  refine cReg ?_
  refine sMv F rfl rfl rfl ?_;clear F a;intro a F
  refine sMv F rfl rfl rfl ?_;clear F a;intro a F
  refine sLen Tryd.underlying22 F rfl rfl rfl ?_;clear F a;intro a F
  refine sBin F rfl rfl rfl rfl bLss ?_;clear F a;intro a F
  refine sNil ?_
  refine hK7 _ _ ?_; clear hK7
  refine cIf F rfl (fun h14 => ?_) (fun h14 => ?_)
  ·
   replace h14 := of_decide_eq_true h14
   obtain ⟨x, hx⟩ : ∃ x, l[i]? = some x := ⟨_, List.getElem?_eq_getElem (by omega)⟩
   obtain ⟨bA, oA, rfl, hAx⟩ := mapAt hA hx
   obtain ⟨bB, oB, rfl, hBx⟩ := mapAt hB hx
   refine wp_skip ?_
   refine hK6 _ _ ?_; clear hK6
   refine cSeq (fun K8 hK8 => ?_)
   refine wp_block ?_
   refine cSeq (fun K9 hK9 => ?_)
   refine cRegRO (by kernel_rfl) H ?_
   replace H := H.drew
   refine eTakeF (k := 0) (i := 0) rfl (by kernel_rfl) F rfl rfl rfl (fun w => rMv F rfl) H (fun _ _ _ h => h) ?_;clear F a;intro a F
   refine eTakeF (k := 1) (i := 1) rfl (by kernel_rfl) F rfl rfl rfl (fun w => rMv F rfl) H (fun _ _ _ h => h) ?_;clear F a;intro a F
   refine eTakeF (k := 2) (i := 2) rfl (by kernel_rfl) F rfl rfl rfl (fun w => rIx Tryd.underlying22 Tryd.sizeOf50 F rfl rfl ?_) H (fun _ _ _ h => h) ?_
   focus (first | omega | decide | (simp; omega))
   clear F a; intro a F
   refine eTake (k := 3) (i := 3) rfl (by kernel_rfl) F rfl rfl rfl rfl (fun w H => rLr Tryd.underlying50 rfl ?si F rfl (H.argR hAx)) H (fun _ _ _ h => h) ?_
   case si => exact info_size Tryd.sizeOf50
   clear F a; intro a F
   refine eTakeF (k := 4) (i := 4) rfl (by kernel_rfl) F rfl rfl rfl (fun w => rMv F rfl) H (fun _ _ _ h => h) ?_;clear F a;intro a F
   refine eTakeF (k := 5) (i := 5) rfl (by kernel_rfl) F rfl rfl rfl (fun w => rMv F rfl) H (fun _ _ _ h => h) ?_;clear F a;intro a F
   refine eTakeF (k := 6) (i := 6) rfl (by kernel_rfl) F rfl rfl rfl (fun w => rIx Tryd.underlying22 Tryd.sizeOf50 F rfl rfl ?_) H (fun _ _ _ h => h) ?_
   focus (first | omega | decide | (simp; omega))
   clear F a; intro a F
   refine eTake (k := 7) (i := 7) rfl (by kernel_rfl) F rfl rfl rfl rfl (fun w H => rLr Tryd.underlying50 rfl ?si F rfl (H.argR hBx)) H (fun _ _ _ h => h) ?_
   case si => exact info_size Tryd.sizeOf50
   clear F a; intro a F
   refine eTakeF (k := 8) (i := 8) rfl (by kernel_rfl) F rfl rfl rfl (fun w => rBin F rfl rfl bNeI) H (fun _ _ _ h => h) ?_;clear F a;intro a F
   refine eNil (k := 9) (by kernel_rfl) ?_
   refine hK9 _ _ ?_; clear hK9
   refine cIf F rfl (fun h25 => ?_) (fun h25 => ?_)
   ·
    (first | exact absurd rfl h25 | exact absurd h25 (by decide) | (simp at h25; done))
   refine wp_skip ?_
   refine hK8 _ _ ?_; clear hK8
   refine cReg ?_
   refine sMv F rfl rfl rfl ?_;clear F a;intro a F
   refine sBin F rfl rfl rfl rfl (bAddN (j := 1) ?_) ?_
   focus omega
   clear F a; intro a F
   refine sAs F rfl rfl rfl ?_;clear F a;intro a F
   refine sNil ?_
   exact ⟨_, by omega, _, ⟨i + 1, rfl, rfl, by omega, H.sel [] rfl rfl⟩, F.to (by repeat (first | exact trivial | refine Le.cons rfl ?_))⟩
  replace h14 := of_decide_eq_false h14
  refine wp_exit ?_
  refine hK4 _ _ ?_; clear hK4
  refine cSeq (fun K10 hK10 => ?_)
  refine cReg ?_
  refine sAs F rfl rfl rfl ?_;clear F a;intro a F
  refine sNil ?_
  refine hK10 _ _ ?_; clear hK10
  refine wp_ret ?_
  refine bRet Tryd.results79 F rfl ?_
  exact ⟨rfl, H.below⟩
set_option maxHeartbeats 2000000 in
theorem sameThreads_any (A B : Option Addr) (CA CB : Nat) (l : List (List Ins)) (w0 : World) (hA : ThreadsAt w0 A l) (hB : ThreadsAt w0 B l) (hl : l.length ≤ 9223372036854775807) :
    Calls Tryd.prog 45 #[.slice A l.length CA, .slice B l.length CB] w0 fun e w' => e = .returned (.bool true) ∧ Below w0.heap.size w0 w' := by
  have H := Own.start w0 none
  refine enterF Tryd.func45 rfl Tryd.ntmps45 rfl (fun a F => ?_)
  refine cSeq (fun K1 hK1 => ?_)
  refine cReg ?_
  refine sAs F rfl rfl rfl ?_;clear F a;intro a F
  refine sNil ?_
  refine hK1 _ _ ?_; clear hK1
  refine cSeq (fun K2 hK2 => ?_)
  refine cSeq (fun K3 hK3 => ?_)
  refine cReg ?_
  refine sMv F rfl rfl rfl ?_;clear F a;intro a F
  refine sLen Tryd.underlying35 F rfl rfl rfl ?_;clear F a;intro a F
  refine sMv F rfl rfl rfl ?_;clear F a;intro a F
  refine sLen Tryd.underlying35 F rfl rfl rfl ?_;clear F a;intro a F
  refine sBin F rfl rfl rfl rfl bNeq ?_;clear F a;intro a F
  refine sNil ?_
  refine hK3 _ _ ?_; clear hK3
  refine cIf F rfl (fun h10 => ?_) (fun h10 => ?_)
  ·
   replace h10 := bneT h10
   exact absurd rfl h10
  replace h10 := bneF h10
  refine wp_skip ?_
  refine hK2 _ _ ?_; clear hK2
  refine cSeq (fun K4 hK4 => ?_)
  refine cSeq (fun K5 hK5 => ?_)
  refine cReg ?_
  refine sAs F rfl rfl rfl ?_;clear F a;intro a F
  refine sNil ?_
  refine hK5 _ _ ?_; clear hK5
  refine wp_block ?_
  refine cLoopR [0, 1] (fun m ups w => ∃ i : Nat, m = l.length - i ∧ ups = [(5, .int .i64 ((i : Nat) : Int))] ∧ i ≤ l.length ∧ Own w0 none w []) F (l.length) [(5, .int .i64 ((0 : Nat) : Int))] (by repeat (first | exact SubR.nil | (apply SubR.cons; · rfl))) ?_ ?_ ?_
  · exact ⟨0, rfl, rfl, by omega, H.sel [] rfl rfl⟩
  · repeat (first | exact trivial | refine Le.cons rfl ?_)
  clear F
  clear H
  intro m ups a w hI F
  obtain ⟨i, rfl, rfl, hi, H⟩ := hI
  refine cSeq (fun K6 hK6 => ?_)
  refine cSeq (fun K7 hK7 => ?_)
  refine cReg ?_
  refine sMv F rfl rfl rfl ?_;clear F a;intro a F
  refine sMv F rfl rfl rfl ?_;clear F a;intro a F
  refine sLen Tryd.underlying35 F rfl rfl rfl ?_;clear F a;intro a F
  refine sBin F rfl rfl rfl rfl bLss ?_;clear F a;intro a F
  refine sNil ?_
  refine hK7 _ _ ?_; clear hK7
  refine cIf F rfl (fun h14 => ?_) (fun h14 => ?_)
  ·
   replace h14 := of_decide_eq_true h14
   obtain ⟨x, hx⟩ : ∃ x, l[i]? = some x := ⟨_, List.getElem?_eq_getElem (by omega)⟩
   obtain ⟨bA, oA, XA, XCA, rfl, hAx, hRA, hxl⟩ := hA i x hx
   obtain ⟨bB, oB, XB, XCB, rfl, hBx, hRB, _⟩ := hB i x hx
   refine wp_skip ?_
   refine hK6 _ _ ?_; clear hK6
   refine cSeq (fun K8 hK8 => ?_)
   refine wp_block ?_
   refine cSeq (fun K9 hK9 => ?_)
   refine cRegRO (by kernel_rfl) H ?_
   replace H := H.drew
   refine eTakeF (k := 0) (i := 0) rfl (by kernel_rfl) F rfl rfl rfl (fun w => rMv F rfl) H (fun _ _ _ h => h) ?_;clear F a;intro a F
   refine eTakeF (k := 1) (i := 1) rfl (by kernel_rfl) F rfl rfl rfl (fun w => rMv F rfl) H (fun _ _ _ h => h) ?_;clear F a;intro a F
   refine eTakeF (k := 2) (i := 2) rfl (by kernel_rfl) F rfl rfl rfl (fun w => rIx Tryd.underlying35 Tryd.sizeOf22 F rfl rfl ?_) H (fun _ _ _ h => h) ?_
   focus (first | omega | decide | (simp; omega))
   clear F a; intro a F
   refine eTake (k := 3) (i := 3) rfl (by kernel_rfl) F rfl rfl rfl rfl (fun w H => rLd Tryd.isAgg22 F rfl (H.arg hAx)) H (fun _ _ _ h => h) ?_;clear F a;intro a F
   refine eTakeF (k := 4) (i := 4) rfl (by kernel_rfl) F rfl rfl rfl (fun w => rMv F rfl) H (fun _ _ _ h => h) ?_;clear F a;intro a F
   refine eTakeF (k := 5) (i := 5) rfl (by kernel_rfl) F rfl rfl rfl (fun w => rMv F rfl) H (fun _ _ _ h => h) ?_;clear F a;intro a F
   refine eTakeF (k := 6) (i := 6) rfl (by kernel_rfl) F rfl rfl rfl (fun w => rIx Tryd.underlying35 Tryd.sizeOf22 F rfl rfl ?_) H (fun _ _ _ h => h) ?_
   focus (first | omega | decide | (simp; omega))
   clear F a; intro a F
   refine eTake (k := 7) (i := 7) rfl (by kernel_rfl) F rfl rfl rfl rfl (fun w H => rLd Tryd.isAgg22 F rfl (H.arg hBx)) H (fun _ _ _ h => h) ?_;clear F a;intro a F
   refine eOne (k := 8) (i := 8) rfl (by kernel_rfl) F rfl (oCall Tryd.call79 F rfl rfl (sameInses_any XA XB XCA XCB x _ (hRA.own H) (hRB.own H) hxl) ?_)
   rintro e w ⟨rfl, hb⟩
   replace H := H.grow hb; clear hb
   refine ⟨_, rfl, ?_⟩
   clear F a; intro a F
   refine ePartO (by kernel_rfl) H ?_
   refine eTakeF (k := 9) (i := 9) rfl (by kernel_rfl) F rfl rfl rfl (fun w => rNot F rfl) H (fun _ _ _ h => h) ?_;clear F a;intro a F
   refine eNil (k := 10) (by kernel_rfl) ?_
   refine hK9 _ _ ?_; clear hK9
   refine cIf F rfl (fun h26 => ?_) (fun h26 => ?_)
   ·
    replace h26 := notT h26
    (first | exact absurd rfl h26 | exact absurd h26 (by decide) | (simp at h26; done))
   replace h26 := notF h26
   refine wp_skip ?_
   refine hK8 _ _ ?_; clear hK8
   refine cReg ?_
   refine sMv F rfl rfl rfl ?_;clear F a;intro a F
   refine sBin F rfl rfl rfl rfl (bAddN (j := 1) ?_) ?_
   focus omega
   clear F a; intro a F
   refine sAs F rfl rfl rfl ?_;clear F a;intro a F
   refine sNil ?_
   exact ⟨_, by omega, _, ⟨i + 1, rfl, rfl, by omega, H.sel [] rfl rfl⟩, F.to (by repeat (first | exact trivial | refine Le.cons rfl ?_))⟩
  replace h14 := of_decide_eq_false h14
  refine wp_exit ?_
  refine hK4 _ _ ?_; clear hK4
  refine cSeq (fun K10 hK10 => ?_)
  refine cReg ?_
  refine sAs F rfl rfl rfl ?_;clear F a;intro a F
  refine sNil ?_
  refine hK10 _ _ ?_; clear hK10
  refine wp_ret ?_
  refine bRet Tryd.results45 F rfl ?_
  exact ⟨rfl, H.below⟩
def SameC (h : Nat) : Prop := ∀ (h2 : Nat) (cs1 cs2 : List Value) (c : Cnd) (w0 : World), CondAt w0 h cs1 c → CondAt w0 h2 cs2 c → Calls Tryd.prog 21 #[.agg cs1.toArray, .agg cs2.toArray] w0 fun e w' => e = .returned (.bool true) ∧ Below w0.heap.size w0 w'
set_option maxHeartbeats 2000000 in
theorem sameConds_of (h h2 : Nat) (ih : SameC h) (A B : Option Addr) (CA CB : Nat) (l : List Cnd) (w0 : World) (hl : l.length ≤ 9223372036854775807)
    (hA : ∀ j kid, l[j]? = some kid → ∃ b off cs', A = some ⟨b, off, none⟩ ∧ w0.rangeAt b (off + j * 5) cs' ∧ CondAt w0 h cs' kid) (hB : ∀ j kid, l[j]? = some kid → ∃ b off cs', B = some ⟨b, off, none⟩ ∧ w0.rangeAt b (off + j * 5) cs' ∧ CondAt w0 h2 cs' kid) :
    Calls Tryd.prog 46 #[.slice A l.length CA, .slice B l.length CB] w0 fun e w' => e = .returned (.bool true) ∧ Below w0.heap.size w0 w' := by
  have H := Own.start w0 none
  refine enterF Tryd.func46 rfl Tryd.ntmps46 rfl (fun a F => ?_)
  refine cSeq (fun K1 hK1 => ?_)
  refine cReg ?_
  refine sAs F rfl rfl rfl ?_;clear F a;intro a F
  refine sNil ?_
  refine hK1 _ _ ?_; clear hK1
  refine cSeq (fun K2 hK2 => ?_)
  refine cSeq (fun K3 hK3 => ?_)
  refine cReg ?_
  refine sMv F rfl rfl rfl ?_;clear F a;intro a F
  refine sLen Tryd.underlying23 F rfl rfl rfl ?_;clear F a;intro a F
  refine sMv F rfl rfl rfl ?_;clear F a;intro a F
  refine sLen Tryd.underlying23 F rfl rfl rfl ?_;clear F a;intro a F
  refine sBin F rfl rfl rfl rfl bNeq ?_;clear F a;intro a F
  refine sNil ?_
  refine hK3 _ _ ?_; clear hK3
  refine cIf F rfl (fun h10 => ?_) (fun h10 => ?_)
  ·
   replace h10 := bneT h10
   exact absurd rfl h10
  replace h10 := bneF h10
  refine wp_skip ?_
  refine hK2 _ _ ?_; clear hK2
  refine cSeq (fun K4 hK4 => ?_)
  refine cSeq (fun K5 hK5 => ?_)
  refine cReg ?_
  refine sAs F rfl rfl rfl ?_;clear F a;intro a F
  refine sNil ?_
  refine hK5 _ _ ?_; clear hK5
  refine wp_block ?_
  refine cLoopR [0, 1] (fun m ups w => ∃ i : Nat, m = l.length - i ∧ ups = [(5, .int .i64 ((i : Nat) : Int))] ∧ i ≤ l.length ∧ Own w0 none w []) F (l.length) [(5, .int .i64 ((0 : Nat) : Int))] (by repeat (first | exact SubR.nil | (apply SubR.cons; · rfl))) ?_ ?_ ?_
  · exact ⟨0, rfl, rfl, by omega, H.sel [] rfl rfl⟩
  · repeat (first | exact trivial | refine Le.cons rfl ?_)
  clear F
  clear H
  intro m ups a w hI F
  obtain ⟨i, rfl, rfl, hi, H⟩ := hI
  refine cSeq (fun K6 hK6 => ?_)
  refine cSeq (fun K7 hK7 => ?_)
  refine cReg ?_
  refine sMv F rfl rfl rfl ?_;clear F a;intro a F
  refine sMv F rfl rfl rfl ?_;clear F a;intro a F
  refine sLen Tryd.underlying23 F rfl rfl rfl ?_;clear F a;intro a F
  refine sBin F rfl rfl rfl rfl bLss ?_;clear F a;intro a F
  refine sNil ?_
  refine hK7 _ _ ?_; clear hK7
  refine cIf F rfl (fun h14 => ?_) (fun h14 => ?_)
  ·
   replace h14 := of_decide_eq_true h14
   obtain ⟨x, hx⟩ : ∃ x, l[i]? = some x := ⟨_, List.getElem?_eq_getElem (by omega)⟩
   obtain ⟨bA, oA, csA, rfl, hAx, hCA⟩ := hA i x hx
   obtain ⟨bB, oB, csB, rfl, hBx, hCB⟩ := hB i x hx
   obtain ⟨a1, a2, a3, a4, a5, a6, a7, rfl⟩ := condShape hCA
   obtain ⟨b1, b2, b3, b4, b5, b6, b7, rfl⟩ := condShape hCB
   refine wp_skip ?_
   refine hK6 _ _ ?_; clear hK6
   refine cSeq (fun K8 hK8 => ?_)
   refine wp_block ?_
   refine cSeq (fun K9 hK9 => ?_)
   refine cRegRO (by kernel_rfl) H ?_
   replace H := H.drew
   refine eTakeF (k := 0) (i := 0) rfl (by kernel_rfl) F rfl rfl rfl (fun w => rMv F rfl) H (fun _ _ _ h => h) ?_;clear F a;intro a F
   refine eTakeF (k := 1) (i := 1) rfl (by kernel_rfl) F rfl rfl rfl (fun w => rMv F rfl) H (fun _ _ _ h => h) ?_;clear F a;intro a F
   refine eTakeF (k := 2) (i := 2) rfl (by kernel_rfl) F rfl rfl rfl (fun w => rIx Tryd.underlying23 Tryd.sizeOf25 F rfl rfl ?_) H (fun _ _ _ h => h) ?_
   focus (first | omega | decide | (simp; omega))
   clear F a; intro a F
   refine eTake (k := 3) (i := 3) rfl (by kernel_rfl) F rfl rfl rfl rfl (fun w H => rLr Tryd.underlying25 rfl ?si F rfl (H.argR hAx)) H (fun _ _ _ h => h) ?_
   case si => exact info_size Tryd.sizeOf25
   clear F a; intro a F
   refine eTakeF (k := 4) (i := 4) rfl (by kernel_rfl) F rfl rfl rfl (fun w => rMv F rfl) H (fun _ _ _ h => h) ?_;clear F a;intro a F
   refine eTakeF (k := 5) (i := 5) rfl (by kernel_rfl) F rfl rfl rfl (fun w => rMv F rfl) H (fun _ _ _ h => h) ?_;clear F a;intro a F
   refine eTakeF (k := 6) (i := 6) rfl (by kernel_rfl) F rfl rfl rfl (fun w => rIx Tryd.underlying23 Tryd.sizeOf25 F rfl rfl ?_) H (fun _ _ _ h => h) ?_
   focus (first | omega | decide | (simp; omega))
   clear F a; intro a F
   refine eTake (k := 7) (i := 7) rfl (by kernel_rfl) F rfl rfl rfl rfl (fun w H => rLr Tryd.underlying25 rfl ?si F rfl (H.argR hBx)) H (fun _ _ _ h => h) ?_
   case si => exact info_size Tryd.sizeOf25
   clear F a; intro a F
   refine eOne (k := 8) (i := 8) rfl (by kernel_rfl) F rfl (oCall Tryd.call21 F rfl rfl (ih h2 _ _ x _ (CondAt.grown H.grown rfl _ _ _ hCA) (CondAt.grown H.grown rfl _ _ _ hCB)) ?_)
   rintro e w ⟨rfl, hb⟩
   replace H := H.grow hb; clear hb
   refine ⟨_, rfl, ?_⟩
   clear F a; intro a F
   refine ePartO (by kernel_rfl) H ?_
   refine eTakeF (k := 9) (i := 9) rfl (by kernel_rfl) F rfl rfl rfl (fun w => rNot F rfl) H (fun _ _ _ h => h) ?_;clear F a;intro a F
   refine eNil (k := 10) (by kernel_rfl) ?_
   refine hK9 _ _ ?_; clear hK9
   refine cIf F rfl (fun h26 => ?_) (fun h26 => ?_)
   ·
    replace h26 := notT h26
    (first | exact absurd rfl h26 | exact absurd h26 (by decide) | (simp at h26; done))
   replace h26 := notF h26
   refine wp_skip ?_
   refine hK8 _ _ ?_; clear hK8
   refine cReg ?_
   refine sMv F rfl rfl rfl ?_;clear F a;intro a F
   refine sBin F rfl rfl rfl rfl (bAddN (j := 1) ?_) ?_
   focus omega
   clear F a; intro a F
   refine sAs F rfl rfl rfl ?_;clear F a;intro a F
   refine sNil ?_
   exact ⟨_, by omega, _, ⟨i + 1, rfl, rfl, by omega, H.sel [] rfl rfl⟩, F.to (by repeat (first | exact trivial | refine Le.cons rfl ?_))⟩
  replace h14 := of_decide_eq_false h14
  refine wp_exit ?_
  refine hK4 _ _ ?_; clear hK4
  refine cSeq (fun K10 hK10 => ?_)
  refine cReg ?_
  refine sAs F rfl rfl rfl ?_;clear F a;intro a F
  refine sNil ?_
  refine hK10 _ _ ?_; clear hK10
  refine wp_ret ?_
  refine bRet Tryd.results46 F rfl ?_
  exact ⟨rfl, H.below⟩
set_option maxHeartbeats 2000000 in
theorem sameCond_any (h : Nat) : SameC h := by
  induction h with
  | zero => exact fun _ _ _ _ _ h => h.elim
  | succ h ih =>
    intro h2 cs1 cs2 c w0 hc1 hc2
    obtain ⟨k, t, n, v, kids⟩ := c
    obtain ⟨A, CA, rfl, hkl, hA⟩ := hc1
    obtain ⟨q2, rfl⟩ : ∃ q, h2 = q + 1 := by
      cases h2 with
      | zero => exact hc2.elim
      | succ q => exact ⟨q, rfl⟩
    obtain ⟨B, CB, rfl, _, hB⟩ := hc2
    have H := Own.start w0 none
    refine enterF Tryd.func21 rfl Tryd.ntmps21 rfl (fun a F => ?_)
    refine cSeq (fun K1 hK1 => ?_)
    refine cReg ?_
    refine sBx H F rfl rfl rfl ?_
    clear F a H; intro b2 a w F H
    refine sBx H F rfl rfl rfl ?_
    clear F a H; intro b3 a w F H
    refine sAs F rfl rfl rfl ?_;clear F a;intro a F
    refine sNil ?_
    refine hK1 _ _ ?_; clear hK1
    refine cSeq (fun K2 hK2 => ?_)
    refine cReg ?_
    refine sFa (f := 0) (k := 0) Tryd.underlying25 rfl Tryd.sizeOf5 rfl rfl F rfl rfl rfl ?_;clear F a;intro a F
    refine sLd Tryd.isAgg5 F rfl rfl rfl (H.cell 1 rfl rfl) ?_;clear F a;intro a F
    refine sFa (f := 0) (k := 0) Tryd.underlying25 rfl Tryd.sizeOf5 rfl rfl F rfl rfl rfl ?_;clear F a;intro a F
    refine sLd Tryd.isAgg5 F rfl rfl rfl (H.cell 0 rfl rfl) ?_;clear F a;intro a F
    refine sBin F rfl rfl rfl rfl bEqlB ?_;clear F a;intro a F
    refine sMv F rfl rfl rfl ?_;clear F a;intro a F
    refine F.split 10 rfl ?_ ?_ <;> (clear F; intro h10 F)
    ·
     replace h10 := beqT h10
     refine sFa (f := 1) (k := 1) Tryd.underlying25 rfl Tryd.sizeOf5 rfl rfl F rfl rfl rfl ?_;clear F a;intro a F
     refine sLd Tryd.isAgg5 F rfl rfl rfl (H.cell 1 rfl rfl) ?_;clear F a;intro a F
     refine sFa (f := 1) (k := 1) Tryd.underlying25 rfl Tryd.sizeOf5 rfl rfl F rfl rfl rfl ?_;clear F a;intro a F
     refine sLd Tryd.isAgg5 F rfl rfl rfl (H.cell 0 rfl rfl) ?_;clear F a;intro a F
     refine sBin F rfl rfl rfl rfl bEqlB ?_;clear F a;intro a F
     refine sPk F rfl rfl rfl rfl ?_;clear F a;intro a F
     refine sMv F rfl rfl rfl ?_;clear F a;intro a F
     refine F.split 17 rfl ?_ ?_ <;> (clear F; intro h17 F)
     ·
      replace h17 := beqT h17
      refine sFa (f := 2) (k := 2) Tryd.underlying25 rfl Tryd.sizeOf5 rfl rfl F rfl rfl rfl ?_;clear F a;intro a F
      refine sLd Tryd.isAgg5 F rfl rfl rfl (H.cell 1 rfl rfl) ?_;clear F a;intro a F
      refine sFa (f := 2) (k := 2) Tryd.underlying25 rfl Tryd.sizeOf5 rfl rfl F rfl rfl rfl ?_;clear F a;intro a F
      refine sLd Tryd.isAgg5 F rfl rfl rfl (H.cell 0 rfl rfl) ?_;clear F a;intro a F
      refine sBin F rfl rfl rfl rfl bEqlB ?_;clear F a;intro a F
      refine sPk F rfl rfl rfl rfl ?_;clear F a;intro a F
      refine sMv F rfl rfl rfl ?_;clear F a;intro a F
      refine F.split 24 rfl ?_ ?_ <;> (clear F; intro h24 F)
      ·
       replace h24 := beqT h24
       refine sFa (f := 3) (k := 3) Tryd.underlying25 rfl Tryd.sizeOf5 rfl rfl F rfl rfl rfl ?_;clear F a;intro a F
       refine sLd Tryd.isAgg5 F rfl rfl rfl (H.cell 1 rfl rfl) ?_;clear F a;intro a F
       refine sFa (f := 3) (k := 3) Tryd.underlying25 rfl Tryd.sizeOf5 rfl rfl F rfl rfl rfl ?_;clear F a;intro a F
       refine sLd Tryd.isAgg5 F rfl rfl rfl (H.cell 0 rfl rfl) ?_;clear F a;intro a F
       refine sBin F rfl rfl rfl rfl bEqlB ?_;clear F a;intro a F
       refine sPk F rfl rfl rfl rfl ?_;clear F a;intro a F
       refine sMv F rfl rfl rfl ?_;clear F a;intro a F
       refine F.split 31 rfl ?_ ?_ <;> (clear F; intro h31 F)
       ·
        replace h31 := beqT h31
        refine sFa (f := 4) (k := 4) Tryd.underlying25 rfl Tryd.sizeOf23 rfl rfl F rfl rfl rfl ?_;clear F a;intro a F
        refine sLd Tryd.isAgg23 F rfl rfl rfl (H.cell 1 rfl rfl) ?_;clear F a;intro a F
        refine sFa (f := 4) (k := 4) Tryd.underlying25 rfl Tryd.sizeOf23 rfl rfl F rfl rfl rfl ?_;clear F a;intro a F
        refine sLd Tryd.isAgg23 F rfl rfl rfl (H.cell 0 rfl rfl) ?_;clear F a;intro a F
        refine sCall Tryd.call46 F rfl rfl rfl (sameConds_of h q2 ih A B CA CB kids _ hkl (fun j kid hj => by obtain ⟨b, o, cs, h1, h2, h3⟩ := hA j kid hj; exact ⟨b, o, cs, h1, H.argR h2, CondAt.grown H.grown rfl _ _ _ h3⟩) (fun j kid hj => by obtain ⟨b, o, cs, h1, h2, h3⟩ := hB j kid hj; exact ⟨b, o, cs, h1, H.argR h2, CondAt.grown H.grown rfl _ _ _ h3⟩)) ?_
        rintro e w ⟨rfl, hb⟩
        replace H := H.grow hb; clear hb
        refine ⟨_, rfl, ?_⟩
        clear F a; intro a F
        refine sPk F rfl rfl rfl rfl ?_;clear F a;intro a F
        refine sAs F rfl rfl rfl ?_;clear F a;intro a F
        refine sNil ?_
        refine hK2 _ _ ?_; clear hK2
        refine wp_ret ?_
        refine bRet Tryd.results21 F rfl ?_
        exact ⟨rfl, H.below⟩
       replace h31 := beqF h31
       (first | exact absurd rfl h31 | exact absurd h31 (by decide) | (simp at h31; done))
      replace h24 := beqF h24
      (first | exact absurd rfl h24 | exact absurd h24 (by decide) | (simp at h24; done))
     replace h17 := beqF h17
     (first | exact absurd rfl h17 | exact absurd h17 (by decide) | (simp at h17; done))
    replace h10 := beqF h10
    (first | exact absurd rfl h10 | exact absurd h10 (by decide) | (simp at h10; done))
set_option maxHeartbeats 4000000 in
theorem sameProg_any (cs1 cs2 : List Value) (p : Prg) (LA : Option Addr) (LC : Nat) (IA : Option Addr) (IC : Nat) (TA : Option Addr) (TC h : Nat) (ccs : List Value) (LA2 : Option Addr) (LC2 : Nat) (IA2 : Option Addr) (IC2 : Nat) (TA2 : Option Addr) (TC2 h2 : Nat) (ccs2 : List Value) (w0 : World)
    (hp : ProgIn w0 cs1 p LA LC IA IC TA TC h ccs) (hq : ProgIn w0 cs2 p LA2 LC2 IA2 IC2 TA2 TC2 h2 ccs2) :
    Calls Tryd.prog 18 #[.agg cs1.toArray, .agg cs2.toArray] w0 fun e w' => e = .returned (.bool true) ∧ Below w0.heap.size w0 w' := by
  obtain ⟨a1, a2, a3, a4, a5, a6, a7, rfl⟩ := condShape hp.cond
  obtain ⟨b1, b2, b3, b4, b5, b6, b7, rfl⟩ := condShape hq.cond
  have hcs := hp.cs
  have hcs2 := hq.cs
  simp only [List.cons_append, List.nil_append] at hcs hcs2
  subst hcs hcs2
  have H := Own.start w0 none
  refine enterF Tryd.func18 rfl Tryd.ntmps18 rfl (fun a F => ?_)
  refine cSeq (fun K1 hK1 => ?_)
  refine cReg ?_
  refine sBx H F rfl rfl rfl ?_
  clear F a H; intro b2 a w F H
  refine sBx H F rfl rfl rfl ?_
  clear F a H; intro b3 a w F H
  refine sAs F rfl rfl rfl ?_;clear F a;intro a F
  refine sNil ?_
  refine hK1 _ _ ?_; clear hK1
  refine cSeq (fun K2 hK2 => ?_)
  refine cReg ?_
  refine sFa (f := 0) (k := 0) Tryd.underlying37 rfl Tryd.sizeOf9 rfl rfl F rfl rfl rfl ?_;clear F a;intro a F
  refine sLd Tryd.isAgg9 F rfl rfl rfl (H.cell 1 rfl rfl) ?_;clear F a;intro a F
  refine sFa (f := 0) (k := 0) Tryd.underlying37 rfl Tryd.sizeOf9 rfl rfl F rfl rfl rfl ?_;clear F a;intro a F
  refine sLd Tryd.isAgg9 F rfl rfl rfl (H.cell 0 rfl rfl) ?_;clear F a;intro a F
  refine sBin F rfl rfl rfl rfl bStrEq ?_;clear F a;intro a F
  refine sMv F rfl rfl rfl ?_;clear F a;intro a F
  refine F.split 10 rfl ?_ ?_ <;> (clear F; intro h10 F)
  ·
   replace h10 := beqT h10
   refine sFa (f := 4) (k := 4) Tryd.underlying37 rfl Tryd.sizeOf5 rfl rfl F rfl rfl rfl ?_;clear F a;intro a F
   refine sLd Tryd.isAgg5 F rfl rfl rfl (H.cell 1 rfl rfl) ?_;clear F a;intro a F
   refine sFa (f := 4) (k := 4) Tryd.underlying37 rfl Tryd.sizeOf5 rfl rfl F rfl rfl rfl ?_;clear F a;intro a F
   refine sLd Tryd.isAgg5 F rfl rfl rfl (H.cell 0 rfl rfl) ?_;clear F a;intro a F
   refine sBin F rfl rfl rfl rfl bEqlB ?_;clear F a;intro a F
   refine sPk F rfl rfl rfl rfl ?_;clear F a;intro a F
   refine sMv F rfl rfl rfl ?_;clear F a;intro a F
   refine F.split 17 rfl ?_ ?_ <;> (clear F; intro h17 F)
   ·
    replace h17 := beqT h17
    refine sFa (f := 1) (k := 1) Tryd.underlying37 rfl Tryd.sizeOf33 rfl rfl F rfl rfl rfl ?_;clear F a;intro a F
    refine sLd Tryd.isAgg33 F rfl rfl rfl (H.cell 1 rfl rfl) ?_;clear F a;intro a F
    refine sFa (f := 1) (k := 1) Tryd.underlying37 rfl Tryd.sizeOf33 rfl rfl F rfl rfl rfl ?_;clear F a;intro a F
    refine sLd Tryd.isAgg33 F rfl rfl rfl (H.cell 0 rfl rfl) ?_;clear F a;intro a F
    refine sCall Tryd.call19 F rfl rfl rfl (sameTexts_any LA LA2 LC LC2 p.locs _ (hp.locs.own H) (hq.locs.own H) hp.locsN) ?_
    rintro e w ⟨rfl, hb⟩
    replace H := H.grow hb; clear hb
    refine ⟨_, rfl, ?_⟩
    clear F a; intro a F
    refine sPk F rfl rfl rfl rfl ?_;clear F a;intro a F
    refine sMv F rfl rfl rfl ?_;clear F a;intro a F
    refine F.split 24 rfl ?_ ?_ <;> (clear F; intro h24 F)
    ·
     refine sFa (f := 2) (k := 2) Tryd.underlying37 rfl Tryd.sizeOf34 rfl rfl F rfl rfl rfl ?_;clear F a;intro a F
     refine sLd Tryd.isAgg34 F rfl rfl rfl (H.cell 1 rfl rfl) ?_;clear F a;intro a F
     refine sFa (f := 2) (k := 2) Tryd.underlying37 rfl Tryd.sizeOf34 rfl rfl F rfl rfl rfl ?_;clear F a;intro a F
     refine sLd Tryd.isAgg34 F rfl rfl rfl (H.cell 0 rfl rfl) ?_;clear F a;intro a F
     refine sCall Tryd.call20 F rfl rfl rfl (sameBytes_any IA IA2 IC IC2 p.init _ (hp.init.own H) (hq.init.own H) hp.initN) ?_
     rintro e w ⟨rfl, hb⟩
     replace H := H.grow hb; clear hb
     refine ⟨_, rfl, ?_⟩
     clear F a; intro a F
     refine sPk F rfl rfl rfl rfl ?_;clear F a;intro a F
     refine sMv F rfl rfl rfl ?_;clear F a;intro a F
     refine F.split 31 rfl ?_ ?_ <;> (clear F; intro h31 F)
     ·
      refine sFa (f := 3) (k := 3) Tryd.underlying37 rfl Tryd.sizeOf35 rfl rfl F rfl rfl rfl ?_;clear F a;intro a F
      refine sLd Tryd.isAgg35 F rfl rfl rfl (H.cell 1 rfl rfl) ?_;clear F a;intro a F
      refine sFa (f := 3) (k := 3) Tryd.underlying37 rfl Tryd.sizeOf35 rfl rfl F rfl rfl rfl ?_;clear F a;intro a F
      refine sLd Tryd.isAgg35 F rfl rfl rfl (H.cell 0 rfl rfl) ?_;clear F a;intro a F
      refine sCall Tryd.call45 F rfl rfl rfl (sameThreads_any TA TA2 TC TC2 p.threads _ (hp.threads.own H) (hq.threads.own H) hp.threadsN) ?_
      rintro e w ⟨rfl, hb⟩
      replace H := H.grow hb; clear hb
      refine ⟨_, rfl, ?_⟩
      clear F a; intro a F
      refine sPk F rfl rfl rfl rfl ?_;clear F a;intro a F
      refine sMv F rfl rfl rfl ?_;clear F a;intro a F
      refine F.split 38 rfl ?_ ?_ <;> (clear F; intro h38 F)
      ·
       refine sFa (f := 5) (k := 5) Tryd.underlying37 rfl Tryd.sizeOf25 rfl rfl F rfl rfl rfl ?_;clear F a;intro a F
       refine sLr Tryd.underlying25 rfl ?si F rfl rfl rfl (H.range 1 rfl _ 5) ?_
       case si => exact info_size Tryd.sizeOf25
       clear F a; intro a F
       refine sFa (f := 5) (k := 5) Tryd.underlying37 rfl Tryd.sizeOf25 rfl rfl F rfl rfl rfl ?_;clear F a;intro a F
       refine sLr Tryd.underlying25 rfl ?si F rfl rfl rfl (H.range 0 rfl _ 5) ?_
       case si => exact info_size Tryd.sizeOf25
       clear F a; intro a F
       refine sCall Tryd.call21 F rfl rfl rfl (sameCond_any h h2 _ _ p.cond _ (CondAt.grown H.grown rfl _ _ _ hp.cond) (CondAt.grown H.grown rfl _ _ _ hq.cond)) ?_
       rintro e w ⟨rfl, hb⟩
       replace H := H.grow hb; clear hb
       refine ⟨_, rfl, ?_⟩
       clear F a; intro a F
       refine sPk F rfl rfl rfl rfl ?_;clear F a;intro a F
       refine sAs F rfl rfl rfl ?_;clear F a;intro a F
       refine sNil ?_
       refine hK2 _ _ ?_; clear hK2
       refine wp_ret ?_
       refine bRet Tryd.results18 F rfl ?_
       exact ⟨rfl, H.below⟩
      (first | exact absurd rfl h38 | exact absurd h38 (by decide) | (simp at h38; done))
     (first | exact absurd rfl h31 | exact absurd h31 (by decide) | (simp at h31; done))
    (first | exact absurd rfl h24 | exact absurd h24 (by decide) | (simp at h24; done))
   replace h17 := beqF h17
   (first | exact absurd rfl h17 | exact absurd h17 (by decide) | (simp at h17; done))
  replace h10 := beqF h10
  (first | exact absurd rfl h10 | exact absurd h10 (by decide) | (simp at h10; done))
end Go.Proofs.YtmfdpnjgljlkbaaDoor
