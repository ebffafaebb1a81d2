/-
  WALK2. The laws of chapter 14: behind, store. Conditions: the program and the picks lie in memory; block 0 holds the table of needs.
-/
import Derived.Test.YtjephfjnohgcbaaDoorBwB
import Derived.Test.YtjephfjnohgcbaaDoorBfU
set_option linter.unusedSimpArgs false
set_option linter.unusedVariables false
namespace Go.Proofs.YtjephfjnohgcbaaDoor
open Go.RowKit
set_option maxRecDepth 100000

def storeP (p : Prg) (s : By) (t : Nat) : Bool := match nextI p s t with
  | some x => x.op == 2
  | none => false
theorem store14_any (cs : List Value) (p : Prg) (w0 : World) (hP : ProgAt w0 cs p) (s : By) (t : Nat) (ht : t < 4) :
    Calls Tryd.prog 14 #[.agg cs.toArray, .agg (bs 142 s).toArray, .int .i64 (t : Int)] w0 fun e w' => e = .returned (.bool (storeP p s t)) ∧ Below w0.heap.size w0 w' := by
  have H := Own.start w0 none
  obtain ⟨LA, LC, IA, IC, TA, TC, h, ccs, hp⟩ := hP
  obtain ⟨c1, c2, c3, c4, c5, rfl⟩ := len5 (condAt_len hp.cond)
  have hcs := hp.cs
  subst hcs
  refine enterF Tryd.func14 rfl Tryd.ntmps14 rfl (fun a F => ?_)
  refine cSeq (fun K1 hK1 => ?_)
  refine cReg ?_
  refine sBx H F rfl rfl rfl ?_
  clear F a H; intro b3 a w F H
  refine sBxB H F rfl rfl rfl ?_
  clear F a H; intro b4 a w F H
  refine sAs F rfl rfl rfl ?_
  clear F a; intro a F
  refine sNil ?_
  refine hK1 _ _ ?_; clear hK1
  refine cSeq (fun K2 hK2 => ?_)
  refine cRegRO (by kernel_rfl) H ?_
  replace H := H.drew
  refine eTakeF (k := 0) (i := 0) rfl (by kernel_rfl) F rfl rfl rfl (fun w => rMv F rfl) (H.sel [0, 1] rfl rfl) (fun _ _ _ h => h) ?_
  clear F a; intro a F
  refine eTakeF (k := 1) (i := 1) rfl (by kernel_rfl) F rfl rfl rfl (fun w => rFa (f := 3) (k := 3) Tryd.underlying29 rfl Tryd.sizeOf24 rfl rfl F rfl) (H.sel [0, 1] rfl rfl) (fun _ _ _ h => h) ?_
  clear F a; intro a F
  refine eTake (k := 2) (i := 2) rfl (by kernel_rfl) F rfl rfl rfl rfl (fun w H => rLd Tryd.isAgg24 F rfl (H.cell 1 rfl rfl)) (H.sel [0, 1] rfl rfl) (fun _ _ _ h => h) ?_
  clear F a; intro a F
  refine eTake (k := 3) (i := 3) rfl (by kernel_rfl) F rfl rfl rfl rfl (fun w H => rLen Tryd.underlying24 F rfl) (H.sel [0, 1] rfl rfl) (fun _ _ _ h => h) ?_
  clear F a; intro a F
  refine eTakeF (k := 4) (i := 4) rfl (by kernel_rfl) F rfl rfl rfl (fun w => rBin F rfl rfl bLss) (H.sel [0, 1] rfl rfl) (fun _ _ _ h => h) ?_
  clear F a; intro a F
  refine eTakeF (k := 5) (i := 5) rfl (by kernel_rfl) F rfl rfl rfl (fun w => rMv F rfl) (H.sel [0, 1] rfl rfl) (fun _ _ _ h => h) ?_
  clear F a; intro a F
  refine F.split 12 rfl ?_ ?_ <;> (clear F; intro h12 F)
  ·
   replace h12 := of_decide_eq_true h12
   obtain ⟨l, hl⟩ : ∃ l, p.threads[t]? = some l := ⟨_, List.getElem?_eq_getElem (by omega)⟩
   obtain ⟨bT, oT, BT, CT, rfl, hT1, hT2, hT3⟩ := hp.threads t l hl
   refine eTakeF (k := 6) (i := 6) rfl (by kernel_rfl) F rfl rfl rfl (fun w => rMv F rfl) (H.sel [0, 1] rfl rfl) (fun _ _ _ h => h) ?_
   clear F a; intro a F
   refine eTakeF (k := 7) (i := 7) rfl (by kernel_rfl) F rfl rfl rfl (fun w => rFa (f := 0) (k := 0) Tryd.underlying41 rfl Tryd.sizeOf33 rfl rfl F rfl) (H.sel [0, 1] rfl rfl) (fun _ _ _ h => h) ?_
   clear F a; intro a F
   refine eTakeF (k := 8) (i := 8) rfl (by kernel_rfl) F rfl rfl rfl (fun w => rIaZ Tryd.underlying33 Tryd.sizeOf32 F rfl rfl ?_) (H.sel [0, 1] rfl rfl) (fun _ _ _ h => h) ?_
   focus (first | omega | decide | (simp; omega))
   clear F a; intro a F
   refine eTakeF (k := 9) (i := 9) rfl (by kernel_rfl) F rfl rfl rfl (fun w => rFaZ (f := 0) Tryd.underlying32 rfl Tryd.sizeOf5 rfl rfl F rfl) (H.sel [0, 1] rfl rfl) (fun _ _ _ h => h) ?_
   clear F a; intro a F
   refine eTake (k := 10) (i := 10) rfl (by kernel_rfl) F rfl rfl rfl rfl (fun w H => rLd Tryd.isAgg5 F rfl (H.cellB 0 rfl (by omega))) (H.sel [0, 1] rfl rfl) (fun _ _ _ h => h) ?_
   clear F a; intro a F
   refine eTakeF (k := 11) (i := 11) rfl (by kernel_rfl) F rfl rfl rfl (fun w => rCv Tryd.underlying5 Tryd.underlying3 F rfl (wrapB _)) (H.sel [0, 1] rfl rfl) (fun _ _ _ h => h) ?_
   clear F a; intro a F
   refine eTakeF (k := 12) (i := 12) rfl (by kernel_rfl) F rfl rfl rfl (fun w => rFa (f := 3) (k := 3) Tryd.underlying29 rfl Tryd.sizeOf24 rfl rfl F rfl) (H.sel [0, 1] rfl rfl) (fun _ _ _ h => h) ?_
   clear F a; intro a F
   refine eTake (k := 13) (i := 13) rfl (by kernel_rfl) F rfl rfl rfl rfl (fun w H => rLd Tryd.isAgg24 F rfl (H.cell 1 rfl rfl)) (H.sel [0, 1] rfl rfl) (fun _ _ _ h => h) ?_
   clear F a; intro a F
   refine eTakeF (k := 14) (i := 14) rfl (by kernel_rfl) F rfl rfl rfl (fun w => rMv F rfl) (H.sel [0, 1] rfl rfl) (fun _ _ _ h => h) ?_
   clear F a; intro a F
   refine eTakeF (k := 15) (i := 15) rfl (by kernel_rfl) F rfl rfl rfl (fun w => rIx Tryd.underlying24 Tryd.sizeOf59 F rfl rfl ?_) (H.sel [0, 1] rfl rfl) (fun _ _ _ h => h) ?_
   focus (first | omega | decide | (simp; omega))
   clear F a; intro a F
   refine eTake (k := 16) (i := 16) rfl (by kernel_rfl) F rfl rfl rfl rfl (fun w H => rLd Tryd.isAgg59 F rfl (H.arg hT1)) (H.sel [0, 1] rfl rfl) (fun _ _ _ h => h) ?_
   clear F a; intro a F
   refine eTake (k := 17) (i := 17) rfl (by kernel_rfl) F rfl rfl rfl rfl (fun w H => rLen Tryd.underlying59 F rfl) (H.sel [0, 1] rfl rfl) (fun _ _ _ h => h) ?_
   clear F a; intro a F
   refine eTakeF (k := 18) (i := 18) rfl (by kernel_rfl) F rfl rfl rfl (fun w => rBin F rfl rfl bLss) (H.sel [0, 1] rfl rfl) (fun _ _ _ h => h) ?_
   clear F a; intro a F
   refine eTakeF (k := 19) (i := 19) rfl (by kernel_rfl) F rfl rfl rfl (fun w => rPk F rfl rfl) (H.sel [0, 1] rfl rfl) (fun _ _ _ h => h) ?_
   clear F a; intro a F
   refine eTakeF (k := 20) (i := 20) rfl (by kernel_rfl) F rfl rfl rfl (fun w => rMv F rfl) (H.sel [0, 1] rfl rfl) (fun _ _ _ h => h) ?_
   clear F a; intro a F
   refine F.split 27 rfl ?_ ?_ <;> (clear F; intro h27 F)
   ·
    replace h27 := of_decide_eq_true h27
    obtain ⟨x, hx⟩ : ∃ x, l[(s (t * 9)).toNat]? = some x := ⟨_, List.getElem?_eq_getElem (by omega)⟩
    have hpcl : (s (t * 9)).toNat < l.length := by omega
    obtain ⟨bI, oI, rfl, hI⟩ := hT2 (s (t * 9)).toNat x.cells (by rw [List.getElem?_map, hx]; rfl)
    have hno := nextI_at hl hx
    refine eTakeF (k := 21) (i := 21) rfl (by kernel_rfl) F rfl rfl rfl (fun w => rFa (f := 3) (k := 3) Tryd.underlying29 rfl Tryd.sizeOf24 rfl rfl F rfl) (H.sel [0, 1] rfl rfl) (fun _ _ _ h => h) ?_
    clear F a; intro a F
    refine eTake (k := 22) (i := 22) rfl (by kernel_rfl) F rfl rfl rfl rfl (fun w H => rLd Tryd.isAgg24 F rfl (H.cell 1 rfl rfl)) (H.sel [0, 1] rfl rfl) (fun _ _ _ h => h) ?_
    clear F a; intro a F
    refine eTakeF (k := 23) (i := 23) rfl (by kernel_rfl) F rfl rfl rfl (fun w => rMv F rfl) (H.sel [0, 1] rfl rfl) (fun _ _ _ h => h) ?_
    clear F a; intro a F
    refine eTakeF (k := 24) (i := 24) rfl (by kernel_rfl) F rfl rfl rfl (fun w => rIx Tryd.underlying24 Tryd.sizeOf59 F rfl rfl ?_) (H.sel [0, 1] rfl rfl) (fun _ _ _ h => h) ?_
    focus (first | omega | decide | (simp; omega))
    clear F a; intro a F
    refine eTake (k := 25) (i := 25) rfl (by kernel_rfl) F rfl rfl rfl rfl (fun w H => rLd Tryd.isAgg59 F rfl (H.arg hT1)) (H.sel [0, 1] rfl rfl) (fun _ _ _ h => h) ?_
    clear F a; intro a F
    refine eTakeF (k := 26) (i := 26) rfl (by kernel_rfl) F rfl rfl rfl (fun w => rMv F rfl) (H.sel [0, 1] rfl rfl) (fun _ _ _ h => h) ?_
    clear F a; intro a F
    refine eTakeF (k := 27) (i := 27) rfl (by kernel_rfl) F rfl rfl rfl (fun w => rFa (f := 0) (k := 0) Tryd.underlying41 rfl Tryd.sizeOf33 rfl rfl F rfl) (H.sel [0, 1] rfl rfl) (fun _ _ _ h => h) ?_
    clear F a; intro a F
    refine eTakeF (k := 28) (i := 28) rfl (by kernel_rfl) F rfl rfl rfl (fun w => rIaZ Tryd.underlying33 Tryd.sizeOf32 F rfl rfl ?_) (H.sel [0, 1] rfl rfl) (fun _ _ _ h => h) ?_
    focus (first | omega | decide | (simp; omega))
    clear F a; intro a F
    refine eTakeF (k := 29) (i := 29) rfl (by kernel_rfl) F rfl rfl rfl (fun w => rFaZ (f := 0) Tryd.underlying32 rfl Tryd.sizeOf5 rfl rfl F rfl) (H.sel [0, 1] rfl rfl) (fun _ _ _ h => h) ?_
    clear F a; intro a F
    refine eTake (k := 30) (i := 30) rfl (by kernel_rfl) F rfl rfl rfl rfl (fun w H => rLd Tryd.isAgg5 F rfl (H.cellB 0 rfl (by omega))) (H.sel [0, 1] rfl rfl) (fun _ _ _ h => h) ?_
    clear F a; intro a F
    refine eTakeF (k := 31) (i := 31) rfl (by kernel_rfl) F rfl rfl rfl (fun w => rIx Tryd.underlying59 Tryd.sizeOf58 F rfl rfl ?_) (H.sel [0, 1] rfl rfl) (fun _ _ _ h => h) ?_
    focus exact hpcl
    clear F a; intro a F
    refine eTakeF (k := 32) (i := 32) rfl (by kernel_rfl) F rfl rfl rfl (fun w => rFa (f := 0) Tryd.underlying58 rfl Tryd.sizeOf5 rfl rfl F rfl) (H.sel [0, 1] rfl rfl) (fun _ _ _ h => h) ?_
    clear F a; intro a F
    refine eTake (k := 33) (i := 33) rfl (by kernel_rfl) F rfl rfl rfl rfl (fun w H => rLd Tryd.isAgg5 F rfl (H.arg (hI 0 _ rfl))) (H.sel [0, 1] rfl rfl) (fun _ _ _ h => h) ?_
    clear F a; intro a F
    refine eTakeF (k := 34) (i := 34) rfl (by kernel_rfl) F rfl rfl rfl (fun w => rBin F rfl rfl (bEqlB (y := 2))) (H.sel [0, 1] rfl rfl) (fun _ _ _ h => h) ?_
    clear F a; intro a F
    refine eTakeF (k := 35) (i := 35) rfl (by kernel_rfl) F rfl rfl rfl (fun w => rPk F rfl rfl) (H.sel [0, 1] rfl rfl) (fun _ _ _ h => h) ?_
    clear F a; intro a F
    refine eTakeF (k := 36) (i := 36) rfl (by kernel_rfl) F rfl rfl rfl (fun w => rAs F rfl) (H.sel [0, 1] rfl rfl) (fun _ _ _ h => h) ?_
    clear F a; intro a F
    refine eNil (k := 37) (by kernel_rfl) ?_
    refine hK2 _ _ ?_; clear hK2
    refine wp_ret ?_
    refine bRet Tryd.results14 F rfl ?_
    exact ⟨by rw [storeP, hno], H.below⟩
   ·
    replace h27 := of_decide_eq_false h27
    have hno := nextI_none (s := s) hl (by omega)
    refine eSkip (k := 21) (i := 21) rfl (by kernel_rfl) F rfl rfl rfl (H.sel [0, 1] rfl rfl) (fun _ _ _ h => h) ?_
    clear F a; intro a F
    refine eSkip (k := 22) (i := 22) rfl (by kernel_rfl) F rfl rfl rfl (H.sel [0, 1] rfl rfl) (fun _ _ _ h => h) ?_
    clear F a; intro a F
    refine eSkip (k := 23) (i := 23) rfl (by kernel_rfl) F rfl rfl rfl (H.sel [0, 1] rfl rfl) (fun _ _ _ h => h) ?_
    clear F a; intro a F
    refine eSkip (k := 24) (i := 24) rfl (by kernel_rfl) F rfl rfl rfl (H.sel [0, 1] rfl rfl) (fun _ _ _ h => h) ?_
    clear F a; intro a F
    refine eSkip (k := 25) (i := 25) rfl (by kernel_rfl) F rfl rfl rfl (H.sel [0, 1] rfl rfl) (fun _ _ _ h => h) ?_
    clear F a; intro a F
    refine eSkip (k := 26) (i := 26) rfl (by kernel_rfl) F rfl rfl rfl (H.sel [0, 1] rfl rfl) (fun _ _ _ h => h) ?_
    clear F a; intro a F
    refine eSkip (k := 27) (i := 27) rfl (by kernel_rfl) F rfl rfl rfl (H.sel [0, 1] rfl rfl) (fun _ _ _ h => h) ?_
    clear F a; intro a F
    refine eSkip (k := 28) (i := 28) rfl (by kernel_rfl) F rfl rfl rfl (H.sel [0, 1] rfl rfl) (fun _ _ _ h => h) ?_
    clear F a; intro a F
    refine eSkip (k := 29) (i := 29) rfl (by kernel_rfl) F rfl rfl rfl (H.sel [0, 1] rfl rfl) (fun _ _ _ h => h) ?_
    clear F a; intro a F
    refine eSkip (k := 30) (i := 30) rfl (by kernel_rfl) F rfl rfl rfl (H.sel [0, 1] rfl rfl) (fun _ _ _ h => h) ?_
    clear F a; intro a F
    refine eSkip (k := 31) (i := 31) rfl (by kernel_rfl) F rfl rfl rfl (H.sel [0, 1] rfl rfl) (fun _ _ _ h => h) ?_
    clear F a; intro a F
    refine eSkip (k := 32) (i := 32) rfl (by kernel_rfl) F rfl rfl rfl (H.sel [0, 1] rfl rfl) (fun _ _ _ h => h) ?_
    clear F a; intro a F
    refine eSkip (k := 33) (i := 33) rfl (by kernel_rfl) F rfl rfl rfl (H.sel [0, 1] rfl rfl) (fun _ _ _ h => h) ?_
    clear F a; intro a F
    refine eSkip (k := 34) (i := 34) rfl (by kernel_rfl) F rfl rfl rfl (H.sel [0, 1] rfl rfl) (fun _ _ _ h => h) ?_
    clear F a; intro a F
    refine eTakeF (k := 35) (i := 35) rfl (by kernel_rfl) F rfl rfl rfl (fun w => rPk F rfl rfl) (H.sel [0, 1] rfl rfl) (fun _ _ _ h => h) ?_
    clear F a; intro a F
    refine eTakeF (k := 36) (i := 36) rfl (by kernel_rfl) F rfl rfl rfl (fun w => rAs F rfl) (H.sel [0, 1] rfl rfl) (fun _ _ _ h => h) ?_
    clear F a; intro a F
    refine eNil (k := 37) (by kernel_rfl) ?_
    refine hK2 _ _ ?_; clear hK2
    refine wp_ret ?_
    refine bRet Tryd.results14 F rfl ?_
    exact ⟨by rw [storeP, hno], H.below⟩
  ·
   replace h12 := of_decide_eq_false h12
   have hno : nextI p s t = none := by unfold nextI; rw [List.getElem?_eq_none (show p.threads.length ≤ t by omega)]
   refine eSkip (k := 6) (i := 6) rfl (by kernel_rfl) F rfl rfl rfl (H.sel [0, 1] rfl rfl) (fun _ _ _ h => h) ?_
   clear F a; intro a F
   refine eSkip (k := 7) (i := 7) rfl (by kernel_rfl) F rfl rfl rfl (H.sel [0, 1] rfl rfl) (fun _ _ _ h => h) ?_
   clear F a; intro a F
   refine eSkip (k := 8) (i := 8) rfl (by kernel_rfl) F rfl rfl rfl (H.sel [0, 1] rfl rfl) (fun _ _ _ h => h) ?_
   clear F a; intro a F
   refine eSkip (k := 9) (i := 9) rfl (by kernel_rfl) F rfl rfl rfl (H.sel [0, 1] rfl rfl) (fun _ _ _ h => h) ?_
   clear F a; intro a F
   refine eSkip (k := 10) (i := 10) rfl (by kernel_rfl) F rfl rfl rfl (H.sel [0, 1] rfl rfl) (fun _ _ _ h => h) ?_
   clear F a; intro a F
   refine eSkip (k := 11) (i := 11) rfl (by kernel_rfl) F rfl rfl rfl (H.sel [0, 1] rfl rfl) (fun _ _ _ h => h) ?_
   clear F a; intro a F
   refine eSkip (k := 12) (i := 12) rfl (by kernel_rfl) F rfl rfl rfl (H.sel [0, 1] rfl rfl) (fun _ _ _ h => h) ?_
   clear F a; intro a F
   refine eSkip (k := 13) (i := 13) rfl (by kernel_rfl) F rfl rfl rfl (H.sel [0, 1] rfl rfl) (fun _ _ _ h => h) ?_
   clear F a; intro a F
   refine eSkip (k := 14) (i := 14) rfl (by kernel_rfl) F rfl rfl rfl (H.sel [0, 1] rfl rfl) (fun _ _ _ h => h) ?_
   clear F a; intro a F
   refine eSkip (k := 15) (i := 15) rfl (by kernel_rfl) F rfl rfl rfl (H.sel [0, 1] rfl rfl) (fun _ _ _ h => h) ?_
   clear F a; intro a F
   refine eSkip (k := 16) (i := 16) rfl (by kernel_rfl) F rfl rfl rfl (H.sel [0, 1] rfl rfl) (fun _ _ _ h => h) ?_
   clear F a; intro a F
   refine eSkip (k := 17) (i := 17) rfl (by kernel_rfl) F rfl rfl rfl (H.sel [0, 1] rfl rfl) (fun _ _ _ h => h) ?_
   clear F a; intro a F
   refine eSkip (k := 18) (i := 18) rfl (by kernel_rfl) F rfl rfl rfl (H.sel [0, 1] rfl rfl) (fun _ _ _ h => h) ?_
   clear F a; intro a F
   refine eTakeF (k := 19) (i := 19) rfl (by kernel_rfl) F rfl rfl rfl (fun w => rPk F rfl rfl) (H.sel [0, 1] rfl rfl) (fun _ _ _ h => h) ?_
   clear F a; intro a F
   refine eTakeF (k := 20) (i := 20) rfl (by kernel_rfl) F rfl rfl rfl (fun w => rMv F rfl) (H.sel [0, 1] rfl rfl) (fun _ _ _ h => h) ?_
   clear F a; intro a F
   refine eSkip (k := 21) (i := 21) rfl (by kernel_rfl) F rfl rfl rfl (H.sel [0, 1] rfl rfl) (fun _ _ _ h => h) ?_
   clear F a; intro a F
   refine eSkip (k := 22) (i := 22) rfl (by kernel_rfl) F rfl rfl rfl (H.sel [0, 1] rfl rfl) (fun _ _ _ h => h) ?_
   clear F a; intro a F
   refine eSkip (k := 23) (i := 23) rfl (by kernel_rfl) F rfl rfl rfl (H.sel [0, 1] rfl rfl) (fun _ _ _ h => h) ?_
   clear F a; intro a F
   refine eSkip (k := 24) (i := 24) rfl (by kernel_rfl) F rfl rfl rfl (H.sel [0, 1] rfl rfl) (fun _ _ _ h => h) ?_
   clear F a; intro a F
   refine eSkip (k := 25) (i := 25) rfl (by kernel_rfl) F rfl rfl rfl (H.sel [0, 1] rfl rfl) (fun _ _ _ h => h) ?_
   clear F a; intro a F
   refine eSkip (k := 26) (i := 26) rfl (by kernel_rfl) F rfl rfl rfl (H.sel [0, 1] rfl rfl) (fun _ _ _ h => h) ?_
   clear F a; intro a F
   refine eSkip (k := 27) (i := 27) rfl (by kernel_rfl) F rfl rfl rfl (H.sel [0, 1] rfl rfl) (fun _ _ _ h => h) ?_
   clear F a; intro a F
   refine eSkip (k := 28) (i := 28) rfl (by kernel_rfl) F rfl rfl rfl (H.sel [0, 1] rfl rfl) (fun _ _ _ h => h) ?_
   clear F a; intro a F
   refine eSkip (k := 29) (i := 29) rfl (by kernel_rfl) F rfl rfl rfl (H.sel [0, 1] rfl rfl) (fun _ _ _ h => h) ?_
   clear F a; intro a F
   refine eSkip (k := 30) (i := 30) rfl (by kernel_rfl) F rfl rfl rfl (H.sel [0, 1] rfl rfl) (fun _ _ _ h => h) ?_
   clear F a; intro a F
   refine eSkip (k := 31) (i := 31) rfl (by kernel_rfl) F rfl rfl rfl (H.sel [0, 1] rfl rfl) (fun _ _ _ h => h) ?_
   clear F a; intro a F
   refine eSkip (k := 32) (i := 32) rfl (by kernel_rfl) F rfl rfl rfl (H.sel [0, 1] rfl rfl) (fun _ _ _ h => h) ?_
   clear F a; intro a F
   refine eSkip (k := 33) (i := 33) rfl (by kernel_rfl) F rfl rfl rfl (H.sel [0, 1] rfl rfl) (fun _ _ _ h => h) ?_
   clear F a; intro a F
   refine eSkip (k := 34) (i := 34) rfl (by kernel_rfl) F rfl rfl rfl (H.sel [0, 1] rfl rfl) (fun _ _ _ h => h) ?_
   clear F a; intro a F
   refine eTakeF (k := 35) (i := 35) rfl (by kernel_rfl) F rfl rfl rfl (fun w => rPk F rfl rfl) (H.sel [0, 1] rfl rfl) (fun _ _ _ h => h) ?_
   clear F a; intro a F
   refine eTakeF (k := 36) (i := 36) rfl (by kernel_rfl) F rfl rfl rfl (fun w => rAs F rfl) (H.sel [0, 1] rfl rfl) (fun _ _ _ h => h) ?_
   clear F a; intro a F
   refine eNil (k := 37) (by kernel_rfl) ?_
   refine hK2 _ _ ?_; clear hK2
   refine wp_ret ?_
   refine bRet Tryd.results14 F rfl ?_
   exact ⟨by rw [storeP, hno], H.below⟩
theorem behind14_any (cs : List Value) (p : Prg) (w0 : World) (hP : ProgAt w0 cs p) (hN : NeedsAt w0) (mc : UInt8) (hm : knownM mc = true) (PA : Option Addr) (PC : Nat) (picks : List UInt8) (hB : BytesAt w0 PA picks) (hBn : picks.length ≤ 9223372036854775807) (hBc : picks.length ≤ PC) :
    Calls Tryd.prog 9 #[.agg cs.toArray, Go.Proofs.YtjephfjnohgcbaaDoor.b8 mc, .slice PA picks.length PC] w0 fun e w' => ∃ s : By, e = .returned (.tuple #[.agg (bs 142 s).toArray, .bool (startE p == 0)]) ∧ (rightErr p = 0 → RightM p mc s) ∧ Below w0.heap.size w0 w' := by
  have H := Own.start w0 none
  obtain ⟨d1, d2, d3, d4, d5, d6, d7, d8, d9, d10, rfl⟩ := hP.len10
  refine enterF Tryd.func9 rfl Tryd.ntmps9 rfl (fun a F => ?_)
  refine cSeq (fun K1 hK1 => ?_)
  refine cReg ?_
  refine sBx H F rfl rfl rfl ?_
  clear F a H; intro b3 a w F H
  refine sAlB H zB41 F rfl rfl ?_
  clear F a H; intro b6 a w F H
  refine sAs F rfl rfl rfl ?_
  clear F a; intro a F
  refine sNil ?_
  refine hK1 _ _ ?_; clear hK1
  refine cSeq (fun K2 hK2 => ?_)
  refine cReg ?_
  refine sLr Tryd.underlying29 rfl ?si F rfl rfl rfl (H.whole 1 rfl) ?_
  case si => exact info_size Tryd.sizeOf29
  clear F a; intro a F
  refine sCall Tryd.call18 F rfl rfl rfl (start_any _ p _ (hP.own H) (hN.own H)) ?_
  rintro e w ⟨rfl, hb⟩
  replace H := H.grow hb; clear hb
  refine ⟨_, rfl, ?_⟩
  clear F a; intro a F
  refine sMv F rfl rfl rfl ?_
  clear F a; intro a F
  refine sExt F rfl rfl rfl rfl ?_
  clear F a; intro a F
  refine sExt F rfl rfl rfl rfl ?_
  clear F a; intro a F
  refine sAlB H zB41 F rfl rfl ?_
  clear F a H; intro b8 a w F H
  refine sSrB H 0 Tryd.sizeOf41 F rfl rfl rfl rfl (by omega) ?_
  clear H; intro w H
  rw [lay_all] at H
  refine sAs F rfl rfl rfl ?_
  clear F a; intro a F
  refine sNil ?_
  refine hK2 _ _ ?_; clear hK2
  refine cSeq (fun K3 hK3 => ?_)
  refine cSeq (fun K4 hK4 => ?_)
  refine cReg ?_
  refine sMv F rfl rfl rfl ?_
  clear F a; intro a F
  refine sMv F rfl rfl rfl ?_
  clear F a; intro a F
  refine sLen Tryd.underlying23 F rfl rfl rfl ?_
  clear F a; intro a F
  refine sMinN (j := 60) F rfl rfl rfl rfl ?_
  clear F a; intro a F
  refine sSlH Tryd.underlying23 (fun w => ⟨_, Tryd.sizeOf5 w⟩) F rfl rfl rfl rfl ?_ ?_
  focus (first | omega | decide | (simp; omega))
  clear F a; intro a F
  refine sLen Tryd.underlying23 F rfl rfl rfl ?_
  clear F a; intro a F
  refine sMv F rfl rfl rfl ?_
  clear F a; intro a F
  refine sNil ?_
  refine hK4 _ _ ?_; clear hK4
  refine wp_block ?_
  refine cLoopR [1, 3, 6, 8, 22, 23] (fun m ups w => ∃ (j : Nat) (s : By), m = min picks.length 60 - j ∧ ups = [(9, .int .i64 (startE p)), (24, .int .i64 ((j : Nat) : Int))] ∧ j ≤ min picks.length 60 ∧ (rightErr p = 0 → RightM p mc s) ∧ Own w0 none w [.blk b8 (bs 142 s) 41, .blk b6 (bs 142 zb) 41, .blk b3 [d1, d2, d3, d4, d5, d6, d7, d8, d9, d10] 29]) F (min picks.length 60) [(9, .int .i64 (startE p)), (24, .int .i64 ((0 : Nat) : Int))] (by repeat (first | exact SubR.nil | (apply SubR.cons; · rfl))) ?_ ?_ ?_
  · exact ⟨0, startS p, rfl, rfl, by omega, fun h => by rw [startS, if_pos h]; exact (start_rightM h hm).1, H.sel [0, 1, 2] rfl rfl⟩
  · repeat (first | exact trivial | refine Le.cons rfl ?_)
  clear F
  clear H
  intro m ups a w hI F
  obtain ⟨j, s, rfl, rfl, hj, hok, H⟩ := hI
  refine cSeq (fun K5 hK5 => ?_)
  refine cReg ?_
  refine sBin F rfl rfl rfl rfl bLss ?_
  clear F a; intro a F
  refine sNil ?_
  refine hK5 _ _ ?_; clear hK5
  refine cSeq (fun K6 hK6 => ?_)
  refine cIf F rfl (fun h25 => ?_) (fun h25 => ?_)
  ·
   replace h25 := of_decide_eq_true h25
   obtain ⟨x, hx⟩ : ∃ x, picks[j]? = some x := ⟨_, List.getElem?_eq_getElem (by omega)⟩
   obtain ⟨bP, oP, rfl, hPx⟩ := hB.get hx
   refine wp_skip ?_
   refine hK6 _ _ ?_; clear hK6
   refine cSeq (fun K7 hK7 => ?_)
   refine wp_block ?_
   refine cSeq (fun K8 hK8 => ?_)
   refine cReg ?_
   refine sIx Tryd.underlying23 Tryd.sizeOf5 F rfl rfl rfl rfl ?_ ?_
   focus (first | omega | decide | (simp; omega))
   clear F a; intro a F
   refine sLd Tryd.isAgg5 F rfl rfl rfl (H.arg hPx) ?_
   clear F a; intro a F
   refine sAs F rfl rfl rfl ?_
   clear F a; intro a F
   refine sNil ?_
   refine hK8 _ _ ?_; clear hK8
   refine cSeq (fun K9 hK9 => ?_)
   refine cReg ?_
   refine sLr Tryd.underlying29 rfl ?si F rfl rfl rfl (H.whole 2 rfl) ?_
   case si => exact info_size Tryd.sizeOf29
   clear F a; intro a F
   refine sMv F rfl rfl rfl ?_
   clear F a; intro a F
   refine sLrB Tryd.underlying41 rfl Tryd.sizeOf41 F rfl rfl rfl (H.whole 0 rfl) ?_
   clear F a; intro a F
   refine sCall Tryd.call10 F rfl rfl rfl (movesR_any _ p _ (hP.own H) (hN.own H) mc s) ?_
   rintro e w ⟨A, c, rfl, H2⟩
   replace H := H.join H2; clear H2
   refine ⟨_, rfl, ?_⟩
   clear F a; intro a F
   refine sAs F rfl rfl rfl ?_
   clear F a; intro a F
   refine sNil ?_
   refine hK9 _ _ ?_; clear hK9
   refine cSeq (fun K10 hK10 => ?_)
   refine cSeq (fun K11 hK11 => ?_)
   refine cReg ?_
   refine sMv F rfl rfl rfl ?_
   clear F a; intro a F
   refine sBin F rfl rfl rfl rfl bNeq ?_
   clear F a; intro a F
   refine sMv F rfl rfl rfl ?_
   clear F a; intro a F
   refine F.split 34 rfl ?_ ?_ <;> (clear F; intro h34 F)
   ·
    replace h34 := bneT h34
    refine sSk F rfl rfl ?_
    clear F a; intro a F
    refine sSk F rfl rfl ?_
    clear F a; intro a F
    refine sSk F rfl rfl ?_
    clear F a; intro a F
    refine sPk F rfl rfl rfl rfl ?_
    clear F a; intro a F
    refine sNil ?_
    refine hK11 _ _ ?_; clear hK11
    refine cIfT F rfl ?_
    refine wp_exit ?_
    refine hK3 _ _ ?_; clear hK3
    refine cSeq (fun K12 hK12 => ?_)
    refine cReg ?_
    refine sLrB Tryd.underlying41 rfl Tryd.sizeOf41 F rfl rfl rfl (H.whole 1 rfl) ?_
    clear F a; intro a F
    refine sMv F rfl rfl rfl ?_
    clear F a; intro a F
    refine sBin F rfl rfl rfl rfl bEql ?_
    clear F a; intro a F
    refine sSrB H 2 Tryd.sizeOf41 F rfl rfl rfl rfl (by omega) ?_
    clear H; intro w H
    rw [lay_all] at H
    refine sAs F rfl rfl rfl ?_
    clear F a; intro a F
    refine sNil ?_
    refine hK12 _ _ ?_; clear hK12
    refine wp_ret ?_
    refine bRetB1 Tryd.results9 F rfl rfl Tryd.underlying41 rfl Tryd.sizeOf41 H 2 rfl ?_
    exact ⟨s, rfl, hok, H.below⟩
   ·
    replace h34 := bneF h34
    refine sMv F rfl rfl rfl ?_
    clear F a; intro a F
    refine sLen Tryd.underlying44 F rfl rfl rfl ?_
    clear F a; intro a F
    refine sBin F rfl rfl rfl rfl bEql ?_
    clear F a; intro a F
    refine sPk F rfl rfl rfl rfl ?_
    clear F a; intro a F
    refine sNil ?_
    refine hK11 _ _ ?_; clear hK11
    refine cIf F rfl (fun h38 => ?_) (fun h38 => ?_)
    ·
     replace h38 := beqT h38
     refine wp_exit ?_
     refine hK3 _ _ ?_; clear hK3
     refine cSeq (fun K13 hK13 => ?_)
     refine cReg ?_
     refine sLrB Tryd.underlying41 rfl Tryd.sizeOf41 F rfl rfl rfl (H.whole 1 rfl) ?_
     clear F a; intro a F
     refine sMv F rfl rfl rfl ?_
     clear F a; intro a F
     refine sBin F rfl rfl rfl rfl bEql ?_
     clear F a; intro a F
     refine sSrB H 2 Tryd.sizeOf41 F rfl rfl rfl rfl (by omega) ?_
     clear H; intro w H
     rw [lay_all] at H
     refine sAs F rfl rfl rfl ?_
     clear F a; intro a F
     refine sNil ?_
     refine hK13 _ _ ?_; clear hK13
     refine wp_ret ?_
     refine bRetB1 Tryd.results9 F rfl rfl Tryd.underlying41 rfl Tryd.sizeOf41 H 2 rfl ?_
     exact ⟨s, rfl, hok, H.below⟩
    ·
     replace h38 := beqF h38
     have hpos : 0 < (movesR p mc s).length := by omega
     have hq : x.toNat % (movesR p mc s).length < (movesR p mc s).length := Nat.mod_lt _ hpos
     obtain ⟨k, hk⟩ : ∃ k, (movesR p mc s)[x.toNat % (movesR p mc s).length]? = some k := ⟨_, List.getElem?_eq_getElem hq⟩
     obtain ⟨bL, oL, rfl, _⟩ := H.rowsAt 0 rfl (rowX _) (by decide) _ _ (by rw [List.getElem?_map, hk]; rfl)
     have hmem : k ∈ movesR p mc s := List.mem_of_getElem? hk
     obtain ⟨hr, hmm⟩ := mem_movesR hmem
     have eS : moveSM p mc s k = stepM p mc s k := if_pos hmem
     have eE : moveEM p mc s k = startE p := (if_pos hmem).trans (if_pos hr.prog).symm
     refine wp_skip ?_
     refine hK10 _ _ ?_; clear hK10
     refine cRegRO (by kernel_rfl) H ?_
     replace H := H.drew
     refine eTake (k := 0) (i := 0) rfl (by kernel_rfl) F rfl rfl rfl rfl (fun w H => rLr Tryd.underlying29 rfl ?si F rfl (H.whole 3 rfl)) (H.sel [0, 1, 2, 3] rfl rfl) (fun _ _ _ h => h) ?_
     case si => exact info_size Tryd.sizeOf29
     clear F a; intro a F
     refine eTakeF (k := 1) (i := 1) rfl (by kernel_rfl) F rfl rfl rfl (fun w => rMv F rfl) (H.sel [0, 1, 2, 3] rfl rfl) (fun _ _ _ h => h) ?_
     clear F a; intro a F
     refine eTake (k := 2) (i := 2) rfl (by kernel_rfl) F rfl rfl rfl rfl (fun w H => rLrB Tryd.underlying41 rfl Tryd.sizeOf41 F rfl (H.whole 1 rfl)) (H.sel [0, 1, 2, 3] rfl rfl) (fun _ _ _ h => h) ?_
     clear F a; intro a F
     refine eTakeF (k := 3) (i := 3) rfl (by kernel_rfl) F rfl rfl rfl (fun w => rMv F rfl) (H.sel [0, 1, 2, 3] rfl rfl) (fun _ _ _ h => h) ?_
     clear F a; intro a F
     refine eTakeF (k := 4) (i := 4) rfl (by kernel_rfl) F rfl rfl rfl (fun w => rMv F rfl) (H.sel [0, 1, 2, 3] rfl rfl) (fun _ _ _ h => h) ?_
     clear F a; intro a F
     refine eTakeF (k := 5) (i := 5) rfl (by kernel_rfl) F rfl rfl rfl (fun w => rCv Tryd.underlying5 Tryd.underlying3 F rfl (wrapB _)) (H.sel [0, 1, 2, 3] rfl rfl) (fun _ _ _ h => h) ?_
     clear F a; intro a F
     refine eTakeF (k := 6) (i := 6) rfl (by kernel_rfl) F rfl rfl rfl (fun w => rMv F rfl) (H.sel [0, 1, 2, 3] rfl rfl) (fun _ _ _ h => h) ?_
     clear F a; intro a F
     refine eTake (k := 7) (i := 7) rfl (by kernel_rfl) F rfl rfl rfl rfl (fun w H => rLen Tryd.underlying44 F rfl) (H.sel [0, 1, 2, 3] rfl rfl) (fun _ _ _ h => h) ?_
     clear F a; intro a F
     refine eTakeF (k := 8) (i := 8) rfl (by kernel_rfl) F rfl rfl rfl (fun w => rBin F rfl rfl (bRemN ?_)) (H.sel [0, 1, 2, 3] rfl rfl) (fun _ _ _ h => h) ?_
     focus omega
     clear F a; intro a F
     refine eTakeF (k := 9) (i := 9) rfl (by kernel_rfl) F rfl rfl rfl (fun w => rIx Tryd.underlying44 Tryd.sizeOf50 F rfl rfl ?_) (H.sel [0, 1, 2, 3] rfl rfl) (fun _ _ _ h => h) ?_
     focus exact hq
     clear F a; intro a F
     refine eTake (k := 10) (i := 10) rfl (by kernel_rfl) F rfl rfl rfl rfl (fun w H => rLr Tryd.underlying50 rfl ?si F rfl (by obtain ⟨b', o', h1, h2⟩ := H.rowsAt 0 rfl (rowX _) (by decide) _ _ (by rw [List.getElem?_map, hk]; rfl); cases h1; exact h2)) (H.sel [0, 1, 2, 3] rfl rfl) (fun _ _ _ h => h) ?_
     case si => exact info_size Tryd.sizeOf50
     clear F a; intro a F
     refine eOne (k := 11) (i := 11) rfl (by kernel_rfl) F rfl (oCall Tryd.call13 F rfl rfl (moveM_any _ p _ (hP.own H) (hN.own H) mc s k) ?_)
     rintro e w ⟨rfl, hb⟩
     replace H := H.grow hb; clear hb
     refine ⟨_, rfl, ?_⟩
     clear F a; intro a F
     refine ePartO (by kernel_rfl) H ?_
     refine eTakeF (k := 12) (i := 12) rfl (by kernel_rfl) F rfl rfl rfl (fun w => rMv F rfl) (H.sel [0, 1, 2, 3] rfl rfl) (fun _ _ _ h => h) ?_
     clear F a; intro a F
     refine eTakeF (k := 13) (i := 13) rfl (by kernel_rfl) F rfl rfl rfl (fun w => rExt F rfl rfl) (H.sel [0, 1, 2, 3] rfl rfl) (fun _ _ _ h => h) ?_
     clear F a; intro a F
     refine eTakeF (k := 14) (i := 14) rfl (by kernel_rfl) F rfl rfl rfl (fun w => rExt F rfl rfl) (H.sel [0, 1, 2, 3] rfl rfl) (fun _ _ _ h => h) ?_
     clear F a; intro a F
     refine eOne (k := 15) (i := 15) rfl (by kernel_rfl) F rfl (oSrB H 1 Tryd.sizeOf41 F rfl rfl rfl (by omega) ?_)
     clear H; intro w H
     rw [lay_all] at H
     refine ePartO (by kernel_rfl) H ?_
     refine eTakeF (k := 16) (i := 16) rfl (by kernel_rfl) F rfl rfl rfl (fun w => rAs F rfl) (H.sel [0, 1, 2, 3] rfl rfl) (fun _ _ _ h => h) ?_
     clear F a; intro a F
     refine eNil (k := 17) (by kernel_rfl) ?_
     refine hK7 _ _ ?_; clear hK7
     refine cReg ?_
     refine sBin F rfl rfl rfl rfl (bAddN (j := 1) ?_) ?_
     focus omega
     clear F a; intro a F
     refine sMv F rfl rfl rfl ?_
     clear F a; intro a F
     refine sNil ?_
     (rw [eE] at F
      rw [eS] at H
      exact ⟨_, by omega, _, ⟨j + 1, stepM p mc s k, rfl, rfl, by omega, fun _ => (went hr hmm).right, H.sel [1, 2, 3] rfl rfl⟩, F.to (by repeat (first | exact trivial | refine Le.cons rfl ?_))⟩)
  ·
   replace h25 := of_decide_eq_false h25
   refine wp_exit ?_
   refine hK3 _ _ ?_; clear hK3
   refine cSeq (fun K14 hK14 => ?_)
   refine cReg ?_
   refine sLrB Tryd.underlying41 rfl Tryd.sizeOf41 F rfl rfl rfl (H.whole 0 rfl) ?_
   clear F a; intro a F
   refine sMv F rfl rfl rfl ?_
   clear F a; intro a F
   refine sBin F rfl rfl rfl rfl bEql ?_
   clear F a; intro a F
   refine sSrB H 1 Tryd.sizeOf41 F rfl rfl rfl rfl (by omega) ?_
   clear H; intro w H
   rw [lay_all] at H
   refine sAs F rfl rfl rfl ?_
   clear F a; intro a F
   refine sNil ?_
   refine hK14 _ _ ?_; clear hK14
   refine wp_ret ?_
   refine bRetB1 Tryd.results9 F rfl rfl Tryd.underlying41 rfl Tryd.sizeOf41 H 1 rfl ?_
   exact ⟨s, rfl, hok, H.below⟩
end Go.Proofs.YtjephfjnohgcbaaDoor
