/-
  WALK2. The laws of chapter 14: behind, store. Conditions: the program and the picks lie in memory; block 0 holds the table of needs.
-/
import Derived.Test.YtjephfjnohgcbaaDoorBwB
import Derived.Test.YtjephfjnohgcbaaDoorBfU
set_option linter.unusedSimpArgs false
set_option linter.unusedVariables false
namespace Go.Proofs.YtjephfjnohgcbaaDoor
open Go.RowKit
set_option maxRecDepth 100000

def storeP (p : Prg) (s : By) (t : Nat) : Bool := match nextI p s t with
  | some x => x.op == 2
  | none => false
theorem store14_any (cs : List Value) (p : Prg) (w0 : World) (hP : ProgAt w0 cs p) (s : By) (t : Nat) (ht : t < 4) :
    Calls Tryd.prog 14 #[.agg cs.toArray, .agg (bs 142 s).toArray, .int .i64 (t : Int)] w0 fun e w' => e = .returned (.bool (storeP p s t)) ∧ Below w0.heap.size w0 w' := by
  have H := Own.start w0 none
  obtain ⟨LA, LC, IA, IC, TA, TC, h, ccs, hp⟩ := hP
  obtain ⟨c1, c2, c3, c4, c5, rfl⟩ := len5 (condAt_len hp.cond)
  have hcs := hp.cs
  subst hcs
  refine enterF Tryd.func14 rfl Tryd.ntmps14 rfl (fun a F => ?_)
  refine cSeq (fun K1 hK1 => ?_)
  refine cReg ?_
  refine sBx H F rfl rfl rfl ?_
  clear F a H; intro b3 a w F H
  refine sBxB H F rfl rfl rfl ?_
  clear F a H; intro b4 a w F H
  refine sAs F rfl rfl rfl ?_;clear F a;intro a F
  refine sNil ?_
  refine hK1 _ _ ?_; clear hK1
  refine cSeq (fun K2 hK2 => ?_)
  refine cRegRO (by kernel_rfl) H ?_
  replace H := H.drew
  refine eTakeF (k := 0) (i := 0) rfl (by kernel_rfl) F rfl rfl rfl (fun w => rMv F rfl) (H.sel [0, 1] rfl rfl) (fun _ _ _ h => h) ?_;clear F a;intro a F
  refine eTakeF (k := 1) (i := 1) rfl (by kernel_rfl) F rfl rfl rfl (fun w => rFa (f := 3) (k := 3) Tryd.underlying29 rfl Tryd.sizeOf24 rfl rfl F rfl) (H.sel [0, 1] rfl rfl) (fun _ _ _ h => h) ?_;clear F a;intro a F
  refine eTake (k := 2) (i := 2) rfl (by kernel_rfl) F rfl rfl rfl rfl (fun w H => rLd Tryd.isAgg24 F rfl (H.cell 1 rfl rfl)) (H.sel [0, 1] rfl rfl) (fun _ _ _ h => h) ?_;clear F a;intro a F
  refine eTake (k := 3) (i := 3) rfl (by kernel_rfl) F rfl rfl rfl rfl (fun w H => rLen Tryd.underlying24 F rfl) (H.sel [0, 1] rfl rfl) (fun _ _ _ h => h) ?_;clear F a;intro a F
  refine eTakeF (k := 4) (i := 4) rfl (by kernel_rfl) F rfl rfl rfl (fun w => rBin F rfl rfl bLss) (H.sel [0, 1] rfl rfl) (fun _ _ _ h => h) ?_;clear F a;intro a F
  refine eTakeF (k := 5) (i := 5) rfl (by kernel_rfl) F rfl rfl rfl (fun w => rMv F rfl) (H.sel [0, 1] rfl rfl) (fun _ _ _ h => h) ?_;clear F a;intro a F
  refine F.split 12 rfl ?_ ?_ <;> (clear F; intro h12 F)
  ·
   replace h12 := of_decide_eq_true h12
   obtain ⟨l, hl⟩ : ∃ l, p.threads[t]? = some l := ⟨_, List.getElem?_eq_getElem (by omega)⟩
   obtain ⟨bT, oT, BT, CT, rfl, hT1, hT2, hT3⟩ := hp.threads t l hl
   refine eTakeF (k := 6) (i := 6) rfl (by kernel_rfl) F rfl rfl rfl (fun w => rMv F rfl) (H.sel [0, 1] rfl rfl) (fun _ _ _ h => h) ?_;clear F a;intro a F
   refine eTakeF (k := 7) (i := 7) rfl (by kernel_rfl) F rfl rfl rfl (fun w => rFa (f := 0) (k := 0) Tryd.underlying41 rfl Tryd.sizeOf33 rfl rfl F rfl) (H.sel [0, 1] rfl rfl) (fun _ _ _ h => h) ?_;clear F a;intro a F
   refine eTakeF (k := 8) (i := 8) rfl (by kernel_rfl) F rfl rfl rfl (fun w => rIaZ Tryd.underlying33 Tryd.sizeOf32 F rfl rfl ?_) (H.sel [0, 1] rfl rfl) (fun _ _ _ h => h) ?_
   focus (first | omega | decide | (simp; omega))
   clear F a; intro a F
   refine eTakeF (k := 9) (i := 9) rfl (by kernel_rfl) F rfl rfl rfl (fun w => rFaZ (f := 0) Tryd.underlying32 rfl Tryd.sizeOf5 rfl rfl F rfl) (H.sel [0, 1] rfl rfl) (fun _ _ _ h => h) ?_;clear F a;intro a F
   refine eTake (k := 10) (i := 10) rfl (by kernel_rfl) F rfl rfl rfl rfl (fun w H => rLd Tryd.isAgg5 F rfl (H.cellB 0 rfl (by omega))) (H.sel [0, 1] rfl rfl) (fun _ _ _ h => h) ?_;clear F a;intro a F
   refine eTakeF (k := 11) (i := 11) rfl (by kernel_rfl) F rfl rfl rfl (fun w => rCv Tryd.underlying5 Tryd.underlying3 F rfl (wrapB _)) (H.sel [0, 1] rfl rfl) (fun _ _ _ h => h) ?_;clear F a;intro a F
   refine eTakeF (k := 12) (i := 12) rfl (by kernel_rfl) F rfl rfl rfl (fun w => rFa (f := 3) (k := 3) Tryd.underlying29 rfl Tryd.sizeOf24 rfl rfl F rfl) (H.sel [0, 1] rfl rfl) (fun _ _ _ h => h) ?_;clear F a;intro a F
   refine eTake (k := 13) (i := 13) rfl (by kernel_rfl) F rfl rfl rfl rfl (fun w H => rLd Tryd.isAgg24 F rfl (H.cell 1 rfl rfl)) (H.sel [0, 1] rfl rfl) (fun _ _ _ h => h) ?_;clear F a;intro a F
   refine eTakeF (k := 14) (i := 14) rfl (by kernel_rfl) F rfl rfl rfl (fun w => rMv F rfl) (H.sel [0, 1] rfl rfl) (fun _ _ _ h => h) ?_;clear F a;intro a F
   refine eTakeF (k := 15) (i := 15) rfl (by kernel_rfl) F rfl rfl rfl (fun w => rIx Tryd.underlying24 Tryd.sizeOf59 F rfl rfl ?_) (H.sel [0, 1] rfl rfl) (fun _ _ _ h => h) ?_
   focus (first | omega | decide | (simp; omega))
   clear F a; intro a F
   refine eTake (k := 16) (i := 16) rfl (by kernel_rfl) F rfl rfl rfl rfl (fun w H => rLd Tryd.isAgg59 F rfl (H.arg hT1)) (H.sel [0, 1] rfl rfl) (fun _ _ _ h => h) ?_;clear F a;intro a F
   refine eTake (k := 17) (i := 17) rfl (by kernel_rfl) F rfl rfl rfl rfl (fun w H => rLen Tryd.underlying59 F rfl) (H.sel [0, 1] rfl rfl) (fun _ _ _ h => h) ?_;clear F a;intro a F
   refine eTakeF (k := 18) (i := 18) rfl (by kernel_rfl) F rfl rfl rfl (fun w => rBin F rfl rfl bLss) (H.sel [0, 1] rfl rfl) (fun _ _ _ h => h) ?_;clear F a;intro a F
   refine eTakeF (k := 19) (i := 19) rfl (by kernel_rfl) F rfl rfl rfl (fun w => rPk F rfl rfl) (H.sel [0, 1] rfl rfl) (fun _ _ _ h => h) ?_;clear F a;intro a F
   refine eTakeF (k := 20) (i := 20) rfl (by kernel_rfl) F rfl rfl rfl (fun w => rMv F rfl) (H.sel [0, 1] rfl rfl) (fun _ _ _ h => h) ?_;clear F a;intro a F
   refine F.split 27 rfl ?_ ?_ <;> (clear F; intro h27 F)
   ·
    replace h27 := of_decide_eq_true h27
    obtain ⟨x, hx⟩ : ∃ x, l[(s (t * 9)).toNat]? = some x := ⟨_, List.getElem?_eq_getElem (by omega)⟩
    have hpcl : (s (t * 9)).toNat < l.length := by omega
    obtain ⟨bI, oI, rfl, hI⟩ := hT2 (s (t * 9)).toNat x.cells (by rw [List.getElem?_map, hx]; rfl)
    have hno := nextI_at hl hx
    refine eTakeF (k := 21) (i := 21) rfl (by kernel_rfl) F rfl rfl rfl (fun w => rFa (f := 3) (k := 3) Tryd.underlying29 rfl Tryd.sizeOf24 rfl rfl F rfl) (H.sel [0, 1] rfl rfl) (fun _ _ _ h => h) ?_;clear F a;intro a F
    refine eTake (k := 22) (i := 22) rfl (by kernel_rfl) F rfl rfl rfl rfl (fun w H => rLd Tryd.isAgg24 F rfl (H.cell 1 rfl rfl)) (H.sel [0, 1] rfl rfl) (fun _ _ _ h => h) ?_;clear F a;intro a F
    refine eTakeF (k := 23) (i := 23) rfl (by kernel_rfl) F rfl rfl rfl (fun w => rMv F rfl) (H.sel [0, 1] rfl rfl) (fun _ _ _ h => h) ?_;clear F a;intro a F
    refine eTakeF (k := 24) (i := 24) rfl (by kernel_rfl) F rfl rfl rfl (fun w => rIx Tryd.underlying24 Tryd.sizeOf59 F rfl rfl ?_) (H.sel [0, 1] rfl rfl) (fun _ _ _ h => h) ?_
    focus (first | omega | decide | (simp; omega))
    clear F a; intro a F
    refine eTake (k := 25) (i := 25) rfl (by kernel_rfl) F rfl rfl rfl rfl (fun w H => rLd Tryd.isAgg59 F rfl (H.arg hT1)) (H.sel [0, 1] rfl rfl) (fun _ _ _ h => h) ?_;clear F a;intro a F
    refine eTakeF (k := 26) (i := 26) rfl (by kernel_rfl) F rfl rfl rfl (fun w => rMv F rfl) (H.sel [0, 1] rfl rfl) (fun _ _ _ h => h) ?_;clear F a;intro a F
    refine eTakeF (k := 27) (i := 27) rfl (by kernel_rfl) F rfl rfl rfl (fun w => rFa (f := 0) (k := 0) Tryd.underlying41 rfl Tryd.sizeOf33 rfl rfl F rfl) (H.sel [0, 1] rfl rfl) (fun _ _ _ h => h) ?_;clear F a;intro a F
    refine eTakeF (k := 28) (i := 28) rfl (by kernel_rfl) F rfl rfl rfl (fun w => rIaZ Tryd.underlying33 Tryd.sizeOf32 F rfl rfl ?_) (H.sel [0, 1] rfl rfl) (fun _ _ _ h => h) ?_
    focus (first | omega | decide | (simp; omega))
    clear F a; intro a F
    refine eTakeF (k := 29) (i := 29) rfl (by kernel_rfl) F rfl rfl rfl (fun w => rFaZ (f := 0) Tryd.underlying32 rfl Tryd.sizeOf5 rfl rfl F rfl) (H.sel [0, 1] rfl rfl) (fun _ _ _ h => h) ?_;clear F a;intro a F
    refine eTake (k := 30) (i := 30) rfl (by kernel_rfl) F rfl rfl rfl rfl (fun w H => rLd Tryd.isAgg5 F rfl (H.cellB 0 rfl (by omega))) (H.sel [0, 1] rfl rfl) (fun _ _ _ h => h) ?_;clear F a;intro a F
    refine eTakeF (k := 31) (i := 31) rfl (by kernel_rfl) F rfl rfl rfl (fun w => rIx Tryd.underlying59 Tryd.sizeOf58 F rfl rfl ?_) (H.sel [0, 1] rfl rfl) (fun _ _ _ h => h) ?_
    focus exact hpcl
    clear F a; intro a F
    refine eTakeF (k := 32) (i := 32) rfl (by kernel_rfl) F rfl rfl rfl (fun w => rFa (f := 0) Tryd.underlying58 rfl Tryd.sizeOf5 rfl rfl F rfl) (H.sel [0, 1] rfl rfl) (fun _ _ _ h => h) ?_;clear F a;intro a F
    refine eTake (k := 33) (i := 33) rfl (by kernel_rfl) F rfl rfl rfl rfl (fun w H => rLd Tryd.isAgg5 F rfl (H.arg (hI 0 _ rfl))) (H.sel [0, 1] rfl rfl) (fun _ _ _ h => h) ?_;clear F a;intro a F
    refine eTakeF (k := 34) (i := 34) rfl (by kernel_rfl) F rfl rfl rfl (fun w => rBin F rfl rfl (bEqlB (y := 2))) (H.sel [0, 1] rfl rfl) (fun _ _ _ h => h) ?_;clear F a;intro a F
    refine eTakeF (k := 35) (i := 35) rfl (by kernel_rfl) F rfl rfl rfl (fun w => rPk F rfl rfl) (H.sel [0, 1] rfl rfl) (fun _ _ _ h => h) ?_;clear F a;intro a F
    refine eTakeF (k := 36) (i := 36) rfl (by kernel_rfl) F rfl rfl rfl (fun w => rAs F rfl) (H.sel [0, 1] rfl rfl) (fun _ _ _ h => h) ?_;clear F a;intro a F
    refine eNil (k := 37) (by kernel_rfl) ?_
    refine hK2 _ _ ?_; clear hK2
    refine wp_ret ?_
    refine bRet Tryd.results14 F rfl ?_
    exact ⟨by rw [storeP, hno], H.below⟩
   ·
    replace h27 := of_decide_eq_false h27
    have hno := nextI_none (s := s) hl (by omega)
    refine eSkip (k := 21) (i := 21) rfl (by kernel_rfl) F rfl rfl rfl (H.sel [0, 1] rfl rfl) (fun _ _ _ h => h) ?_;clear F a;intro a F
    refine eSkip (k := 22) (i := 22) rfl (by kernel_rfl) F rfl rfl rfl (H.sel [0, 1] rfl rfl) (fun _ _ _ h => h) ?_;clear F a;intro a F
    refine eSkip (k := 23) (i := 23) rfl (by kernel_rfl) F rfl rfl rfl (H.sel [0, 1] rfl rfl) (fun _ _ _ h => h) ?_;clear F a;intro a F
    refine eSkip (k := 24) (i := 24) rfl (by kernel_rfl) F rfl rfl rfl (H.sel [0, 1] rfl rfl) (fun _ _ _ h => h) ?_;clear F a;intro a F
    refine eSkip (k := 25) (i := 25) rfl (by kernel_rfl) F rfl rfl rfl (H.sel [0, 1] rfl rfl) (fun _ _ _ h => h) ?_;clear F a;intro a F
    refine eSkip (k := 26) (i := 26) rfl (by kernel_rfl) F rfl rfl rfl (H.sel [0, 1] rfl rfl) (fun _ _ _ h => h) ?_;clear F a;intro a F
    refine eSkip (k := 27) (i := 27) rfl (by kernel_rfl) F rfl rfl rfl (H.sel [0, 1] rfl rfl) (fun _ _ _ h => h) ?_;clear F a;intro a F
    refine eSkip (k := 28) (i := 28) rfl (by kernel_rfl) F rfl rfl rfl (H.sel [0, 1] rfl rfl) (fun _ _ _ h => h) ?_;clear F a;intro a F
    refine eSkip (k := 29) (i := 29) rfl (by kernel_rfl) F rfl rfl rfl (H.sel [0, 1] rfl rfl) (fun _ _ _ h => h) ?_;clear F a;intro a F
    refine eSkip (k := 30) (i := 30) rfl (by kernel_rfl) F rfl rfl rfl (H.sel [0, 1] rfl rfl) (fun _ _ _ h => h) ?_;clear F a;intro a F
    refine eSkip (k := 31) (i := 31) rfl (by kernel_rfl) F rfl rfl rfl (H.sel [0, 1] rfl rfl) (fun _ _ _ h => h) ?_;clear F a;intro a F
    refine eSkip (k := 32) (i := 32) rfl (by kernel_rfl) F rfl rfl rfl (H.sel [0, 1] rfl rfl) (fun _ _ _ h => h) ?_;clear F a;intro a F
    refine eSkip (k := 33) (i := 33) rfl (by kernel_rfl) F rfl rfl rfl (H.sel [0, 1] rfl rfl) (fun _ _ _ h => h) ?_;clear F a;intro a F
    refine eSkip (k := 34) (i := 34) rfl (by kernel_rfl) F rfl rfl rfl (H.sel [0, 1] rfl rfl) (fun _ _ _ h => h) ?_;clear F a;intro a F
    refine eTakeF (k := 35) (i := 35) rfl (by kernel_rfl) F rfl rfl rfl (fun w => rPk F rfl rfl) (H.sel [0, 1] rfl rfl) (fun _ _ _ h => h) ?_;clear F a;intro a F
    refine eTakeF (k := 36) (i := 36) rfl (by kernel_rfl) F rfl rfl rfl (fun w => rAs F rfl) (H.sel [0, 1] rfl rfl) (fun _ _ _ h => h) ?_;clear F a;intro a F
    refine eNil (k := 37) (by kernel_rfl) ?_
    refine hK2 _ _ ?_; clear hK2
    refine wp_ret ?_
    refine bRet Tryd.results14 F rfl ?_
    exact ⟨by rw [storeP, hno], H.below⟩
  ·
   replace h12 := of_decide_eq_false h12
   have hno : nextI p s t = none := by unfold nextI; rw [List.getElem?_eq_none (show p.threads.length ≤ t by omega)]
   refine eSkip (k := 6) (i := 6) rfl (by kernel_rfl) F rfl rfl rfl (H.sel [0, 1] rfl rfl) (fun _ _ _ h => h) ?_;clear F a;intro a F
   refine eSkip (k := 7) (i := 7) rfl (by kernel_rfl) F rfl rfl rfl (H.sel [0, 1] rfl rfl) (fun _ _ _ h => h) ?_;clear F a;intro a F
   refine eSkip (k := 8) (i := 8) rfl (by kernel_rfl) F rfl rfl rfl (H.sel [0, 1] rfl rfl) (fun _ _ _ h => h) ?_;clear F a;intro a F
   refine eSkip (k := 9) (i := 9) rfl (by kernel_rfl) F rfl rfl rfl (H.sel [0, 1] rfl rfl) (fun _ _ _ h => h) ?_;clear F a;intro a F
   refine eSkip (k := 10) (i := 10) rfl (by kernel_rfl) F rfl rfl rfl (H.sel [0, 1] rfl rfl) (fun _ _ _ h => h) ?_;clear F a;intro a F
   refine eSkip (k := 11) (i := 11) rfl (by kernel_rfl) F rfl rfl rfl (H.sel [0, 1] rfl rfl) (fun _ _ _ h => h) ?_;clear F a;intro a F
   refine eSkip (k := 12) (i := 12) rfl (by kernel_rfl) F rfl rfl rfl (H.sel [0, 1] rfl rfl) (fun _ _ _ h => h) ?_;clear F a;intro a F
   refine eSkip (k := 13) (i := 13) rfl (by kernel_rfl) F rfl rfl rfl (H.sel [0, 1] rfl rfl) (fun _ _ _ h => h) ?_;clear F a;intro a F
   refine eSkip (k := 14) (i := 14) rfl (by kernel_rfl) F rfl rfl rfl (H.sel [0, 1] rfl rfl) (fun _ _ _ h => h) ?_;clear F a;intro a F
   refine eSkip (k := 15) (i := 15) rfl (by kernel_rfl) F rfl rfl rfl (H.sel [0, 1] rfl rfl) (fun _ _ _ h => h) ?_;clear F a;intro a F
   refine eSkip (k := 16) (i := 16) rfl (by kernel_rfl) F rfl rfl rfl (H.sel [0, 1] rfl rfl) (fun _ _ _ h => h) ?_;clear F a;intro a F
   refine eSkip (k := 17) (i := 17) rfl (by kernel_rfl) F rfl rfl rfl (H.sel [0, 1] rfl rfl) (fun _ _ _ h => h) ?_;clear F a;intro a F
   refine eSkip (k := 18) (i := 18) rfl (by kernel_rfl) F rfl rfl rfl (H.sel [0, 1] rfl rfl) (fun _ _ _ h => h) ?_;clear F a;intro a F
   refine eTakeF (k := 19) (i := 19) rfl (by kernel_rfl) F rfl rfl rfl (fun w => rPk F rfl rfl) (H.sel [0, 1] rfl rfl) (fun _ _ _ h => h) ?_;clear F a;intro a F
   refine eTakeF (k := 20) (i := 20) rfl (by kernel_rfl) F rfl rfl rfl (fun w => rMv F rfl) (H.sel [0, 1] rfl rfl) (fun _ _ _ h => h) ?_;clear F a;intro a F
   refine eSkip (k := 21) (i := 21) rfl (by kernel_rfl) F rfl rfl rfl (H.sel [0, 1] rfl rfl) (fun _ _ _ h => h) ?_;clear F a;intro a F
   refine eSkip (k := 22) (i := 22) rfl (by kernel_rfl) F rfl rfl rfl (H.sel [0, 1] rfl rfl) (fun _ _ _ h => h) ?_;clear F a;intro a F
   refine eSkip (k := 23) (i := 23) rfl (by kernel_rfl) F rfl rfl rfl (H.sel [0, 1] rfl rfl) (fun _ _ _ h => h) ?_;clear F a;intro a F
   refine eSkip (k := 24) (i := 24) rfl (by kernel_rfl) F rfl rfl rfl (H.sel [0, 1] rfl rfl) (fun _ _ _ h => h) ?_;clear F a;intro a F
   refine eSkip (k := 25) (i := 25) rfl (by kernel_rfl) F rfl rfl rfl (H.sel [0, 1] rfl rfl) (fun _ _ _ h => h) ?_;clear F a;intro a F
   refine eSkip (k := 26) (i := 26) rfl (by kernel_rfl) F rfl rfl rfl (H.sel [0, 1] rfl rfl) (fun _ _ _ h => h) ?_;clear F a;intro a F
   refine eSkip (k := 27) (i := 27) rfl (by kernel_rfl) F rfl rfl rfl (H.sel [0, 1] rfl rfl) (fun _ _ _ h => h) ?_;clear F a;intro a F
   refine eSkip (k := 28) (i := 28) rfl (by kernel_rfl) F rfl rfl rfl (H.sel [0, 1] rfl rfl) (fun _ _ _ h => h) ?_;clear F a;intro a F
   refine eSkip (k := 29) (i := 29) rfl (by kernel_rfl) F rfl rfl rfl (H.sel [0, 1] rfl rfl) (fun _ _ _ h => h) ?_;clear F a;intro a F
   refine eSkip (k := 30) (i := 30) rfl (by kernel_rfl) F rfl rfl rfl (H.sel [0, 1] rfl rfl) (fun _ _ _ h => h) ?_;clear F a;intro a F
   refine eSkip (k := 31) (i := 31) rfl (by kernel_rfl) F rfl rfl rfl (H.sel [0, 1] rfl rfl) (fun _ _ _ h => h) ?_;clear F a;intro a F
   refine eSkip (k := 32) (i := 32) rfl (by kernel_rfl) F rfl rfl rfl (H.sel [0, 1] rfl rfl) (fun _ _ _ h => h) ?_;clear F a;intro a F
   refine eSkip (k := 33) (i := 33) rfl (by kernel_rfl) F rfl rfl rfl (H.sel [0, 1] rfl rfl) (fun _ _ _ h => h) ?_;clear F a;intro a F
   refine eSkip (k := 34) (i := 34) rfl (by kernel_rfl) F rfl rfl rfl (H.sel [0, 1] rfl rfl) (fun _ _ _ h => h) ?_;clear F a;intro a F
   refine eTakeF (k := 35) (i := 35) rfl (by kernel_rfl) F rfl rfl rfl (fun w => rPk F rfl rfl) (H.sel [0, 1] rfl rfl) (fun _ _ _ h => h) ?_;clear F a;intro a F
   refine eTakeF (k := 36) (i := 36) rfl (by kernel_rfl) F rfl rfl rfl (fun w => rAs F rfl) (H.sel [0, 1] rfl rfl) (fun _ _ _ h => h) ?_;clear F a;intro a F
   refine eNil (k := 37) (by kernel_rfl) ?_
   refine hK2 _ _ ?_; clear hK2
   refine wp_ret ?_
   refine bRet Tryd.results14 F rfl ?_
   exact ⟨by rw [storeP, hno], H.below⟩
end Go.Proofs.YtjephfjnohgcbaaDoor
