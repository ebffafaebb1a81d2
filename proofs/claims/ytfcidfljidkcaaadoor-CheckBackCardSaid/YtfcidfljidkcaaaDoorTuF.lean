/-
  WALK2. The laws of chapter 07: holds. Conditions: the condition lies in memory.
-/
import Derived.Test.YtfcidfljidkcaaaDoorTuE
set_option linter.unusedSimpArgs false
set_option linter.unusedVariables false
namespace Go.Proofs.YtfcidfljidkcaaaDoor
open Go.RowKit
set_option maxRecDepth 100000
section
variable {f : By} {h : Nat} {k t n v : UInt8} {kids : List Cnd}
theorem holds_reg (hk : k = 1) : holdsH f (h + 1) (.mk k t n v kids) = (f (t.toNat % 4 * 8 + n.toNat % 8) == v) := by
  subst hk; unfold holdsH; rw [if_pos rfl]
theorem holds_loc (hk : k = 2) : holdsH f (h + 1) (.mk k t n v kids) = (f (32 + n.toNat % 6) == v) := by
  subst hk; unfold holdsH; rw [if_neg (by decide), if_pos rfl]
theorem holds_not (hk : k = 5) : holdsH f (h + 1) (.mk k t n v kids) = (match kids with | [] => false | y :: _ => !holdsH f h y) := by
  subst hk; cases kids <;> rfl
theorem holds_not1 {y : Cnd} (hk : k = 5) (h0 : kids[0]? = some y) : holdsH f (h + 1) (.mk k t n v kids) = !holdsH f h y := by
  rw [holds_not hk]
  cases kids with
  | nil => simp at h0
  | cons z zs =>
    rw [List.getElem?_cons_zero] at h0
    rw [Option.some.inj h0]
theorem holds_not0 (hk : k = 5) (h0 : ¬ 0 < (kids.length : Int)) : holdsH f (h + 1) (.mk k t n v kids) = false := by
  rw [holds_not hk]
  cases kids with
  | nil => rfl
  | cons z zs => exact absurd (by simp only [List.length_cons]; omega) h0
theorem holds_or (hk : k = 4) : holdsH f (h + 1) (.mk k t n v kids) = kids.any (holdsH f h) := by
  subst hk; unfold holdsH; rw [if_neg (by decide), if_neg (by decide), if_neg (by decide), if_pos rfl]
theorem holds_all (h1 : ¬ k = 1) (h2 : ¬ k = 2) (h5 : ¬ k = 5) (h4 : ¬ k = 4) : holdsH f (h + 1) (.mk k t n v kids) = kids.all (holdsH f h) := by
  unfold holdsH; rw [if_neg h1, if_neg h2, if_neg h5, if_neg h4]
end
theorem mod4T (n : UInt8) : (n % 4).toNat = n.toNat % 4 := by rw [UInt8.toNat_mod]; rfl
theorem mod8T (n : UInt8) : (n % 8).toNat = n.toNat % 8 := by rw [UInt8.toNat_mod]; rfl
theorem mod6T (n : UInt8) : (n % 6).toNat = n.toNat % 6 := by rw [UInt8.toNat_mod]; rfl
theorem take_all {p : Cnd → Bool} {l : List Cnd} {j : Nat} {x : Cnd} (h : l[j]? = some x) : (l.take (j + 1)).all p = ((l.take j).all p && p x) := by
  rw [List.take_add_one, h, List.all_append]; simp
theorem take_any {p : Cnd → Bool} {l : List Cnd} {j : Nat} {x : Cnd} (h : l[j]? = some x) : (l.take (j + 1)).any p = ((l.take j).any p || p x) := by
  rw [List.take_add_one, h, List.any_append]; simp
set_option maxHeartbeats 4000000 in
theorem holds7_any (f : By) (h : Nat) : ∀ (cs : List Value) (c : Cnd) (w0 : World), CondAt w0 h cs c →
    Calls Tryd.prog 11 #[.agg cs.toArray, .agg (bs 38 f).toArray] w0 fun e w' => e = .returned (.bool (holdsH f h c)) ∧ Below w0.heap.size w0 w' := by
  induction h with
  | zero => intro cs c w0 hC; exact hC.elim
  | succ h ih =>
    intro cs c w0 hC
    obtain ⟨k, t, n, v, kids⟩ := c
    obtain ⟨A, C, rfl, hkl, hK⟩ := hC
    have m4 := mod4T t
    have m8 := mod8T n
    have m6 := mod6T n
    have H := Own.start w0 none
    refine enterF Tryd.func11 rfl Tryd.ntmps11 rfl (fun a F => ?_)
    refine cSeq (fun K1 hK1 => ?_)
    refine cReg ?_
    refine sBx H F rfl rfl rfl ?_
    clear F a H; intro b2 a w F H
    refine sBxB H F rfl rfl rfl ?_
    clear F a H; intro b3 a w F H
    refine sAs F rfl rfl rfl ?_;clear F a;intro a F
    refine sNil ?_
    refine hK1 _ _ ?_; clear hK1
    refine cSeq (fun K2 hK2 => ?_)
    refine cSeq (fun K3 hK3 => ?_)
    refine cReg ?_
    refine sFa (f := 0) (k := 0) Tryd.underlying27 rfl Tryd.sizeOf5 rfl rfl F rfl rfl rfl ?_;clear F a;intro a F
    refine sLd Tryd.isAgg5 F rfl rfl rfl (H.cell 1 rfl rfl) ?_;clear F a;intro a F
    refine sNil ?_
    refine hK3 _ _ ?_; clear hK3
    refine wp_block ?_
    refine cSeq (fun K4 hK4 => ?_)
    refine cReg ?_
    refine sBin F rfl rfl rfl rfl (bEqlB (y := 1)) ?_;clear F a;intro a F
    refine sAs F rfl rfl rfl ?_;clear F a;intro a F
    refine sNil ?_
    refine hK4 _ _ ?_; clear hK4
    refine cIf F rfl (fun h11 => ?_) (fun h11 => ?_)
    ·
     replace h11 := beqT h11
     refine cSeq (fun K5 hK5 => ?_)
     refine cRegRO (by kernel_rfl) H ?_
     replace H := H.drew
     refine eTakeF (k := 0) (i := 0) rfl (by kernel_rfl) F rfl rfl rfl (fun w => rFa (f := 1) (k := 1) Tryd.underlying27 rfl Tryd.sizeOf5 rfl rfl F rfl) (H.sel [0, 1] rfl rfl) (fun _ _ _ h => h) ?_;clear F a;intro a F
     refine eTake (k := 1) (i := 1) rfl (by kernel_rfl) F rfl rfl rfl rfl (fun w H => rLd Tryd.isAgg5 F rfl (H.cell 1 rfl rfl)) (H.sel [0, 1] rfl rfl) (fun _ _ _ h => h) ?_;clear F a;intro a F
     refine eTakeF (k := 2) (i := 2) rfl (by kernel_rfl) F rfl rfl rfl (fun w => rBin F rfl rfl (bRemB (y := 4) ?_)) (H.sel [0, 1] rfl rfl) (fun _ _ _ h => h) ?_
     focus decide
     clear F a; intro a F
     refine eTakeF (k := 3) (i := 3) rfl (by kernel_rfl) F rfl rfl rfl (fun w => rFa (f := 2) (k := 2) Tryd.underlying27 rfl Tryd.sizeOf5 rfl rfl F rfl) (H.sel [0, 1] rfl rfl) (fun _ _ _ h => h) ?_;clear F a;intro a F
     refine eTake (k := 4) (i := 4) rfl (by kernel_rfl) F rfl rfl rfl rfl (fun w H => rLd Tryd.isAgg5 F rfl (H.cell 1 rfl rfl)) (H.sel [0, 1] rfl rfl) (fun _ _ _ h => h) ?_;clear F a;intro a F
     refine eTakeF (k := 5) (i := 5) rfl (by kernel_rfl) F rfl rfl rfl (fun w => rBin F rfl rfl (bRemB (y := 8) ?_)) (H.sel [0, 1] rfl rfl) (fun _ _ _ h => h) ?_
     focus decide
     clear F a; intro a F
     refine eTakeF (k := 6) (i := 6) rfl (by kernel_rfl) F rfl rfl rfl (fun w => rFa (f := 0) (k := 0) Tryd.underlying34 rfl Tryd.sizeOf31 rfl rfl F rfl) (H.sel [0, 1] rfl rfl) (fun _ _ _ h => h) ?_;clear F a;intro a F
     refine eTakeF (k := 7) (i := 7) rfl (by kernel_rfl) F rfl rfl rfl (fun w => rIaZ Tryd.underlying31 Tryd.sizeOf30 F rfl rfl ?_) (H.sel [0, 1] rfl rfl) (fun _ _ _ h => h) ?_
     focus omega
     clear F a; intro a F
     refine eTakeF (k := 8) (i := 8) rfl (by kernel_rfl) F rfl rfl rfl (fun w => rIa1 Tryd.underlying30 Tryd.sizeOf5 F rfl rfl ?_) (H.sel [0, 1] rfl rfl) (fun _ _ _ h => h) ?_
     focus omega
     clear F a; intro a F
     refine eTake (k := 9) (i := 9) rfl (by kernel_rfl) F rfl rfl rfl rfl (fun w H => rLd Tryd.isAgg5 F rfl (H.cellB 0 rfl (by omega))) (H.sel [0, 1] rfl rfl) (fun _ _ _ h => h) ?_;clear F a;intro a F
     refine eTakeF (k := 10) (i := 10) rfl (by kernel_rfl) F rfl rfl rfl (fun w => rFa (f := 3) (k := 3) Tryd.underlying27 rfl Tryd.sizeOf5 rfl rfl F rfl) (H.sel [0, 1] rfl rfl) (fun _ _ _ h => h) ?_;clear F a;intro a F
     refine eTake (k := 11) (i := 11) rfl (by kernel_rfl) F rfl rfl rfl rfl (fun w H => rLd Tryd.isAgg5 F rfl (H.cell 1 rfl rfl)) (H.sel [0, 1] rfl rfl) (fun _ _ _ h => h) ?_;clear F a;intro a F
     refine eTakeF (k := 12) (i := 12) rfl (by kernel_rfl) F rfl rfl rfl (fun w => rBin F rfl rfl bEqlB) (H.sel [0, 1] rfl rfl) (fun _ _ _ h => h) ?_;clear F a;intro a F
     refine eTakeF (k := 13) (i := 13) rfl (by kernel_rfl) F rfl rfl rfl (fun w => rAs F rfl) (H.sel [0, 1] rfl rfl) (fun _ _ _ h => h) ?_;clear F a;intro a F
     refine eNil (k := 14) (by kernel_rfl) ?_
     refine hK5 _ _ ?_; clear hK5
     refine wp_ret ?_
     simp only [Exit.inBlock, Exit.then]
     refine bRet Tryd.results11 F rfl ?_
     first
     | exact ⟨by rw [holds_reg h11, m4, m8], H.below⟩
     | exact ⟨by rw [holds_loc h26, m6], H.below⟩
     | exact ⟨by rw [holds_not1 h37 hk0], H.below⟩
     | exact ⟨by rw [holds_not0 h37 h43], H.below⟩
     | exact ⟨by rw [holds_or h76], H.below⟩
     | exact ⟨by rw [holds_all h11 h26 h37 h76], H.below⟩
    replace h11 := beqF h11
    refine cSeq (fun K6 hK6 => ?_)
    refine cReg ?_
    refine sBin F rfl rfl rfl rfl (bEqlB (y := 2)) ?_;clear F a;intro a F
    refine sAs F rfl rfl rfl ?_;clear F a;intro a F
    refine sNil ?_
    refine hK6 _ _ ?_; clear hK6
    refine cIf F rfl (fun h26 => ?_) (fun h26 => ?_)
    ·
     replace h26 := beqT h26
     refine cSeq (fun K7 hK7 => ?_)
     refine cRegRO (by kernel_rfl) H ?_
     replace H := H.drew
     refine eTakeF (k := 0) (i := 0) rfl (by kernel_rfl) F rfl rfl rfl (fun w => rFa (f := 2) (k := 2) Tryd.underlying27 rfl Tryd.sizeOf5 rfl rfl F rfl) (H.sel [0, 1] rfl rfl) (fun _ _ _ h => h) ?_;clear F a;intro a F
     refine eTake (k := 1) (i := 1) rfl (by kernel_rfl) F rfl rfl rfl rfl (fun w H => rLd Tryd.isAgg5 F rfl (H.cell 1 rfl rfl)) (H.sel [0, 1] rfl rfl) (fun _ _ _ h => h) ?_;clear F a;intro a F
     refine eTakeF (k := 2) (i := 2) rfl (by kernel_rfl) F rfl rfl rfl (fun w => rBin F rfl rfl (bRemB (y := 6) ?_)) (H.sel [0, 1] rfl rfl) (fun _ _ _ h => h) ?_
     focus decide
     clear F a; intro a F
     refine eTakeF (k := 3) (i := 3) rfl (by kernel_rfl) F rfl rfl rfl (fun w => rFa (f := 1) (k := 32) Tryd.underlying34 rfl Tryd.sizeOf32 rfl rfl F rfl) (H.sel [0, 1] rfl rfl) (fun _ _ _ h => h) ?_;clear F a;intro a F
     refine eTakeF (k := 4) (i := 4) rfl (by kernel_rfl) F rfl rfl rfl (fun w => rIa1 Tryd.underlying32 Tryd.sizeOf5 F rfl rfl ?_) (H.sel [0, 1] rfl rfl) (fun _ _ _ h => h) ?_
     focus omega
     clear F a; intro a F
     refine eTake (k := 5) (i := 5) rfl (by kernel_rfl) F rfl rfl rfl rfl (fun w H => rLd Tryd.isAgg5 F rfl (H.cellB 0 rfl (by omega))) (H.sel [0, 1] rfl rfl) (fun _ _ _ h => h) ?_;clear F a;intro a F
     refine eTakeF (k := 6) (i := 6) rfl (by kernel_rfl) F rfl rfl rfl (fun w => rFa (f := 3) (k := 3) Tryd.underlying27 rfl Tryd.sizeOf5 rfl rfl F rfl) (H.sel [0, 1] rfl rfl) (fun _ _ _ h => h) ?_;clear F a;intro a F
     refine eTake (k := 7) (i := 7) rfl (by kernel_rfl) F rfl rfl rfl rfl (fun w H => rLd Tryd.isAgg5 F rfl (H.cell 1 rfl rfl)) (H.sel [0, 1] rfl rfl) (fun _ _ _ h => h) ?_;clear F a;intro a F
     refine eTakeF (k := 8) (i := 8) rfl (by kernel_rfl) F rfl rfl rfl (fun w => rBin F rfl rfl bEqlB) (H.sel [0, 1] rfl rfl) (fun _ _ _ h => h) ?_;clear F a;intro a F
     refine eTakeF (k := 9) (i := 9) rfl (by kernel_rfl) F rfl rfl rfl (fun w => rAs F rfl) (H.sel [0, 1] rfl rfl) (fun _ _ _ h => h) ?_;clear F a;intro a F
     refine eNil (k := 10) (by kernel_rfl) ?_
     refine hK7 _ _ ?_; clear hK7
     refine wp_ret ?_
     simp only [Exit.inBlock, Exit.then]
     refine bRet Tryd.results11 F rfl ?_
     first
     | exact ⟨by rw [holds_reg h11, m4, m8], H.below⟩
     | exact ⟨by rw [holds_loc h26, m6], H.below⟩
     | exact ⟨by rw [holds_not1 h37 hk0], H.below⟩
     | exact ⟨by rw [holds_not0 h37 h43], H.below⟩
     | exact ⟨by rw [holds_or h76], H.below⟩
     | exact ⟨by rw [holds_all h11 h26 h37 h76], H.below⟩
    replace h26 := beqF h26
    refine cSeq (fun K8 hK8 => ?_)
    refine cReg ?_
    refine sBin F rfl rfl rfl rfl (bEqlB (y := 5)) ?_;clear F a;intro a F
    refine sAs F rfl rfl rfl ?_;clear F a;intro a F
    refine sNil ?_
    refine hK8 _ _ ?_; clear hK8
    refine cIf F rfl (fun h37 => ?_) (fun h37 => ?_)
    ·
     replace h37 := beqT h37
     refine cSeq (fun K9 hK9 => ?_)
     refine cRegRO (by kernel_rfl) H ?_
     replace H := H.drew
     refine eTakeF (k := 0) (i := 0) rfl (by kernel_rfl) F rfl rfl rfl (fun w => rFa (f := 4) (k := 4) Tryd.underlying27 rfl Tryd.sizeOf25 rfl rfl F rfl) (H.sel [0, 1] rfl rfl) (fun _ _ _ h => h) ?_;clear F a;intro a F
     refine eTake (k := 1) (i := 1) rfl (by kernel_rfl) F rfl rfl rfl rfl (fun w H => rLd Tryd.isAgg25 F rfl (H.cell 1 rfl rfl)) (H.sel [0, 1] rfl rfl) (fun _ _ _ h => h) ?_;clear F a;intro a F
     refine eTake (k := 2) (i := 2) rfl (by kernel_rfl) F rfl rfl rfl rfl (fun w H => rLen Tryd.underlying25 F rfl) (H.sel [0, 1] rfl rfl) (fun _ _ _ h => h) ?_;clear F a;intro a F
     refine eTakeF (k := 3) (i := 3) rfl (by kernel_rfl) F rfl rfl rfl (fun w => rBin F rfl rfl bGtr) (H.sel [0, 1] rfl rfl) (fun _ _ _ h => h) ?_;clear F a;intro a F
     refine eTakeF (k := 4) (i := 4) rfl (by kernel_rfl) F rfl rfl rfl (fun w => rMv F rfl) (H.sel [0, 1] rfl rfl) (fun _ _ _ h => h) ?_;clear F a;intro a F
     refine F.split 43 rfl ?_ ?_ <;> (clear F; intro h43 F)
     ·
      replace h43 := of_decide_eq_true h43
      obtain ⟨kid0, hk0⟩ : ∃ x, kids[0]? = some x := ⟨_, List.getElem?_eq_getElem (by omega)⟩
      obtain ⟨b0, off0, cs0, rfl, hR0, hC0⟩ := hK 0 kid0 hk0
      obtain ⟨k0, t0, n0, v0, A0, m0, C0, rfl⟩ := condShape hC0
      refine eTakeF (k := 5) (i := 5) rfl (by kernel_rfl) F rfl rfl rfl (fun w => rFa (f := 4) (k := 4) Tryd.underlying27 rfl Tryd.sizeOf25 rfl rfl F rfl) (H.sel [0, 1] rfl rfl) (fun _ _ _ h => h) ?_;clear F a;intro a F
      refine eTake (k := 6) (i := 6) rfl (by kernel_rfl) F rfl rfl rfl rfl (fun w H => rLd Tryd.isAgg25 F rfl (H.cell 1 rfl rfl)) (H.sel [0, 1] rfl rfl) (fun _ _ _ h => h) ?_;clear F a;intro a F
      refine eTakeF (k := 7) (i := 7) rfl (by kernel_rfl) F rfl rfl rfl (fun w => rIx (j := 0) Tryd.underlying25 Tryd.sizeOf27 F rfl rfl ?_) (H.sel [0, 1] rfl rfl) (fun _ _ _ h => h) ?_
      focus (first | omega | decide | (simp; omega))
      clear F a; intro a F
      refine eTake (k := 8) (i := 8) rfl (by kernel_rfl) F rfl rfl rfl rfl (fun w H => rLr Tryd.underlying27 rfl ?si F rfl (H.argR hR0)) (H.sel [0, 1] rfl rfl) (fun _ _ _ h => h) ?_
      case si => exact info_size Tryd.sizeOf27
      clear F a; intro a F
      refine eTake (k := 9) (i := 9) rfl (by kernel_rfl) F rfl rfl rfl rfl (fun w H => rLrB Tryd.underlying34 rfl Tryd.sizeOf34 F rfl (H.whole 0 rfl)) (H.sel [0, 1] rfl rfl) (fun _ _ _ h => h) ?_;clear F a;intro a F
      refine eOne (k := 10) (i := 10) rfl (by kernel_rfl) F rfl (oCall Tryd.call11 F rfl rfl (ih _ kid0 _ (CondAt.grown H.grown rfl _ _ _ hC0)) ?_)
      rintro e w ⟨rfl, hb⟩
      replace H := H.grow hb; clear hb
      refine ⟨_, rfl, ?_⟩
      clear F a; intro a F
      refine ePartO (by kernel_rfl) H ?_
      refine eTakeF (k := 11) (i := 11) rfl (by kernel_rfl) F rfl rfl rfl (fun w => rNot F rfl) (H.sel [0, 1] rfl rfl) (fun _ _ _ h => h) ?_;clear F a;intro a F
      refine eTakeF (k := 12) (i := 12) rfl (by kernel_rfl) F rfl rfl rfl (fun w => rPk F rfl rfl) (H.sel [0, 1] rfl rfl) (fun _ _ _ h => h) ?_;clear F a;intro a F
      refine eTakeF (k := 13) (i := 13) rfl (by kernel_rfl) F rfl rfl rfl (fun w => rAs F rfl) (H.sel [0, 1] rfl rfl) (fun _ _ _ h => h) ?_;clear F a;intro a F
      refine eNil (k := 14) (by kernel_rfl) ?_
      refine hK9 _ _ ?_; clear hK9
      refine wp_ret ?_
      simp only [Exit.inBlock, Exit.then]
      refine bRet Tryd.results11 F rfl ?_
      first
      | exact ⟨by rw [holds_reg h11, m4, m8], H.below⟩
      | exact ⟨by rw [holds_loc h26, m6], H.below⟩
      | exact ⟨by rw [holds_not1 h37 hk0], H.below⟩
      | exact ⟨by rw [holds_not0 h37 h43], H.below⟩
      | exact ⟨by rw [holds_or h76], H.below⟩
      | exact ⟨by rw [holds_all h11 h26 h37 h76], H.below⟩
     replace h43 := of_decide_eq_false h43
     refine eSkip (k := 5) (i := 5) rfl (by kernel_rfl) F rfl rfl rfl (H.sel [0, 1] rfl rfl) (fun _ _ _ h => h) ?_;clear F a;intro a F
     refine eSkip (k := 6) (i := 6) rfl (by kernel_rfl) F rfl rfl rfl (H.sel [0, 1] rfl rfl) (fun _ _ _ h => h) ?_;clear F a;intro a F
     refine eSkip (k := 7) (i := 7) rfl (by kernel_rfl) F rfl rfl rfl (H.sel [0, 1] rfl rfl) (fun _ _ _ h => h) ?_;clear F a;intro a F
     refine eSkip (k := 8) (i := 8) rfl (by kernel_rfl) F rfl rfl rfl (H.sel [0, 1] rfl rfl) (fun _ _ _ h => h) ?_;clear F a;intro a F
     refine eSkip (k := 9) (i := 9) rfl (by kernel_rfl) F rfl rfl rfl (H.sel [0, 1] rfl rfl) (fun _ _ _ h => h) ?_;clear F a;intro a F
     refine eSkip (k := 10) (i := 10) rfl (by kernel_rfl) F rfl rfl rfl (H.sel [0, 1] rfl rfl) (fun _ _ _ h => h) ?_;clear F a;intro a F
     refine eSkip (k := 11) (i := 11) rfl (by kernel_rfl) F rfl rfl rfl (H.sel [0, 1] rfl rfl) (fun _ _ _ h => h) ?_;clear F a;intro a F
     refine eTakeF (k := 12) (i := 12) rfl (by kernel_rfl) F rfl rfl rfl (fun w => rPk F rfl rfl) (H.sel [0, 1] rfl rfl) (fun _ _ _ h => h) ?_;clear F a;intro a F
     refine eTakeF (k := 13) (i := 13) rfl (by kernel_rfl) F rfl rfl rfl (fun w => rAs F rfl) (H.sel [0, 1] rfl rfl) (fun _ _ _ h => h) ?_;clear F a;intro a F
     refine eNil (k := 14) (by kernel_rfl) ?_
     refine hK9 _ _ ?_; clear hK9
     refine wp_ret ?_
     simp only [Exit.inBlock, Exit.then]
     refine bRet Tryd.results11 F rfl ?_
     first
     | exact ⟨by rw [holds_reg h11, m4, m8], H.below⟩
     | exact ⟨by rw [holds_loc h26, m6], H.below⟩
     | exact ⟨by rw [holds_not1 h37 hk0], H.below⟩
     | exact ⟨by rw [holds_not0 h37 h43], H.below⟩
     | exact ⟨by rw [holds_or h76], H.below⟩
     | exact ⟨by rw [holds_all h11 h26 h37 h76], H.below⟩
    replace h37 := beqF h37
    refine wp_skip ?_
    refine hK2 _ _ ?_; clear hK2
    refine cSeq (fun K10 hK10 => ?_)
    refine cReg ?_
    refine sAs F rfl rfl rfl ?_;clear F a;intro a F
    refine sAs F rfl rfl rfl ?_;clear F a;intro a F
    refine sNil ?_
    refine hK10 _ _ ?_; clear hK10
    refine cSeq (fun K11 hK11 => ?_)
    refine cSeq (fun K12 hK12 => ?_)
    refine cReg ?_
    refine sAs F rfl rfl rfl ?_;clear F a;intro a F
    refine sNil ?_
    refine hK12 _ _ ?_; clear hK12
    refine wp_block ?_
    refine cLoopR [2, 3] (fun m ups w => ∃ (j : Nat), m = kids.length - j ∧ ups = [(5, .bool ((kids.take j).all (holdsH f h))), (6, .bool ((kids.take j).any (holdsH f h))), (7, .int .i64 ((j : Nat) : Int))] ∧ j ≤ kids.length ∧ Own w0 none w [.blk b3 (bs 38 f) 34, .blk b2 [Go.Proofs.YtfcidfljidkcaaaDoor.b8 k, Go.Proofs.YtfcidfljidkcaaaDoor.b8 t, Go.Proofs.YtfcidfljidkcaaaDoor.b8 n, Go.Proofs.YtfcidfljidkcaaaDoor.b8 v, .slice A kids.length C] 27]) F (kids.length) [(5, .bool true), (6, .bool false), (7, .int .i64 ((0 : Nat) : Int))] (by repeat (first | exact SubR.nil | (apply SubR.cons; · rfl))) ?_ ?_ ?_
    · exact ⟨0, rfl, rfl, Nat.zero_le _, H.sel [0, 1] rfl rfl⟩
    · repeat (first | exact trivial | refine Le.cons rfl ?_)
    clear F
    clear H
    intro m ups a w hI F
    obtain ⟨j, rfl, rfl, hj, H⟩ := hI
    refine cSeq (fun K13 hK13 => ?_)
    refine cSeq (fun K14 hK14 => ?_)
    refine cReg ?_
    refine sMv F rfl rfl rfl ?_;clear F a;intro a F
    refine sFa (f := 4) (k := 4) Tryd.underlying27 rfl Tryd.sizeOf25 rfl rfl F rfl rfl rfl ?_;clear F a;intro a F
    refine sLd Tryd.isAgg25 F rfl rfl rfl (H.cell 1 rfl rfl) ?_;clear F a;intro a F
    refine sLen Tryd.underlying25 F rfl rfl rfl ?_;clear F a;intro a F
    refine sBin F rfl rfl rfl rfl bLss ?_;clear F a;intro a F
    refine sNil ?_
    refine hK14 _ _ ?_; clear hK14
    refine cIf F rfl (fun h56 => ?_) (fun h56 => ?_)
    ·
     replace h56 := of_decide_eq_true h56
     have hjl : j < kids.length := by omega
     obtain ⟨kid, hx⟩ : ∃ x, kids[j]? = some x := ⟨_, List.getElem?_eq_getElem hjl⟩
     obtain ⟨b', off', cs', rfl, hR', hC'⟩ := hK j kid hx
     obtain ⟨k0, t0, n0, v0, A0, m0, C0, rfl⟩ := condShape hC'
     refine wp_skip ?_
     refine hK13 _ _ ?_; clear hK13
     refine cSeq (fun K15 hK15 => ?_)
     refine wp_block ?_
     refine cSeq (fun K16 hK16 => ?_)
     refine cRegRO (by kernel_rfl) H ?_
     replace H := H.drew
     refine eTakeF (k := 0) (i := 0) rfl (by kernel_rfl) F rfl rfl rfl (fun w => rFa (f := 4) (k := 4) Tryd.underlying27 rfl Tryd.sizeOf25 rfl rfl F rfl) (H.sel [0, 1] rfl rfl) (fun _ _ _ h => h) ?_;clear F a;intro a F
     refine eTake (k := 1) (i := 1) rfl (by kernel_rfl) F rfl rfl rfl rfl (fun w H => rLd Tryd.isAgg25 F rfl (H.cell 1 rfl rfl)) (H.sel [0, 1] rfl rfl) (fun _ _ _ h => h) ?_;clear F a;intro a F
     refine eTakeF (k := 2) (i := 2) rfl (by kernel_rfl) F rfl rfl rfl (fun w => rMv F rfl) (H.sel [0, 1] rfl rfl) (fun _ _ _ h => h) ?_;clear F a;intro a F
     refine eTakeF (k := 3) (i := 3) rfl (by kernel_rfl) F rfl rfl rfl (fun w => rIx Tryd.underlying25 Tryd.sizeOf27 F rfl rfl ?_) (H.sel [0, 1] rfl rfl) (fun _ _ _ h => h) ?_
     focus omega
     clear F a; intro a F
     refine eTake (k := 4) (i := 4) rfl (by kernel_rfl) F rfl rfl rfl rfl (fun w H => rLr Tryd.underlying27 rfl ?si F rfl (H.argR hR')) (H.sel [0, 1] rfl rfl) (fun _ _ _ h => h) ?_
     case si => exact info_size Tryd.sizeOf27
     clear F a; intro a F
     refine eTake (k := 5) (i := 5) rfl (by kernel_rfl) F rfl rfl rfl rfl (fun w H => rLrB Tryd.underlying34 rfl Tryd.sizeOf34 F rfl (H.whole 0 rfl)) (H.sel [0, 1] rfl rfl) (fun _ _ _ h => h) ?_;clear F a;intro a F
     refine eOne (k := 6) (i := 6) rfl (by kernel_rfl) F rfl (oCall Tryd.call11 F rfl rfl (ih _ kid _ (CondAt.grown H.grown rfl _ _ _ hC')) ?_)
     rintro e w ⟨rfl, hb⟩
     replace H := H.grow hb; clear hb
     refine ⟨_, rfl, ?_⟩
     clear F a; intro a F
     refine ePartO (by kernel_rfl) H ?_
     refine eTakeF (k := 7) (i := 7) rfl (by kernel_rfl) F rfl rfl rfl (fun w => rAs F rfl) (H.sel [0, 1] rfl rfl) (fun _ _ _ h => h) ?_;clear F a;intro a F
     refine eNil (k := 8) (by kernel_rfl) ?_
     refine hK16 _ _ ?_; clear hK16
     refine cSeq (fun K17 hK17 => ?_)
     refine cReg ?_
     refine sMv F rfl rfl rfl ?_;clear F a;intro a F
     refine sMv F rfl rfl rfl ?_;clear F a;intro a F
     refine F.split 67 rfl ?_ ?_ <;> (clear F; intro h67 F)
     ·
      refine sMv F rfl rfl rfl ?_;clear F a;intro a F
      refine sPk F rfl rfl rfl rfl ?_;clear F a;intro a F
      refine sAs F rfl rfl rfl ?_;clear F a;intro a F
      refine sNil ?_
      refine hK17 _ _ ?_; clear hK17
      refine cReg ?_
      refine sMv F rfl rfl rfl ?_;clear F a;intro a F
      refine sMv F rfl rfl rfl ?_;clear F a;intro a F
      refine F.split 71 rfl ?_ ?_ <;> (clear F; intro h71 F)
      ·
       refine sSk F rfl rfl ?_;clear F a;intro a F
       refine sPk F rfl rfl rfl rfl ?_;clear F a;intro a F
       refine sAs F rfl rfl rfl ?_;clear F a;intro a F
       refine sNil ?_
       refine hK15 _ _ ?_; clear hK15
       refine cReg ?_
       refine sMv F rfl rfl rfl ?_;clear F a;intro a F
       refine sBin F rfl rfl rfl rfl (bAddN (j := 1) ?_) ?_
       focus omega
       clear F a; intro a F
       refine sAs F rfl rfl rfl ?_;clear F a;intro a F
       refine sNil ?_
       have e5 := take_all (p := holdsH f h) hx
       have e6 := take_any (p := holdsH f h) hx
       simp only [h67, h71, Bool.true_and, Bool.false_and, Bool.true_or, Bool.false_or] at e5 e6
       exact ⟨_, by omega, _, ⟨j + 1, rfl, by rw [e5, e6], hjl, H.sel [0, 1] rfl rfl⟩, F.to (by repeat (first | exact trivial | refine Le.cons rfl ?_))⟩
      refine sMv F rfl rfl rfl ?_;clear F a;intro a F
      refine sPk F rfl rfl rfl rfl ?_;clear F a;intro a F
      refine sAs F rfl rfl rfl ?_;clear F a;intro a F
      refine sNil ?_
      refine hK15 _ _ ?_; clear hK15
      refine cReg ?_
      refine sMv F rfl rfl rfl ?_;clear F a;intro a F
      refine sBin F rfl rfl rfl rfl (bAddN (j := 1) ?_) ?_
      focus omega
      clear F a; intro a F
      refine sAs F rfl rfl rfl ?_;clear F a;intro a F
      refine sNil ?_
      have e5 := take_all (p := holdsH f h) hx
      have e6 := take_any (p := holdsH f h) hx
      simp only [h67, h71, Bool.true_and, Bool.false_and, Bool.true_or, Bool.false_or] at e5 e6
      exact ⟨_, by omega, _, ⟨j + 1, rfl, by rw [e5, e6], hjl, H.sel [0, 1] rfl rfl⟩, F.to (by repeat (first | exact trivial | refine Le.cons rfl ?_))⟩
     refine sSk F rfl rfl ?_;clear F a;intro a F
     refine sPk F rfl rfl rfl rfl ?_;clear F a;intro a F
     refine sAs F rfl rfl rfl ?_;clear F a;intro a F
     refine sNil ?_
     refine hK17 _ _ ?_; clear hK17
     refine cReg ?_
     refine sMv F rfl rfl rfl ?_;clear F a;intro a F
     refine sMv F rfl rfl rfl ?_;clear F a;intro a F
     refine F.split 71 rfl ?_ ?_ <;> (clear F; intro h71 F)
     ·
      refine sSk F rfl rfl ?_;clear F a;intro a F
      refine sPk F rfl rfl rfl rfl ?_;clear F a;intro a F
      refine sAs F rfl rfl rfl ?_;clear F a;intro a F
      refine sNil ?_
      refine hK15 _ _ ?_; clear hK15
      refine cReg ?_
      refine sMv F rfl rfl rfl ?_;clear F a;intro a F
      refine sBin F rfl rfl rfl rfl (bAddN (j := 1) ?_) ?_
      focus omega
      clear F a; intro a F
      refine sAs F rfl rfl rfl ?_;clear F a;intro a F
      refine sNil ?_
      have e5 := take_all (p := holdsH f h) hx
      have e6 := take_any (p := holdsH f h) hx
      simp only [h67, h71, Bool.true_and, Bool.false_and, Bool.true_or, Bool.false_or] at e5 e6
      exact ⟨_, by omega, _, ⟨j + 1, rfl, by rw [e5, e6], hjl, H.sel [0, 1] rfl rfl⟩, F.to (by repeat (first | exact trivial | refine Le.cons rfl ?_))⟩
     refine sMv F rfl rfl rfl ?_;clear F a;intro a F
     refine sPk F rfl rfl rfl rfl ?_;clear F a;intro a F
     refine sAs F rfl rfl rfl ?_;clear F a;intro a F
     refine sNil ?_
     refine hK15 _ _ ?_; clear hK15
     refine cReg ?_
     refine sMv F rfl rfl rfl ?_;clear F a;intro a F
     refine sBin F rfl rfl rfl rfl (bAddN (j := 1) ?_) ?_
     focus omega
     clear F a; intro a F
     refine sAs F rfl rfl rfl ?_;clear F a;intro a F
     refine sNil ?_
     have e5 := take_all (p := holdsH f h) hx
     have e6 := take_any (p := holdsH f h) hx
     simp only [h67, h71, Bool.true_and, Bool.false_and, Bool.true_or, Bool.false_or] at e5 e6
     exact ⟨_, by omega, _, ⟨j + 1, rfl, by rw [e5, e6], hjl, H.sel [0, 1] rfl rfl⟩, F.to (by repeat (first | exact trivial | refine Le.cons rfl ?_))⟩
    replace h56 := of_decide_eq_false h56
    obtain rfl : j = kids.length := by omega
    rw [List.take_length] at F
    refine wp_exit ?_
    refine hK11 _ _ ?_; clear hK11
    refine cSeq (fun K18 hK18 => ?_)
    refine cSeq (fun K19 hK19 => ?_)
    refine cReg ?_
    refine sFa (f := 0) (k := 0) Tryd.underlying27 rfl Tryd.sizeOf5 rfl rfl F rfl rfl rfl ?_;clear F a;intro a F
    refine sLd Tryd.isAgg5 F rfl rfl rfl (H.cell 1 rfl rfl) ?_;clear F a;intro a F
    refine sBin F rfl rfl rfl rfl (bEqlB (y := 4)) ?_;clear F a;intro a F
    refine sNil ?_
    refine hK19 _ _ ?_; clear hK19
    refine cIf F rfl (fun h76 => ?_) (fun h76 => ?_)
    ·
     replace h76 := beqT h76
     refine cSeq (fun K20 hK20 => ?_)
     refine cReg ?_
     refine sMv F rfl rfl rfl ?_;clear F a;intro a F
     refine sAs F rfl rfl rfl ?_;clear F a;intro a F
     refine sNil ?_
     refine hK20 _ _ ?_; clear hK20
     refine wp_ret ?_
     simp only [Exit.then]
     refine bRet Tryd.results11 F rfl ?_
     first
     | exact ⟨by rw [holds_reg h11, m4, m8], H.below⟩
     | exact ⟨by rw [holds_loc h26, m6], H.below⟩
     | exact ⟨by rw [holds_not1 h37 hk0], H.below⟩
     | exact ⟨by rw [holds_not0 h37 h43], H.below⟩
     | exact ⟨by rw [holds_or h76], H.below⟩
     | exact ⟨by rw [holds_all h11 h26 h37 h76], H.below⟩
    replace h76 := beqF h76
    refine wp_skip ?_
    refine hK18 _ _ ?_; clear hK18
    refine cSeq (fun K21 hK21 => ?_)
    refine cReg ?_
    refine sMv F rfl rfl rfl ?_;clear F a;intro a F
    refine sAs F rfl rfl rfl ?_;clear F a;intro a F
    refine sNil ?_
    refine hK21 _ _ ?_; clear hK21
    refine wp_ret ?_
    refine bRet Tryd.results11 F rfl ?_
    first
    | exact ⟨by rw [holds_reg h11, m4, m8], H.below⟩
    | exact ⟨by rw [holds_loc h26, m6], H.below⟩
    | exact ⟨by rw [holds_not1 h37 hk0], H.below⟩
    | exact ⟨by rw [holds_not0 h37 h43], H.below⟩
    | exact ⟨by rw [holds_or h76], H.below⟩
    | exact ⟨by rw [holds_all h11 h26 h37 h76], H.below⟩
end Go.Proofs.YtfcidfljidkcaaaDoor
