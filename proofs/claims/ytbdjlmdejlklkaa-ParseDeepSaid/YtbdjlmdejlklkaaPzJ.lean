/-
  WALK2. Chapter 05: ParseDeep answers true. Conditions: the condition lies in memory.
-/
import Derived.Test.YtbdjlmdejlklkaaPzH
import Derived.Test.YtbdjlmdejlklkaaKtD
import Derived.Test.YtbdjlmdejlklkaaRdB
set_option linter.unusedSimpArgs false
set_option linter.unusedVariables false
namespace Go.Proofs.Ytbdjlmdejlklkaa
open Go.RowKit
set_option maxRecDepth 100000
mutual
theorem dep_deep : ∀ c : Cnd, depC c = deepC c
  | .mk _ _ _ _ l => by rw [depC, deepC, depL_deep l]
theorem depL_deep : ∀ l : List Cnd, depC.depL l = deepL l
  | [] => rfl
  | c :: r => by rw [depC.depL, deepL, dep_deep c, depL_deep r]
end
theorem parseDeep_any (h : Nat) (cs : List Value) (c : Cnd) (w0 : World) (hc : CapAt w0 h cs c) : Calls Try.prog 3 #[.agg cs.toArray] w0 fun e w' => e = .returned (.bool true) ∧ Below w0.heap.size w0 w' := by
  have H := Own.start w0 none
  obtain ⟨k, t, n, v, A, m9, C, rfl⟩ := condShape hc.at
  refine enterF Try.func3 rfl Try.ntmps3 rfl (fun a F => ?_)
  refine cSeq (fun K1 hK1 => ?_)
  refine cReg ?_
  refine sBx H F rfl rfl rfl ?_
  clear F a H; intro b1 a w F H
  refine sAs F rfl rfl rfl ?_;clear F a;intro a F
  refine sNil ?_
  refine hK1 _ _ ?_; clear hK1
  refine cSeq (fun K2 hK2 => ?_)
  refine cSeq (fun K3 hK3 => ?_)
  refine cReg ?_
  refine sLr Try.underlying24 rfl ?si F rfl rfl rfl (H.whole 0 rfl) ?_
  case si => exact info_size Try.sizeOf24
  clear F a; intro a F
  refine sCall Try.call7 F rfl rfl rfl (sizeCond_any h 500 _ c _ (hc.own H) (by decide) (by decide)) ?_
  rintro e w ⟨n4, rfl, hle, hsz, hb⟩
  replace H := H.grow hb; clear hb
  refine ⟨_, rfl, ?_⟩
  clear F a; intro a F
  refine sBin F rfl rfl rfl rfl bGeq ?_;clear F a;intro a F
  refine sNil ?_
  refine hK3 _ _ ?_; clear hK3
  refine cIf F rfl (fun h5 => ?_) (fun h5 => ?_)
  ·
   replace h5 := of_decide_eq_true h5
   refine cSeq (fun K4 hK4 => ?_)
   refine cReg ?_
   refine sCall Try.call8 F rfl rfl rfl (awake5_any _) ?_
   rintro e w ⟨rfl, hb⟩
   replace H := H.grow hb; clear hb
   refine ⟨_, rfl, ?_⟩
   clear F a; intro a F
   refine sAs F rfl rfl rfl ?_;clear F a;intro a F
   refine sNil ?_
   refine hK4 _ _ ?_; clear hK4
   refine wp_ret ?_
   simp only [Exit.then]
   refine bRet Try.results3 F rfl ?_
   exact ⟨rfl, H.below⟩
  replace h5 := of_decide_eq_false h5
  have hdd := dep_deep c
  have hds := deep_size c
  have hz := hsz (by omega)
  refine wp_skip ?_
  refine hK2 _ _ ?_; clear hK2
  refine cSeq (fun K5 hK5 => ?_)
  refine cRegRO (by kernel_rfl) H ?_
  replace H := H.drew
  refine eTake (k := 0) (i := 0) rfl (by kernel_rfl) F rfl rfl rfl rfl (fun w H => rLr Try.underlying24 rfl ?si F rfl (H.whole 0 rfl)) H (fun _ _ _ h => h) ?_
  case si => exact info_size Try.sizeOf24
  clear F a; intro a F
  refine eTake (k := 1) (i := 2) rfl (by kernel_rfl) F rfl rfl rfl rfl (fun w H => rLr Try.underlying24 rfl ?si F rfl (H.whole 0 rfl)) H (fun _ _ _ h => h) ?_
  case si => exact info_size Try.sizeOf24
  clear F a; intro a F
  refine eOne (k := 2) (i := 1) rfl (by kernel_rfl) F rfl (oCall Try.call9 F rfl rfl (pdeep_any h _ c _ (CondAt.grown H.grown rfl _ _ _ hc.at) (by omega)) ?_)
  rintro e w ⟨rfl, hb⟩
  replace H := H.grow hb; clear hb
  refine ⟨_, rfl, ?_⟩
  clear F a; intro a F
  refine eKeep H ?_
  refine eOne (k := 3) (i := 3) rfl (by kernel_rfl) F rfl (oCall Try.call10 F rfl rfl (rdeep_any h _ c _ (CondAt.grown H.grown rfl _ _ _ hc.at) (by omega)) ?_)
  rintro e w ⟨rfl, hb⟩
  replace H := H.grow hb; clear hb
  refine ⟨_, rfl, ?_⟩
  clear F a; intro a F
  refine ePartO (by kernel_rfl) H ?_
  refine eTakeF (k := 4) (i := 4) rfl (by kernel_rfl) F rfl rfl rfl (fun w => rBin F rfl rfl bEql) H (fun _ _ _ h => h) ?_;clear F a;intro a F
  refine eTakeF (k := 5) (i := 5) rfl (by kernel_rfl) F rfl rfl rfl (fun w => rMv F rfl) H (fun _ _ _ h => h) ?_;clear F a;intro a F
  refine F.split 12 rfl ?_ ?_ <;> (clear F; intro h12 F)
  ·
   replace h12 := beqT h12
   refine eOne (k := 6) (i := 6) rfl (by kernel_rfl) F rfl (oCall Try.call8 F rfl rfl (awake5_any _) ?_)
   rintro e w ⟨rfl, hb⟩
   replace H := H.grow hb; clear hb
   refine ⟨_, rfl, ?_⟩
   clear F a; intro a F
   refine ePartO (by kernel_rfl) H ?_
   refine eTakeF (k := 7) (i := 7) rfl (by kernel_rfl) F rfl rfl rfl (fun w => rPk F rfl rfl) H (fun _ _ _ h => h) ?_;clear F a;intro a F
   refine eTakeF (k := 8) (i := 8) rfl (by kernel_rfl) F rfl rfl rfl (fun w => rAs F rfl) H (fun _ _ _ h => h) ?_;clear F a;intro a F
   refine eNil (k := 9) (by kernel_rfl) ?_
   refine hK5 _ _ ?_; clear hK5
   refine wp_ret ?_
   refine bRet Try.results3 F rfl ?_
   exact ⟨rfl, H.below⟩
  replace h12 := beqF h12
  exact absurd (by omega) h12
end Go.Proofs.Ytbdjlmdejlklkaa
