/-
  WALK2. Package parse: Deep. Conditions: the condition lies in memory.
-/
import Derived.Test.YtbdjlmdejlklkaaPrQ
set_option linter.unusedSimpArgs false
set_option linter.unusedVariables false
namespace Go.Proofs.Ytbdjlmdejlklkaa
open Go.RowKit
set_option maxRecDepth 100000
set_option maxHeartbeats 2000000 in
/-- The depth, where it is no number that an int cannot hold. -/
theorem pdeep_any (h : Nat) : ∀ (cs : List Value) (c : Cnd) (w0 : World), CondAt w0 h cs c → depC c ≤ 9223372036854775807 →
    Calls Try.prog 9 #[.agg cs.toArray] w0 fun e w' => e = .returned (.int .i64 ((depC c : Nat) : Int)) ∧ Below w0.heap.size w0 w' := by
  induction h with
  | zero => intro cs c w0 hC; exact hC.elim
  | succ h ih =>
    intro cs c w0 hC hd
    obtain ⟨k, t, n, v, kids⟩ := c
    obtain ⟨A, C, rfl, hkl, hK⟩ := hC
    rw [depC] at hd
    have H := Own.start w0 none
    refine enterF Try.func9 rfl Try.ntmps9 rfl (fun a F => ?_)
    refine cSeq (fun K1 hK1 => ?_)
    refine cReg ?_
    refine sBx H F rfl rfl rfl ?_
    clear F a H; intro b1 a w F H
    refine sAs F rfl rfl rfl ?_;clear F a;intro a F
    refine sNil ?_
    refine hK1 _ _ ?_; clear hK1
    refine cSeq (fun K2 hK2 => ?_)
    refine cReg ?_
    refine sAs F rfl rfl rfl ?_;clear F a;intro a F
    refine sNil ?_
    refine hK2 _ _ ?_; clear hK2
    refine cSeq (fun K3 hK3 => ?_)
    refine cSeq (fun K4 hK4 => ?_)
    refine cReg ?_
    refine sFa (f := 4) (k := 4) Try.underlying24 rfl Try.sizeOf22 rfl rfl F rfl rfl rfl ?_;clear F a;intro a F
    refine sLd Try.isAgg22 F rfl rfl rfl (H.cell 0 rfl rfl) ?_;clear F a;intro a F
    refine sLen Try.underlying22 F rfl rfl rfl ?_;clear F a;intro a F
    refine sMv F rfl rfl rfl ?_;clear F a;intro a F
    refine sNil ?_
    refine hK4 _ _ ?_; clear hK4
    refine wp_block ?_
    refine cLoopR [7, 8] (fun m ups w => ∃ j d : Nat, m = kids.length - j ∧ ups = [(3, .int .i64 ((d : Nat) : Int)), (9, .int .i64 ((j : Nat) : Int))] ∧ j ≤ kids.length ∧ max d (depC.depL (kids.drop j)) = depC.depL kids ∧ Own w0 none w [.blk b1 [Go.Proofs.Ytbdjlmdejlklkaa.b8 k, Go.Proofs.Ytbdjlmdejlklkaa.b8 t, Go.Proofs.Ytbdjlmdejlklkaa.b8 n, Go.Proofs.Ytbdjlmdejlklkaa.b8 v, .slice A kids.length C] 24]) F (kids.length) [(3, .int .i64 ((0 : Nat) : Int)), (9, .int .i64 ((0 : Nat) : Int))] (by repeat (first | exact SubR.nil | (apply SubR.cons; · rfl))) ?_ ?_ ?_
    · exact ⟨0, 0, rfl, rfl, by omega, by simp, H⟩
    · repeat (first | exact trivial | refine Le.cons rfl ?_)
    clear F
    clear H
    intro m ups a w hI F
    obtain ⟨j, d, rfl, rfl, hj, ht, H⟩ := hI
    refine cSeq (fun K5 hK5 => ?_)
    refine cReg ?_
    refine sBin F rfl rfl rfl rfl bLss ?_;clear F a;intro a F
    refine sNil ?_
    refine hK5 _ _ ?_; clear hK5
    refine cSeq (fun K6 hK6 => ?_)
    refine cIf F rfl (fun h10 => ?_) (fun h10 => ?_)
    ·
     replace h10 := of_decide_eq_true h10
     have hjl : j < kids.length := by omega
     obtain ⟨kid, hx⟩ : ∃ x, kids[j]? = some x := ⟨_, List.getElem?_eq_getElem hjl⟩
     have hdr : kids.drop j = kid :: kids.drop (j + 1) := by
       obtain ⟨_, rfl⟩ := List.getElem?_eq_some_iff.1 hx
       exact List.drop_eq_getElem_cons hjl
     rw [hdr, depC.depL] at ht
     obtain ⟨b', off', cs', rfl, hR', hC'⟩ := hK j kid hx
     obtain ⟨k0, k1, k2, k3, A0, m0, C0, rfl⟩ := condShape hC'
     refine wp_skip ?_
     refine hK6 _ _ ?_; clear hK6
     refine cSeq (fun K7 hK7 => ?_)
     refine wp_block ?_
     refine cSeq (fun K8 hK8 => ?_)
     refine cReg ?_
     refine sIx Try.underlying22 Try.sizeOf24 F rfl rfl rfl rfl ?_ ?_
     focus (first | omega | decide | (simp; omega))
     clear F a; intro a F
     refine sLr Try.underlying24 rfl ?si F rfl rfl rfl (H.argR hR') ?_
     case si => exact info_size Try.sizeOf24
     clear F a; intro a F
     refine sAl H Try.zeroValue24 F rfl rfl ?_
     clear F a H; intro b5 a w F H
     refine sSr H 0 ?si F rfl rfl rfl ?s1 rfl rfl ?_
     case si => exact info_size Try.sizeOf24
     case s1 => first | rfl | (repeat (first | exact one_nil | (apply one_cons; · first | rfl | assumption | exact one_bif rfl rfl)))
     clear H; intro w H
     refine sNil ?_
     refine hK8 _ _ ?_; clear hK8
     refine cReg ?_
     refine sMv F rfl rfl rfl ?_;clear F a;intro a F
     refine sLr Try.underlying24 rfl ?si F rfl rfl rfl (H.whole 0 rfl) ?_
     case si => exact info_size Try.sizeOf24
     clear F a; intro a F
     refine sCall Try.call9 F rfl rfl rfl (ih _ kid _ (CondAt.grown H.grown rfl _ _ _ hC') (by omega)) ?_
     rintro e w ⟨rfl, hb⟩
     replace H := H.grow hb; clear hb
     refine ⟨_, rfl, ?_⟩
     clear F a; intro a F
     refine sMaxN F rfl rfl rfl rfl ?_;clear F a;intro a F
     refine sAs F rfl rfl rfl ?_;clear F a;intro a F
     refine sNil ?_
     refine hK7 _ _ ?_; clear hK7
     refine cReg ?_
     refine sBin F rfl rfl rfl rfl (bAddN (j := 1) ?_) ?_
     focus omega
     clear F a; intro a F
     refine sMv F rfl rfl rfl ?_;clear F a;intro a F
     refine sNil ?_
     exact ⟨_, by omega, _, ⟨j + 1, max d (depC kid), rfl, rfl, by omega, by rw [← ht, Nat.max_assoc], H.tail⟩, F.to (by repeat (first | exact trivial | refine Le.cons rfl ?_))⟩
    replace h10 := of_decide_eq_false h10
    rw [List.drop_eq_nil_of_le (by omega)] at ht
    have hd2 : d = depC.depL kids := by rw [← ht]; simp [depC.depL]
    subst hd2
    refine wp_exit ?_
    refine hK3 _ _ ?_; clear hK3
    refine cSeq (fun K9 hK9 => ?_)
    refine cReg ?_
    refine sMv F rfl rfl rfl ?_;clear F a;intro a F
    refine sBin F rfl rfl rfl rfl (bAddN (j := 1) ?_) ?_
    focus omega
    clear F a; intro a F
    refine sAs F rfl rfl rfl ?_;clear F a;intro a F
    refine sNil ?_
    refine hK9 _ _ ?_; clear hK9
    refine wp_ret ?_
    refine bRet Try.results9 F rfl ?_
    exact ⟨rfl, H.below⟩
end Go.Proofs.Ytbdjlmdejlklkaa
