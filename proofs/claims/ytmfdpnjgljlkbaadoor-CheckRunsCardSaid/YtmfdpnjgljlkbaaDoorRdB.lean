/-
  WALK2. The reference's Deep. Conditions: the condition lies in memory, and its depth is a number that an int holds.
-/
import Derived.Test.YtmfdpnjgljlkbaaDoorVcX
import Derived.Test.YtmfdpnjgljlkbaaDoorDpC
import Derived.Test.YtmfdpnjgljlkbaaDoorCkK
set_option linter.unusedSimpArgs false
set_option linter.unusedVariables false
namespace Go.Proofs.YtmfdpnjgljlkbaaDoor
open Go.RowKit
set_option maxRecDepth 100000

set_option maxHeartbeats 1000000 in
/-- The depth, where it is no number that an int cannot hold. -/
theorem rdeep_any (h : Nat) : ∀ (cs : List Value) (c : Cnd) (w0 : World), CondAt w0 h cs c → deepC c ≤ 9223372036854775807 →
    Calls Tryd.prog 36 #[.agg cs.toArray] w0 fun e w' => e = .returned (.int .i64 ((deepC c : Nat) : Int)) ∧ Below w0.heap.size w0 w' := by
  induction h with
  | zero => intro cs c w0 hC; exact hC.elim
  | succ h ih =>
    intro cs c w0 hC hd
    obtain ⟨k, t, n, v, kids⟩ := c
    obtain ⟨A, C, rfl, hkl, hK⟩ := hC
    rw [deepC] at hd
    have H := Own.start w0 none
    refine enterF Tryd.func36 rfl Tryd.ntmps36 rfl (fun a F => ?_)
    refine cSeq (fun K1 hK1 => ?_)
    refine cReg ?_
    refine sBx H F rfl rfl rfl ?_
    clear F a H; intro b1 a w F H
    refine sAs F rfl rfl rfl ?_;clear F a;intro a F
    refine sNil ?_
    refine hK1 _ _ ?_; clear hK1
    refine cSeq (fun K2 hK2 => ?_)
    refine cReg ?_
    refine sAs F rfl rfl rfl ?_;clear F a;intro a F
    refine sNil ?_
    refine hK2 _ _ ?_; clear hK2
    refine cSeq (fun K3 hK3 => ?_)
    refine cSeq (fun K4 hK4 => ?_)
    refine cReg ?_
    refine sAs F rfl rfl rfl ?_;clear F a;intro a F
    refine sNil ?_
    refine hK4 _ _ ?_; clear hK4
    refine wp_block ?_
    refine cLoopR [1] (fun m ups w => ∃ j d : Nat, m = kids.length - j ∧ ups = [(3, .int .i64 ((d : Nat) : Int)), (4, .int .i64 ((j : Nat) : Int))] ∧ j ≤ kids.length ∧ max d (deepL (kids.drop j)) = deepL kids ∧ Own w0 none w [.blk b1 [Go.Proofs.YtmfdpnjgljlkbaaDoor.b8 k, Go.Proofs.YtmfdpnjgljlkbaaDoor.b8 t, Go.Proofs.YtmfdpnjgljlkbaaDoor.b8 n, Go.Proofs.YtmfdpnjgljlkbaaDoor.b8 v, .slice A kids.length C] 25]) F (kids.length) [(3, .int .i64 ((0 : Nat) : Int)), (4, .int .i64 ((0 : Nat) : Int))] (by repeat (first | exact SubR.nil | (apply SubR.cons; · rfl))) ?_ ?_ ?_
    · exact ⟨0, 0, rfl, rfl, by omega, by simp, H⟩
    · repeat (first | exact trivial | refine Le.cons rfl ?_)
    clear F
    clear H
    intro m ups a w hI F
    obtain ⟨j, d, rfl, rfl, hj, ht, H⟩ := hI
    refine cSeq (fun K5 hK5 => ?_)
    refine cSeq (fun K6 hK6 => ?_)
    refine cReg ?_
    refine sMv F rfl rfl rfl ?_;clear F a;intro a F
    refine sFa (f := 4) (k := 4) Tryd.underlying25 rfl Tryd.sizeOf23 rfl rfl F rfl rfl rfl ?_;clear F a;intro a F
    refine sLd Tryd.isAgg23 F rfl rfl rfl (H.cell 0 rfl rfl) ?_;clear F a;intro a F
    refine sLen Tryd.underlying23 F rfl rfl rfl ?_;clear F a;intro a F
    refine sBin F rfl rfl rfl rfl bLss ?_;clear F a;intro a F
    refine sNil ?_
    refine hK6 _ _ ?_; clear hK6
    refine cIf F rfl (fun h9 => ?_) (fun h9 => ?_)
    ·
     replace h9 := of_decide_eq_true h9
     have hjl : j < kids.length := by omega
     obtain ⟨kid, hx⟩ : ∃ x, kids[j]? = some x := ⟨_, List.getElem?_eq_getElem hjl⟩
     have hdr : kids.drop j = kid :: kids.drop (j + 1) := by
       obtain ⟨_, rfl⟩ := List.getElem?_eq_some_iff.1 hx
       exact List.drop_eq_getElem_cons hjl
     rw [hdr, deepL] at ht
     obtain ⟨b', off', cs', rfl, hR', hC'⟩ := hK j kid hx
     obtain ⟨k0, k1, k2, k3, k4, rfl⟩ := len5 (condAt_len hC')
     refine wp_skip ?_
     refine hK5 _ _ ?_; clear hK5
     refine cSeq (fun K7 hK7 => ?_)
     refine wp_block ?_
     refine cReg ?_
     refine sMv F rfl rfl rfl ?_;clear F a;intro a F
     refine sFa (f := 4) (k := 4) Tryd.underlying25 rfl Tryd.sizeOf23 rfl rfl F rfl rfl rfl ?_;clear F a;intro a F
     refine sLd Tryd.isAgg23 F rfl rfl rfl (H.cell 0 rfl rfl) ?_;clear F a;intro a F
     refine sMv F rfl rfl rfl ?_;clear F a;intro a F
     refine sIx Tryd.underlying23 Tryd.sizeOf25 F rfl rfl rfl rfl ?_ ?_
     focus (first | omega | decide | (simp; omega))
     clear F a; intro a F
     refine sLr Tryd.underlying25 rfl ?si F rfl rfl rfl (H.argR hR') ?_
     case si => exact info_size Tryd.sizeOf25
     clear F a; intro a F
     refine sCall Tryd.call36 F rfl rfl rfl (ih _ kid _ (CondAt.grown H.grown rfl _ _ _ hC') (by omega)) ?_
     rintro e w ⟨rfl, hb⟩
     replace H := H.grow hb; clear hb
     refine ⟨_, rfl, ?_⟩
     clear F a; intro a F
     refine sMaxN F rfl rfl rfl rfl ?_;clear F a;intro a F
     refine sAs F rfl rfl rfl ?_;clear F a;intro a F
     refine sNil ?_
     refine hK7 _ _ ?_; clear hK7
     refine cReg ?_
     refine sMv F rfl rfl rfl ?_;clear F a;intro a F
     refine sBin F rfl rfl rfl rfl (bAddN (j := 1) ?_) ?_
     focus omega
     clear F a; intro a F
     refine sAs F rfl rfl rfl ?_;clear F a;intro a F
     refine sNil ?_
     exact ⟨_, by omega, _, ⟨j + 1, max d (deepC kid), rfl, rfl, by omega, by rw [← ht, Nat.max_assoc], H⟩, F.to (by repeat (first | exact trivial | refine Le.cons rfl ?_))⟩
    replace h9 := of_decide_eq_false h9
    rw [List.drop_eq_nil_of_le (by omega)] at ht
    have hd2 : d = deepL kids := by rw [← ht]; simp [deepL]
    subst hd2
    refine wp_exit ?_
    refine hK3 _ _ ?_; clear hK3
    refine cSeq (fun K8 hK8 => ?_)
    refine cReg ?_
    refine sMv F rfl rfl rfl ?_;clear F a;intro a F
    refine sBin F rfl rfl rfl rfl (bAddN (j := 1) ?_) ?_
    focus omega
    clear F a; intro a F
    refine sAs F rfl rfl rfl ?_;clear F a;intro a F
    refine sNil ?_
    refine hK8 _ _ ?_; clear hK8
    refine wp_ret ?_
    refine bRet Tryd.results36 F rfl ?_
    exact ⟨rfl, H.below⟩
end Go.Proofs.YtmfdpnjgljlkbaaDoor
