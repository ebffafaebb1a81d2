/-
  WALK2. The law of chapter 07: awake. Conditions: block 0 holds the table of needs.
-/
import Derived.Test.YtmfdpnjgljlkbaaDoorLfA
set_option linter.unusedSimpArgs false
set_option linter.unusedVariables false
namespace Go.Proofs.YtmfdpnjgljlkbaaDoor
open Go.RowKit
set_option maxRecDepth 100000

def l0 : List Ins := [storeI 1]
def l1 : List Ins := [skipI 1 false 1 4 1, storeI 1, storeI 2]
def l2 : List Ins := [skipI 1 false 1 4 2, storeI 1]
def l3 : List Ins := [skipI 2 true 0 4 0, skipI 1 false 1 4 1, storeI 1, storeI 2]
theorem hvP_of {l : List Ins} (h : (List.range l.length).all (fun i => match l[i]? with | some x => x.op != 8 || (decide (1 ≤ x.skip.toNat) && decide (i + 1 + x.skip.toNat ≤ l.length)) | none => true) = true) : hvP l := fun i x hx ho => by
  have hi := (List.getElem?_eq_some_iff.1 hx).1
  have := List.all_eq_true.1 h i (List.mem_range.2 hi)
  rw [hx] at this
  simp [ho] at this
  exact this
theorem pre_of {l : List Ins} (h1 : l.length ≤ 12) (h2 : hvP l) : FoldPre (progP7 l) := ⟨(show 1 ≤ 4 by decide), (show 1 ≤ 1099511627776 by decide), fun t ht => by
  obtain rfl : t = l := by simpa [progP7] using ht
  exact ⟨h1, h2⟩⟩
theorem slim_prog (l : List Ins) : Slim 1 (progP7 l).cond := ⟨(show 0 ≤ 4398046510976 by decide), fun _ h => by cases h⟩
theorem r0 : rightErr (progP7 l0) = 0 := by kernel_rfl
theorem r1 : rightErr (progP7 l1) = 0 := by kernel_rfl
theorem r2 : rightErr (progP7 l2) = 0 := by kernel_rfl
theorem r3 : rightErr (progP7 l3) = 0 := by kernel_rfl
theorem f1 : foldP l1 = [storeI 2] := by kernel_rfl
theorem f2 : foldP l2 = [storeI 1] := by kernel_rfl
theorem f3 : foldP l3 = [storeI 2] := by kernel_rfl
theorem hone (l : List Ins) : ∀ r ∈ l.map Ins.cells, r.length = 10 := fun r hr => by
  obtain ⟨x, _, rfl⟩ := List.mem_map.1 hr; rfl
set_option maxHeartbeats 16000000 in
theorem awake7_any (w0 : World) (hN : NeedsAt w0) : Calls Tryd.prog 8 #[] w0 fun e w' => e = .returned (.bool true) ∧ Below w0.heap.size w0 w' := by
  have H := Own.start w0 none
  refine enterF Tryd.func8 rfl Tryd.ntmps8 rfl (fun a F => ?_)
  refine cSeq (fun K1 hK1 => ?_)
  refine cReg ?_
  refine sAs F rfl rfl rfl ?_;clear F a;intro a F
  refine sNil ?_
  refine hK1 _ _ ?_; clear hK1
  refine cSeq (fun K2 hK2 => ?_)
  refine cReg ?_
  refine sBd (places := [(0, 1), (1, 1)]) Tryd.zeroValue48 Tryd.underlying48 (by kernel_rfl) F rfl rfl rfl rfl ?_;clear F a;intro a F
  refine sBd (places := [(0, 1), (1, 1)]) Tryd.zeroValue48 Tryd.underlying48 (by kernel_rfl) F rfl rfl rfl rfl ?_;clear F a;intro a F
  refine sAl H Tryd.zeroValue48 F rfl rfl ?_
  clear F a H; intro b1 a w F H
  refine sAl H Tryd.zeroValue48 F rfl rfl ?_
  clear F a H; intro b2 a w F H
  refine sSr H 1 ?si F rfl rfl rfl ?s1 rfl rfl ?_
  case si => exact info_size Tryd.sizeOf48
  case s1 => first | rfl | (repeat (first | exact one_nil | (apply one_cons; · first | rfl | assumption | exact one_bif rfl rfl)))
  clear H; intro w H
  refine sSr H 0 ?si F rfl rfl rfl ?s1 rfl rfl ?_
  case si => exact info_size Tryd.sizeOf48
  case s1 => first | rfl | (repeat (first | exact one_nil | (apply one_cons; · first | rfl | assumption | exact one_bif rfl rfl)))
  clear H; intro w H
  refine sNil ?_
  refine hK2 _ _ ?_; clear hK2
  refine cSeq (fun K3 hK3 => ?_)
  refine cRegRO (by kernel_rfl) H ?_
  replace H := H.drew
  refine eOne (k := 0) (i := 0) rfl (by kernel_rfl) F rfl (oCall Tryd.call29 F rfl rfl (store_any 1 _) ?_)
  rintro e w ⟨rfl, hb⟩
  replace H := H.grow hb; clear hb
  refine ⟨_, rfl, ?_⟩
  clear F a; intro a F
  refine ePartO (by kernel_rfl) H ?_
  refine eOne (k := 1) (i := 1) rfl (by kernel_rfl) F rfl (oBsA H Tryd.underlying22 Tryd.sizeOf50 Tryd.zeroValue50 rfl F rfl rfl rfl rfl ?_)
  clear F a H; intro b6 a w F H
  refine ePartO (by kernel_rfl) H ?_
  refine eOne (k := 2) (i := 2) rfl (by kernel_rfl) F rfl (oCall Tryd.call28 F rfl rfl (prog_any _ 1 1 _) ?_)
  rintro e w ⟨x3, x4, x6, rfl, H2⟩
  replace H := H.join H2; clear H2
  refine ⟨_, rfl, ?_⟩
  clear F a; intro a F
  refine ePartO (by kernel_rfl) H ?_
  refine eOne (k := 3) (i := 3) rfl (by kernel_rfl) F rfl (oCall Tryd.call17 F rfl rfl (right_any' _ (progP7 l0) _ ⟨_, _, _, _, _, _, _, _, pr_prog (l := l0) (H.sel [0, 1, 2] rfl rfl) (RowsAt.ofRange (sz := 10) (rows := l0.map Ins.cells) (H.whole 3 rfl) (hone _)) (by decide)⟩ (hN.own H)) ?_)
  rintro e w ⟨rfl, hb⟩
  replace H := H.grow hb; clear hb
  refine ⟨_, rfl, ?_⟩
  clear F a; intro a F
  refine ePartO (by kernel_rfl) H ?_
  refine eTakeF (k := 4) (i := 4) rfl (by kernel_rfl) F rfl rfl rfl (fun w => rBin F rfl rfl bEql) H (fun _ _ _ h => h) ?_;clear F a;intro a F
  refine eTakeF (k := 5) (i := 5) rfl (by kernel_rfl) F rfl rfl rfl (fun w => rMv F rfl) H (fun _ _ _ h => h) ?_;clear F a;intro a F
  refine F.split 10 rfl ?_ ?_ <;> (clear F; intro h10 F)
  ·
   replace h10 := beqT h10
   refine eTake (k := 6) (i := 6) rfl (by kernel_rfl) F rfl rfl rfl rfl (fun w H => rLr Tryd.underlying48 rfl ?si F rfl (H.whole 5 rfl)) H (fun _ _ _ h => h) ?_
   case si => exact info_size Tryd.sizeOf48
   clear F a; intro a F
   refine eOne (k := 7) (i := 7) rfl (by kernel_rfl) F rfl (oCall Tryd.call31 F rfl rfl (skip_any 1 false 1 4 1 _) ?_)
   rintro e w ⟨rfl, hb⟩
   replace H := H.grow hb; clear hb
   refine ⟨_, rfl, ?_⟩
   clear F a; intro a F
   refine ePartO (by kernel_rfl) H ?_
   refine eOne (k := 8) (i := 8) rfl (by kernel_rfl) F rfl (oCall Tryd.call29 F rfl rfl (store_any 1 _) ?_)
   rintro e w ⟨rfl, hb⟩
   replace H := H.grow hb; clear hb
   refine ⟨_, rfl, ?_⟩
   clear F a; intro a F
   refine ePartO (by kernel_rfl) H ?_
   refine eOne (k := 9) (i := 9) rfl (by kernel_rfl) F rfl (oCall Tryd.call29 F rfl rfl (store_any 2 _) ?_)
   rintro e w ⟨rfl, hb⟩
   replace H := H.grow hb; clear hb
   refine ⟨_, rfl, ?_⟩
   clear F a; intro a F
   refine ePartO (by kernel_rfl) H ?_
   refine eOne (k := 10) (i := 10) rfl (by kernel_rfl) F rfl (oBsR (rows := [(skipI 1 false 1 4 1).cells, (storeI 1).cells, (storeI 2).cells]) H Tryd.underlying22 Tryd.sizeOf50 Tryd.zeroValue50 rfl F rfl rfl rfl rfl ?_)
   clear F a H; intro b15 a w F H
   refine ePartO (by kernel_rfl) H ?_
   refine eOne (k := 11) (i := 11) rfl (by kernel_rfl) F rfl (oCall Tryd.call28 F rfl rfl (prog_any _ 3 3 _) ?_)
   rintro e w ⟨y3, y4, y6, rfl, H2⟩
   replace H := H.join H2; clear H2
   refine ⟨_, rfl, ?_⟩
   clear F a; intro a F
   refine ePartO (by kernel_rfl) H ?_
   refine eOne (k := 12) (i := 12) rfl (by kernel_rfl) F rfl (oCall Tryd.call29 F rfl rfl (store_any 2 _) ?_)
   rintro e w ⟨rfl, hb⟩
   replace H := H.grow hb; clear hb
   refine ⟨_, rfl, ?_⟩
   clear F a; intro a F
   refine ePartO (by kernel_rfl) H ?_
   refine eOne (k := 13) (i := 13) rfl (by kernel_rfl) F rfl (oCall Tryd.call30 F rfl rfl (folded_any _ (progP7 l1) l1 (storeI 2) _ _ _ _ _ _ 1 _ _ (pr_prog (l := l1) (H.sel [0, 1, 2] rfl rfl) (RowsAt.ofRange (sz := 10) (rows := l1.map Ins.cells) (H.whole 3 rfl) (hone _)) (by decide)) (hN.own H) (slim_prog _) (show 1 ≤ 1099511627776 by decide) r1 (pre_of (by decide) (hvP_of (by decide))) rfl f1) ?_)
   rintro e w ⟨rfl, hb⟩
   replace H := H.grow hb; clear hb
   refine ⟨_, rfl, ?_⟩
   clear F a; intro a F
   refine ePartO (by kernel_rfl) H ?_
   refine eTakeF (k := 14) (i := 14) rfl (by kernel_rfl) F rfl rfl rfl (fun w => rPk F rfl rfl) H (fun _ _ _ h => h) ?_;clear F a;intro a F
   refine eTakeF (k := 15) (i := 15) rfl (by kernel_rfl) F rfl rfl rfl (fun w => rMv F rfl) H (fun _ _ _ h => h) ?_;clear F a;intro a F
   refine F.split 20 rfl ?_ ?_ <;> (clear F; intro h20 F)
   ·
    refine eTake (k := 16) (i := 16) rfl (by kernel_rfl) F rfl rfl rfl rfl (fun w H => rLr Tryd.underlying48 rfl ?si F rfl (H.whole 9 rfl)) H (fun _ _ _ h => h) ?_
    case si => exact info_size Tryd.sizeOf48
    clear F a; intro a F
    refine eOne (k := 17) (i := 17) rfl (by kernel_rfl) F rfl (oCall Tryd.call31 F rfl rfl (skip_any 1 false 1 4 2 _) ?_)
    rintro e w ⟨rfl, hb⟩
    replace H := H.grow hb; clear hb
    refine ⟨_, rfl, ?_⟩
    clear F a; intro a F
    refine ePartO (by kernel_rfl) H ?_
    refine eOne (k := 18) (i := 18) rfl (by kernel_rfl) F rfl (oCall Tryd.call29 F rfl rfl (store_any 1 _) ?_)
    rintro e w ⟨rfl, hb⟩
    replace H := H.grow hb; clear hb
    refine ⟨_, rfl, ?_⟩
    clear F a; intro a F
    refine ePartO (by kernel_rfl) H ?_
    refine eOne (k := 19) (i := 19) rfl (by kernel_rfl) F rfl (oBsR (rows := [(skipI 1 false 1 4 2).cells, (storeI 1).cells]) H Tryd.underlying22 Tryd.sizeOf50 Tryd.zeroValue50 rfl F rfl rfl rfl rfl ?_)
    clear F a H; intro b24 a w F H
    refine ePartO (by kernel_rfl) H ?_
    refine eOne (k := 20) (i := 20) rfl (by kernel_rfl) F rfl (oCall Tryd.call28 F rfl rfl (prog_any _ 2 2 _) ?_)
    rintro e w ⟨z3, z4, z6, rfl, H2⟩
    replace H := H.join H2; clear H2
    refine ⟨_, rfl, ?_⟩
    clear F a; intro a F
    refine ePartO (by kernel_rfl) H ?_
    refine eOne (k := 21) (i := 21) rfl (by kernel_rfl) F rfl (oCall Tryd.call29 F rfl rfl (store_any 1 _) ?_)
    rintro e w ⟨rfl, hb⟩
    replace H := H.grow hb; clear hb
    refine ⟨_, rfl, ?_⟩
    clear F a; intro a F
    refine ePartO (by kernel_rfl) H ?_
    refine eOne (k := 22) (i := 22) rfl (by kernel_rfl) F rfl (oCall Tryd.call30 F rfl rfl (folded_any _ (progP7 l2) l2 (storeI 1) _ _ _ _ _ _ 1 _ _ (pr_prog (l := l2) (H.sel [0, 1, 2] rfl rfl) (RowsAt.ofRange (sz := 10) (rows := l2.map Ins.cells) (H.whole 3 rfl) (hone _)) (by decide)) (hN.own H) (slim_prog _) (show 1 ≤ 1099511627776 by decide) r2 (pre_of (by decide) (hvP_of (by decide))) rfl f2) ?_)
    rintro e w ⟨rfl, hb⟩
    replace H := H.grow hb; clear hb
    refine ⟨_, rfl, ?_⟩
    clear F a; intro a F
    refine ePartO (by kernel_rfl) H ?_
    refine eTakeF (k := 23) (i := 23) rfl (by kernel_rfl) F rfl rfl rfl (fun w => rPk F rfl rfl) H (fun _ _ _ h => h) ?_;clear F a;intro a F
    refine eTakeF (k := 24) (i := 24) rfl (by kernel_rfl) F rfl rfl rfl (fun w => rMv F rfl) H (fun _ _ _ h => h) ?_;clear F a;intro a F
    refine F.split 29 rfl ?_ ?_ <;> (clear F; intro h29 F)
    ·
     refine eTake (k := 25) (i := 25) rfl (by kernel_rfl) F rfl rfl rfl rfl (fun w H => rLr Tryd.underlying48 rfl ?si F rfl (H.whole 12 rfl)) H (fun _ _ _ h => h) ?_
     case si => exact info_size Tryd.sizeOf48
     clear F a; intro a F
     refine eTake (k := 26) (i := 27) rfl (by kernel_rfl) F rfl rfl rfl rfl (fun w H => rLr Tryd.underlying48 rfl ?si F rfl (H.whole 13 rfl)) H (fun _ _ _ h => h) ?_
     case si => exact info_size Tryd.sizeOf48
     clear F a; intro a F
     refine eOne (k := 27) (i := 26) rfl (by kernel_rfl) F rfl (oCall Tryd.call31 F rfl rfl (skip_any 2 true 0 4 0 _) ?_)
     rintro e w ⟨rfl, hb⟩
     replace H := H.grow hb; clear hb
     refine ⟨_, rfl, ?_⟩
     clear F a; intro a F
     refine eKeep H ?_
     refine eOne (k := 28) (i := 28) rfl (by kernel_rfl) F rfl (oCall Tryd.call31 F rfl rfl (skip_any 1 false 1 4 1 _) ?_)
     rintro e w ⟨rfl, hb⟩
     replace H := H.grow hb; clear hb
     refine ⟨_, rfl, ?_⟩
     clear F a; intro a F
     refine ePartO (by kernel_rfl) H ?_
     refine eOne (k := 29) (i := 29) rfl (by kernel_rfl) F rfl (oCall Tryd.call29 F rfl rfl (store_any 1 _) ?_)
     rintro e w ⟨rfl, hb⟩
     replace H := H.grow hb; clear hb
     refine ⟨_, rfl, ?_⟩
     clear F a; intro a F
     refine ePartO (by kernel_rfl) H ?_
     refine eOne (k := 30) (i := 30) rfl (by kernel_rfl) F rfl (oCall Tryd.call29 F rfl rfl (store_any 2 _) ?_)
     rintro e w ⟨rfl, hb⟩
     replace H := H.grow hb; clear hb
     refine ⟨_, rfl, ?_⟩
     clear F a; intro a F
     refine ePartO (by kernel_rfl) H ?_
     refine eOne (k := 31) (i := 31) rfl (by kernel_rfl) F rfl (oBsR (rows := [(skipI 2 true 0 4 0).cells, (skipI 1 false 1 4 1).cells, (storeI 1).cells, (storeI 2).cells]) H Tryd.underlying22 Tryd.sizeOf50 Tryd.zeroValue50 rfl F rfl rfl rfl rfl ?_)
     clear F a H; intro b36 a w F H
     refine ePartO (by kernel_rfl) H ?_
     refine eOne (k := 32) (i := 32) rfl (by kernel_rfl) F rfl (oCall Tryd.call28 F rfl rfl (prog_any _ 4 4 _) ?_)
     rintro e w ⟨u3, u4, u6, rfl, H2⟩
     replace H := H.join H2; clear H2
     refine ⟨_, rfl, ?_⟩
     clear F a; intro a F
     refine ePartO (by kernel_rfl) H ?_
     refine eOne (k := 33) (i := 33) rfl (by kernel_rfl) F rfl (oCall Tryd.call29 F rfl rfl (store_any 2 _) ?_)
     rintro e w ⟨rfl, hb⟩
     replace H := H.grow hb; clear hb
     refine ⟨_, rfl, ?_⟩
     clear F a; intro a F
     refine ePartO (by kernel_rfl) H ?_
     refine eOne (k := 34) (i := 34) rfl (by kernel_rfl) F rfl (oCall Tryd.call30 F rfl rfl (folded_any _ (progP7 l3) l3 (storeI 2) _ _ _ _ _ _ 1 _ _ (pr_prog (l := l3) (H.sel [0, 1, 2] rfl rfl) (RowsAt.ofRange (sz := 10) (rows := l3.map Ins.cells) (H.whole 3 rfl) (hone _)) (by decide)) (hN.own H) (slim_prog _) (show 1 ≤ 1099511627776 by decide) r3 (pre_of (by decide) (hvP_of (by decide))) rfl f3) ?_)
     rintro e w ⟨rfl, hb⟩
     replace H := H.grow hb; clear hb
     refine ⟨_, rfl, ?_⟩
     clear F a; intro a F
     refine ePartO (by kernel_rfl) H ?_
     refine eTakeF (k := 35) (i := 35) rfl (by kernel_rfl) F rfl rfl rfl (fun w => rPk F rfl rfl) H (fun _ _ _ h => h) ?_;clear F a;intro a F
     refine eTakeF (k := 36) (i := 36) rfl (by kernel_rfl) F rfl rfl rfl (fun w => rAs F rfl) H (fun _ _ _ h => h) ?_;clear F a;intro a F
     refine eNil (k := 37) (by kernel_rfl) ?_
     refine hK3 _ _ ?_; clear hK3
     refine wp_ret ?_
     refine bRet Tryd.results8 F rfl ?_
     exact ⟨rfl, H.below⟩
    cases h29
   cases h20
  replace h10 := beqF h10
  exact absurd r0 h10
end Go.Proofs.YtmfdpnjgljlkbaaDoor
