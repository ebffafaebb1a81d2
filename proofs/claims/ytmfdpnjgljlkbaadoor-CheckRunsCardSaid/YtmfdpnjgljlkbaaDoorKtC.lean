/-
  WALK2. seisinkit: LentInses. Conditions: the slice lies in memory; it is short.
-/
import Derived.Test.YtmfdpnjgljlkbaaDoorKtB
import Derived.Test.YtmfdpnjgljlkbaaDoorKtA
set_option linter.unusedSimpArgs false
set_option linter.unusedVariables false
namespace Go.Proofs.YtmfdpnjgljlkbaaDoor
open Go.RowKit
set_option maxRecDepth 100000

def marksI (k n : Nat) : List Ins := (List.range n).map (markI k)
theorem marksI_length (k n : Nat) : (marksI k n).length = n := by simp [marksI]
theorem marksI_succ (k n : Nat) : marksI k (n + 1) = marksI k n ++ [markI k n] := by simp [marksI, List.range_succ]
theorem one_ins (x : Ins) : x.cells.all (·.oneCell') = true := rfl
set_option maxHeartbeats 4000000 in
theorem lentInses_any (A : Option Addr) (C : Nat) (l : List Ins) (w0 : World) (hR : RowsAt w0 A 10 (l.map Ins.cells)) (hl : l.length ≤ 1000000) :
    Calls Tryd.prog 9 #[.slice A l.length C] w0 fun e w' => ∃ A2 c, e = .returned (.slice A2 l.length c) ∧ l.length + 12 ≤ c ∧ Own w0 none w' [.rws 50 10 (.slice A2 (l.length + 12) c) ((l ++ marksI 1 12).map Ins.cells)] := by
  have H := Own.start w0 none
  refine enterF Tryd.func9 rfl Tryd.ntmps9 rfl (fun a F => ?_)
  refine cSeq (fun K1 hK1 => ?_)
  refine cReg ?_
  refine sAs F rfl rfl rfl ?_;clear F a;intro a F
  refine sNil ?_
  refine hK1 _ _ ?_; clear hK1
  refine cSeq (fun K2 hK2 => ?_)
  refine cReg ?_
  refine sMv F rfl rfl rfl ?_;clear F a;intro a F
  refine sLen Tryd.underlying22 F rfl rfl rfl ?_;clear F a;intro a F
  refine sBin F rfl rfl rfl rfl (bAddN (j := 12) ?_) ?_
  focus omega
  clear F a; intro a F
  refine sMkC (bytes := 10) (sz := 10) H Tryd.underlying22 Tryd.typeInfo50 rfl rfl rfl F rfl rfl rfl rfl (by first | omega | (simp only [maxLen]; omega)) (by first | omega | (simp only [maxLen]; omega)) ?_
  clear F a H; intro b8 a w F H
  refine sAs F rfl rfl rfl ?_;clear F a;intro a F
  refine sNil ?_
  refine hK2 _ _ ?_; clear hK2
  refine cSeq (fun K3 hK3 => ?_)
  refine cReg ?_
  refine sMv F rfl rfl rfl ?_;clear F a;intro a F
  refine sMv F rfl rfl rfl ?_;clear F a;intro a F
  refine sAppO (bytes := 10) (sz := 10) H 0 Tryd.underlying22 Tryd.typeInfo50 rfl rfl rfl rfl rfl rfl F rfl rfl rfl rfl rfl ?hm ((hR.own H)) ((fun r hr => by obtain ⟨x, _, rfl⟩ := List.mem_map.1 hr; rfl)) ((fun r hr => by obtain ⟨x, _, rfl⟩ := List.mem_map.1 hr; rfl)) ?hb ?_
  case hm => first | rfl | (simp; done) | omega | (simp only [List.length_take, List.length_map]; omega) | (simp; omega)
  case hb => exact ((by first | omega | (simp only [List.length_nil]; omega)))
  clear F a H; intro A11 c11 a w F H
  refine sAs F rfl rfl rfl ?_;clear F a;intro a F
  refine sNil ?_
  refine hK3 _ _ ?_; clear hK3
  refine cSeq (fun K4 hK4 => ?_)
  refine cSeq (fun K5 hK5 => ?_)
  refine cReg ?_
  refine sAs F rfl rfl rfl ?_;clear F a;intro a F
  refine sNil ?_
  refine hK5 _ _ ?_; clear hK5
  refine wp_block ?_
  simp only [List.nil_append, List.length_map] at H F
  refine cLoopR [0] (fun m ups w => ∃ (j : Nat) (A3 : Option Addr) (c3 : Nat), m = 12 - j ∧ ups = [(3, .slice A3 (l.length + j) c3), (4, .int .i64 ((j : Nat) : Int))] ∧ j ≤ 12 ∧ Own w0 none w [.rws 50 10 (.slice A3 (l.length + j) c3) ((l ++ marksI 1 j).map Ins.cells)]) F (12) [(3, .slice A11 l.length c11), (4, .int .i64 ((0 : Nat) : Int))] (by repeat (first | exact SubR.nil | (apply SubR.cons; · rfl))) ?_ ?_ ?_
  · exact ⟨0, A11, c11, rfl, rfl, by omega, by simpa [marksI] using H.sel [0] rfl rfl⟩
  · repeat (first | exact trivial | refine Le.cons rfl ?_)
  clear F
  clear H
  intro m ups a w hI F
  obtain ⟨j, A3, c3, rfl, rfl, hj, H⟩ := hI
  refine cSeq (fun K6 hK6 => ?_)
  refine cSeq (fun K7 hK7 => ?_)
  refine cReg ?_
  refine sMv F rfl rfl rfl ?_;clear F a;intro a F
  refine sBin F rfl rfl rfl rfl bLss ?_;clear F a;intro a F
  refine sNil ?_
  refine hK7 _ _ ?_; clear hK7
  refine cIf F rfl (fun h13 => ?_) (fun h13 => ?_)
  ·
   replace h13 := of_decide_eq_true h13
   refine wp_skip ?_
   refine hK6 _ _ ?_; clear hK6
   refine cSeq (fun K8 hK8 => ?_)
   refine wp_block ?_
   refine cReg ?_
   refine sMv F rfl rfl rfl ?_;clear F a;intro a F
   refine sMv F rfl rfl rfl ?_;clear F a;intro a F
   refine sCall Tryd.call32 F rfl rfl rfl (markIns_any 1 j (by omega) (by omega) _) ?_
   rintro e w ⟨rfl, hb⟩
   replace H := H.grow hb; clear hb
   refine ⟨_, rfl, ?_⟩
   clear F a; intro a F
   refine sBsA H Tryd.underlying22 Tryd.sizeOf50 Tryd.zeroValue50 rfl F rfl rfl rfl rfl rfl ?_
   clear F a H; intro b19 a w F H
   refine sApp1 (bytes := 10) H 1 Tryd.underlying22 Tryd.typeInfo50 rfl rfl rfl rfl rfl rfl F rfl rfl rfl rfl rfl (H.whole 0 rfl) rfl ?s1 ?s2 ?_
   case s1 => first | rfl | (repeat (first | exact one_nil | (apply one_cons; · first | rfl | assumption | exact one_bif rfl rfl)))
   case s2 => (rw [List.length_map, List.length_append, marksI_length]; omega)
   clear F a H; intro A20 c20 a w F H
   refine sAs F rfl rfl rfl ?_;clear F a;intro a F
   refine sNil ?_
   refine hK8 _ _ ?_; clear hK8
   refine cReg ?_
   refine sMv F rfl rfl rfl ?_;clear F a;intro a F
   refine sBin F rfl rfl rfl rfl (bAddN (j := 1) ?_) ?_
   focus omega
   clear F a; intro a F
   refine sAs F rfl rfl rfl ?_;clear F a;intro a F
   refine sNil ?_
   (have e : ((l ++ marksI 1 j).map Ins.cells ++ [(markI 1 j).cells]) = (l ++ marksI 1 (j + 1)).map Ins.cells := by rw [marksI_succ]; simp
    rw [e] at H F
    have e2 : ((l ++ marksI 1 (j + 1)).map Ins.cells).length = l.length + (j + 1) := by rw [List.length_map, List.length_append, marksI_length]
    rw [e2] at H F
    exact ⟨_, by omega, _, ⟨j + 1, A20, c20, rfl, rfl, by omega, H.sel [1] rfl rfl⟩, F.to (by repeat (first | exact trivial | refine Le.cons rfl ?_))⟩)
  replace h13 := of_decide_eq_false h13
  obtain rfl : j = 12 := by omega
  have hq := H.rwsLen 0 rfl
  refine wp_exit ?_
  refine hK4 _ _ ?_; clear hK4
  refine cSeq (fun K9 hK9 => ?_)
  refine cReg ?_
  refine sMv F rfl rfl rfl ?_;clear F a;intro a F
  refine sMv F rfl rfl rfl ?_;clear F a;intro a F
  refine sLen Tryd.underlying22 F rfl rfl rfl ?_;clear F a;intro a F
  refine sSlH Tryd.underlying22 (fun w => ⟨_, Tryd.sizeOf50 w⟩) F rfl rfl rfl rfl ?_ ?_
  focus (first | omega | decide | (simp; omega))
  clear F a; intro a F
  refine sAs F rfl rfl rfl ?_;clear F a;intro a F
  refine sNil ?_
  refine hK9 _ _ ?_; clear hK9
  refine wp_ret ?_
  refine bRet Tryd.results9 F rfl ?_
  exact ⟨_, _, rfl, hq.2.1, H.pick 0 rfl⟩
end Go.Proofs.YtmfdpnjgljlkbaaDoor
