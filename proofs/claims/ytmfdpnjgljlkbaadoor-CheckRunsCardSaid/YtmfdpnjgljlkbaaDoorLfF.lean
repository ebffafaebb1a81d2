/-
  WALK2. The law of chapter 07: arg, test, run. Conditions: what they are handed lies in memory; the thread is short.
-/
import Derived.Test.YtmfdpnjgljlkbaaDoorFpC
import Derived.Test.YtmfdpnjgljlkbaaDoorLfD
set_option linter.unusedSimpArgs false
set_option linter.unusedVariables false
namespace Go.Proofs.YtmfdpnjgljlkbaaDoor
open Go.RowKit
set_option maxRecDepth 100000

theorem mod8 (n : UInt8) : (n % 8).toNat < 8 := by rw [UInt8.toNat_mod]; exact Nat.mod_lt _ (by decide)
theorem mod4 (n : UInt8) : (n % 4).toNat < 4 := by rw [UInt8.toNat_mod]; exact Nat.mod_lt _ (by decide)
set_option maxHeartbeats 1000000 in
theorem arg_any (r : Bool) (n : UInt8) (s : By) (w0 : World) : Calls Tryd.prog 47 #[.agg #[.bool r, Go.Proofs.YtmfdpnjgljlkbaaDoor.b8 n], .agg (bs 8 s).toArray] w0 fun e w' => e = .returned (Go.Proofs.YtmfdpnjgljlkbaaDoor.b8 (argP r n s)) ∧ Below w0.heap.size w0 w' := by
  have hm := mod8 n
  have H := Own.start w0 none
  refine enterF Tryd.func47 rfl Tryd.ntmps47 rfl (fun a F => ?_)
  refine cSeq (fun K1 hK1 => ?_)
  refine cReg ?_
  refine sBx H F rfl rfl rfl ?_
  clear F a H; intro b2 a w F H
  refine sBxB H F rfl rfl rfl ?_
  clear F a H; intro b3 a w F H
  refine sAs F rfl rfl rfl ?_;clear F a;intro a F
  refine sNil ?_
  refine hK1 _ _ ?_; clear hK1
  refine cSeq (fun K2 hK2 => ?_)
  refine cSeq (fun K3 hK3 => ?_)
  refine cReg ?_
  refine sFa (f := 0) (k := 0) Tryd.underlying48 rfl Tryd.sizeOf4 rfl rfl F rfl rfl rfl ?_;clear F a;intro a F
  refine sLd Tryd.isAgg4 F rfl rfl rfl (H.cell 1 rfl rfl) ?_;clear F a;intro a F
  refine sNil ?_
  refine hK3 _ _ ?_; clear hK3
  refine cIf F rfl (fun h6 => ?_) (fun h6 => ?_)
  ·
   refine cSeq (fun K4 hK4 => ?_)
   refine cReg ?_
   refine sFa (f := 1) (k := 1) Tryd.underlying48 rfl Tryd.sizeOf5 rfl rfl F rfl rfl rfl ?_;clear F a;intro a F
   refine sLd Tryd.isAgg5 F rfl rfl rfl (H.cell 1 rfl rfl) ?_;clear F a;intro a F
   refine sBin F rfl rfl rfl rfl (bRemB (y := 8) ?_) ?_
   focus decide
   clear F a; intro a F
   refine sIaZ1 Tryd.underlying52 Tryd.sizeOf5 F rfl rfl rfl rfl ?_ ?_
   focus (first | omega | decide | (simp; omega))
   clear F a; intro a F
   refine sLd Tryd.isAgg5 F rfl rfl rfl (H.cellB 0 rfl (by omega)) ?_;clear F a;intro a F
   refine sAs F rfl rfl rfl ?_;clear F a;intro a F
   refine sNil ?_
   refine hK4 _ _ ?_; clear hK4
   refine wp_ret ?_
   simp only [Exit.then]
   refine bRet Tryd.results47 F rfl ?_
   exact ⟨by rw [argP]; simp_all, H.below⟩
  refine wp_skip ?_
  refine hK2 _ _ ?_; clear hK2
  refine cSeq (fun K5 hK5 => ?_)
  refine cReg ?_
  refine sFa (f := 1) (k := 1) Tryd.underlying48 rfl Tryd.sizeOf5 rfl rfl F rfl rfl rfl ?_;clear F a;intro a F
  refine sLd Tryd.isAgg5 F rfl rfl rfl (H.cell 1 rfl rfl) ?_;clear F a;intro a F
  refine sAs F rfl rfl rfl ?_;clear F a;intro a F
  refine sNil ?_
  refine hK5 _ _ ?_; clear hK5
  refine wp_ret ?_
  refine bRet Tryd.results47 F rfl ?_
  exact ⟨by rw [argP]; simp_all, H.below⟩
set_option maxHeartbeats 1000000 in
theorem test_any (x : Ins) (a' b' : UInt8) (w0 : World) : Calls Tryd.prog 48 #[.agg x.cells.toArray, Go.Proofs.YtmfdpnjgljlkbaaDoor.b8 a', Go.Proofs.YtmfdpnjgljlkbaaDoor.b8 b'] w0 fun e w' => e = .returned (.bool (testP x a' b')) ∧ Below w0.heap.size w0 w' := by
  have H := Own.start w0 none
  refine enterF Tryd.func48 rfl Tryd.ntmps48 rfl (fun a F => ?_)
  refine cSeq (fun K1 hK1 => ?_)
  refine cReg ?_
  refine sBx H F rfl rfl rfl ?_
  clear F a H; intro b3 a w F H
  refine sAs F rfl rfl rfl ?_;clear F a;intro a F
  refine sNil ?_
  refine hK1 _ _ ?_; clear hK1
  refine cSeq (fun K2 hK2 => ?_)
  refine cSeq (fun K3 hK3 => ?_)
  refine cReg ?_
  refine sFa (f := 5) (k := 7) Tryd.underlying50 rfl Tryd.sizeOf5 rfl rfl F rfl rfl rfl ?_;clear F a;intro a F
  refine sLd Tryd.isAgg5 F rfl rfl rfl (H.cell 0 rfl rfl) ?_;clear F a;intro a F
  refine sNil ?_
  refine hK3 _ _ ?_; clear hK3
  refine wp_block ?_
  refine cSeq (fun K4 hK4 => ?_)
  refine cReg ?_
  refine sBin F rfl rfl rfl rfl (bEqlB (y := 4)) ?_;clear F a;intro a F
  refine sAs F rfl rfl rfl ?_;clear F a;intro a F
  refine sNil ?_
  refine hK4 _ _ ?_; clear hK4
  refine cIf F rfl (fun h9 => ?_) (fun h9 => ?_)
  ·
   replace h9 := beqT h9
   refine cSeq (fun K5 hK5 => ?_)
   refine cReg ?_
   refine sMv F rfl rfl rfl ?_;clear F a;intro a F
   refine sMv F rfl rfl rfl ?_;clear F a;intro a F
   refine sBin F rfl rfl rfl rfl bEqlB ?_;clear F a;intro a F
   refine sAs F rfl rfl rfl ?_;clear F a;intro a F
   refine sNil ?_
   refine hK5 _ _ ?_; clear hK5
   refine wp_ret ?_
   simp only [Exit.inBlock, Exit.then]
   refine bRet Tryd.results48 F rfl ?_
   exact ⟨by rw [testP]; simp_all, H.below⟩
  replace h9 := beqF h9
  refine cSeq (fun K6 hK6 => ?_)
  refine cReg ?_
  refine sBin F rfl rfl rfl rfl (bEqlB (y := 5)) ?_;clear F a;intro a F
  refine sAs F rfl rfl rfl ?_;clear F a;intro a F
  refine sNil ?_
  refine hK6 _ _ ?_; clear hK6
  refine cIf F rfl (fun h14 => ?_) (fun h14 => ?_)
  ·
   replace h14 := beqT h14
   refine cSeq (fun K7 hK7 => ?_)
   refine cReg ?_
   refine sMv F rfl rfl rfl ?_;clear F a;intro a F
   refine sMv F rfl rfl rfl ?_;clear F a;intro a F
   refine sBin F rfl rfl rfl rfl bNeqB ?_;clear F a;intro a F
   refine sAs F rfl rfl rfl ?_;clear F a;intro a F
   refine sNil ?_
   refine hK7 _ _ ?_; clear hK7
   refine wp_ret ?_
   simp only [Exit.inBlock, Exit.then]
   refine bRet Tryd.results48 F rfl ?_
   exact ⟨by rw [testP]; simp_all, H.below⟩
  replace h14 := beqF h14
  refine wp_skip ?_
  refine hK2 _ _ ?_; clear hK2
  refine cSeq (fun K8 hK8 => ?_)
  refine cReg ?_
  refine sMv F rfl rfl rfl ?_;clear F a;intro a F
  refine sMv F rfl rfl rfl ?_;clear F a;intro a F
  refine sBin F rfl rfl rfl rfl bLssB ?_;clear F a;intro a F
  refine sAs F rfl rfl rfl ?_;clear F a;intro a F
  refine sNil ?_
  refine hK8 _ _ ?_; clear hK8
  refine wp_ret ?_
  refine bRet Tryd.results48 F rfl ?_
  exact ⟨by rw [testP]; simp_all, H.below⟩
def b1 (x : UInt8) : List Value := [Go.Proofs.YtmfdpnjgljlkbaaDoor.b8 x]
theorem fn4 {a b : UInt8} {k : Nat} (h : k < 4) : [Go.Proofs.YtmfdpnjgljlkbaaDoor.b8 0, Go.Proofs.YtmfdpnjgljlkbaaDoor.b8 (a + b), Go.Proofs.YtmfdpnjgljlkbaaDoor.b8 (a - b), Go.Proofs.YtmfdpnjgljlkbaaDoor.b8 (a ^^^ b)][k]? = some (Go.Proofs.YtmfdpnjgljlkbaaDoor.b8 (fnP k a b)) := by
  match k, h with
  | 0, _ => rfl
  | 1, _ => rfl
  | 2, _ => rfl
  | 3, _ => rfl
theorem loadAt {w : World} {A : Option Addr} {loads : List UInt8} (h : RowsAt w A 1 (loads.map b1)) (n : Nat) (h0 : 0 < loads.length) : ∃ b o, A = some ⟨b, o, none⟩ ∧ w.cell? ⟨b, o + n % loads.length * 1, none⟩ = some (Go.Proofs.YtmfdpnjgljlkbaaDoor.b8 (loadP loads n)) := by
  have hn := Nat.mod_lt n h0
  have hx : loads[n % loads.length]? = some (loadP loads n) := by
    rw [loadP, if_pos h0, List.getD_eq_getElem?_getD, List.getElem?_eq_getElem hn]
    rfl
  obtain ⟨b, o, h1, h2⟩ := mapAt h hx
  exact ⟨b, o, h1, h2 0 _ rfl⟩
theorem step_le {loads : List UInt8} {x : Ins} {i : Nat} {s : By} {out : List UInt8} : (stepR loads x i s out).2.2.length ≤ out.length + 5 := by
  unfold stepR
  split
  · exact Nat.le_add_right _ _
  · split
    · exact Nat.le_add_right _ _
    · simp
set_option maxHeartbeats 8000000 in
theorem run_any (A : Option Addr) (C : Nat) (l : List Ins) (s : By) (LA : Option Addr) (LC : Nat) (loads : List UInt8) (w0 : World) (hR : RowsAt w0 A 10 (l.map Ins.cells)) (hl : l.length ≤ 1000) (hL : RowsAt w0 LA 1 (loads.map b1)) (hll : loads.length ≤ 9223372036854775807) :
    Calls Tryd.prog 23 #[.slice A l.length C, .agg (bs 8 s).toArray, .slice LA loads.length LC] w0 fun e w' => ∃ B c, e = .returned (.slice B (runP l s loads).length c) ∧ Own w0 none w' [.rws 5 1 (.slice B (runP l s loads).length c) ((runP l s loads).map b1)] := by
  have H := Own.start w0 none
  refine enterF Tryd.func23 rfl Tryd.ntmps23 rfl (fun a F => ?_)
  refine cSeq (fun K1 hK1 => ?_)
  refine cReg ?_
  refine sBxB H F rfl rfl rfl ?_
  clear F a H; intro b4 a w F H
  refine sAs F rfl rfl rfl ?_;clear F a;intro a F
  refine sNil ?_
  refine hK1 _ _ ?_; clear hK1
  refine cSeq (fun K2 hK2 => ?_)
  refine cReg ?_
  refine sAs F rfl rfl rfl ?_;clear F a;intro a F
  replace H := H.nilRws 5 1
  refine sNil ?_
  refine hK2 _ _ ?_; clear hK2
  refine cSeq (fun K3 hK3 => ?_)
  refine cSeq (fun K4 hK4 => ?_)
  refine cReg ?_
  refine sAs F rfl rfl rfl ?_;clear F a;intro a F
  refine sNil ?_
  refine hK4 _ _ ?_; clear hK4
  refine wp_block ?_
  refine cLoopR [0, 2, 4] (fun m ups w => ∃ (i f : Nat) (s' : By) (out : List UInt8) (B : Option Addr) (c : Nat), m = l.length - i ∧ ups = [(7, .slice B out.length c), (8, .int .i64 ((i : Nat) : Int))] ∧ i ≤ l.length + 300 ∧ l.length ≤ i + f ∧ runG l loads l.length 0 s [] = runG l loads f i s' out ∧ out.length ≤ 5 * i ∧ Own w0 none w [.rws 5 1 (.slice B out.length c) (out.map b1), .blk b4 (bs 8 s') 52]) F (l.length) [(7, .slice none 0 0), (8, .int .i64 ((0 : Nat) : Int))] (by repeat (first | exact SubR.nil | (apply SubR.cons; · rfl))) ?_ ?_ ?_
  · exact ⟨0, l.length, s, [], none, 0, rfl, rfl, by omega, by omega, rfl, by simp, H.sel [0, 1] rfl rfl⟩
  · repeat (first | exact trivial | refine Le.cons rfl ?_)
  clear F
  clear H
  intro m ups a w hI F
  obtain ⟨i, f, s', out, B, c, rfl, rfl, hi, hf, hrun, hol, H⟩ := hI
  refine cSeq (fun K5 hK5 => ?_)
  refine cSeq (fun K6 hK6 => ?_)
  refine cReg ?_
  refine sMv F rfl rfl rfl ?_;clear F a;intro a F
  refine sMv F rfl rfl rfl ?_;clear F a;intro a F
  refine sLen Tryd.underlying22 F rfl rfl rfl ?_;clear F a;intro a F
  refine sBin F rfl rfl rfl rfl bLss ?_;clear F a;intro a F
  refine sNil ?_
  refine hK6 _ _ ?_; clear hK6
  refine cIf F rfl (fun h17 => ?_) (fun h17 => ?_)
  ·
   replace h17 := of_decide_eq_true h17
   obtain ⟨x, hx⟩ : ∃ x, l[i]? = some x := ⟨_, List.getElem?_eq_getElem (by omega)⟩
   obtain ⟨bI, oI, rfl, hIx⟩ := mapAt hR hx
   obtain ⟨f, rfl⟩ : ∃ q, f = q + 1 := ⟨f - 1, by omega⟩
   rw [runG_some hx] at hrun
   have hm1 := mod8 x.dst
   have hm2 := mod4 x.fn
   have hsk := x.skip.toNat_lt
   refine wp_skip ?_
   refine hK5 _ _ ?_; clear hK5
   refine cSeq (fun K7 hK7 => ?_)
   refine wp_block ?_
   refine cSeq (fun K8 hK8 => ?_)
   refine cReg ?_
   refine sMv F rfl rfl rfl ?_;clear F a;intro a F
   refine sMv F rfl rfl rfl ?_;clear F a;intro a F
   refine sIx Tryd.underlying22 Tryd.sizeOf50 F rfl rfl rfl rfl ?_ ?_
   focus (first | omega | decide | (simp; omega))
   clear F a; intro a F
   refine sLr Tryd.underlying50 rfl ?si F rfl rfl rfl (H.argR hIx) ?_
   case si => exact info_size Tryd.sizeOf50
   clear F a; intro a F
   refine sAl H Tryd.zeroValue50 F rfl rfl ?_
   clear F a H; intro b9 a w F H
   refine sSr H 0 ?si F rfl rfl rfl ?s1 rfl rfl ?_
   case si => exact info_size Tryd.sizeOf50
   case s1 => first | rfl | (repeat (first | exact one_nil | (apply one_cons; · first | rfl | assumption | exact one_bif rfl rfl)))
   clear H; intro w H
   refine sNil ?_
   refine hK8 _ _ ?_; clear hK8
   refine cSeq (fun K9 hK9 => ?_)
   refine cRegRO (by kernel_rfl) H ?_
   replace H := H.drew
   refine eTakeF (k := 0) (i := 0) rfl (by kernel_rfl) F rfl rfl rfl (fun w => rFa (f := 3) (k := 3) Tryd.underlying50 rfl Tryd.sizeOf48 rfl rfl F rfl) H (fun _ _ _ h => h) ?_;clear F a;intro a F
   refine eTake (k := 1) (i := 1) rfl (by kernel_rfl) F rfl rfl rfl rfl (fun w H => rLr Tryd.underlying48 rfl ?si F rfl (H.range 0 rfl _ 2)) H (fun _ _ _ h => h) ?_
   case si => exact info_size Tryd.sizeOf48
   clear F a; intro a F
   refine eTake (k := 2) (i := 2) rfl (by kernel_rfl) F rfl rfl rfl rfl (fun w H => rLrB Tryd.underlying52 rfl Tryd.sizeOf52 F rfl (H.whole 2 rfl)) H (fun _ _ _ h => h) ?_;clear F a;intro a F
   refine eTakeF (k := 3) (i := 4) rfl (by kernel_rfl) F rfl rfl rfl (fun w => rFa (f := 4) (k := 5) Tryd.underlying50 rfl Tryd.sizeOf48 rfl rfl F rfl) H (fun _ _ _ h => h) ?_;clear F a;intro a F
   refine eTake (k := 4) (i := 5) rfl (by kernel_rfl) F rfl rfl rfl rfl (fun w H => rLr Tryd.underlying48 rfl ?si F rfl (H.range 0 rfl _ 2)) H (fun _ _ _ h => h) ?_
   case si => exact info_size Tryd.sizeOf48
   clear F a; intro a F
   refine eTake (k := 5) (i := 6) rfl (by kernel_rfl) F rfl rfl rfl rfl (fun w H => rLrB Tryd.underlying52 rfl Tryd.sizeOf52 F rfl (H.whole 2 rfl)) H (fun _ _ _ h => h) ?_;clear F a;intro a F
   refine eOne (k := 6) (i := 3) rfl (by kernel_rfl) F rfl (oCall Tryd.call47 F rfl rfl (arg_any x.aR x.aN s' _) ?_)
   rintro e w ⟨rfl, hb⟩
   replace H := H.grow hb; clear hb
   refine ⟨_, rfl, ?_⟩
   clear F a; intro a F
   refine eKeep H ?_
   refine eOne (k := 7) (i := 7) rfl (by kernel_rfl) F rfl (oCall Tryd.call47 F rfl rfl (arg_any x.bR x.bN s' _) ?_)
   rintro e w ⟨rfl, hb⟩
   replace H := H.grow hb; clear hb
   refine ⟨_, rfl, ?_⟩
   clear F a; intro a F
   refine ePartO (by kernel_rfl) H ?_
   refine eTakeF (k := 8) (i := 8) rfl (by kernel_rfl) F rfl rfl rfl (fun w => rAs F rfl) H (fun _ _ _ h => h) ?_;clear F a;intro a F
   refine eTakeF (k := 9) (i := 9) rfl (by kernel_rfl) F rfl rfl rfl (fun w => rAs F rfl) H (fun _ _ _ h => h) ?_;clear F a;intro a F
   refine eNil (k := 10) (by kernel_rfl) ?_
   refine hK9 _ _ ?_; clear hK9
   refine cSeq (fun K10 hK10 => ?_)
   refine cSeq (fun K11 hK11 => ?_)
   refine cReg ?_
   refine sFa (f := 0) (k := 0) Tryd.underlying50 rfl Tryd.sizeOf5 rfl rfl F rfl rfl rfl ?_;clear F a;intro a F
   refine sLd Tryd.isAgg5 F rfl rfl rfl (H.cell 0 rfl rfl) ?_;clear F a;intro a F
   refine sNil ?_
   refine hK11 _ _ ?_; clear hK11
   refine wp_block ?_
   refine cSeq (fun K12 hK12 => ?_)
   refine cReg ?_
   refine sBin F rfl rfl rfl rfl (bEqlB (y := 8)) ?_;clear F a;intro a F
   refine sAs F rfl rfl rfl ?_;clear F a;intro a F
   refine sNil ?_
   refine hK12 _ _ ?_; clear hK12
   refine cIf F rfl (fun h34 => ?_) (fun h34 => ?_)
   ·
    replace h34 := beqT h34
    refine cSeq (fun K13 hK13 => ?_)
    refine cSeq (fun K14 hK14 => ?_)
    refine cReg ?_
    refine sLr Tryd.underlying50 rfl ?si F rfl rfl rfl (H.whole 0 rfl) ?_
    case si => exact info_size Tryd.sizeOf50
    clear F a; intro a F
    refine sMv F rfl rfl rfl ?_;clear F a;intro a F
    refine sMv F rfl rfl rfl ?_;clear F a;intro a F
    refine sCall Tryd.call48 F rfl rfl rfl (test_any x _ _ _) ?_
    rintro e w ⟨rfl, hb⟩
    replace H := H.grow hb; clear hb
    refine ⟨_, rfl, ?_⟩
    clear F a; intro a F
    refine sNil ?_
    refine hK14 _ _ ?_; clear hK14
    refine cIf F rfl (fun h39 => ?_) (fun h39 => ?_)
    ·
     refine cReg ?_
     refine sMv F rfl rfl rfl ?_;clear F a;intro a F
     refine sFa (f := 7) (k := 9) Tryd.underlying50 rfl Tryd.sizeOf5 rfl rfl F rfl rfl rfl ?_;clear F a;intro a F
     refine sLd Tryd.isAgg5 F rfl rfl rfl (H.cell 0 rfl rfl) ?_;clear F a;intro a F
     refine sCv Tryd.underlying5 Tryd.underlying3 F rfl rfl rfl (wrapB _) ?_;clear F a;intro a F
     refine sBin F rfl rfl rfl rfl (bAddN ?_) ?_
     focus omega
     clear F a; intro a F
     refine sAs F rfl rfl rfl ?_;clear F a;intro a F
     refine sNil ?_
     refine hK13 _ _ ?_; clear hK13
     refine wp_exit ?_
     refine hK7 _ _ ?_; clear hK7
     refine cReg ?_
     refine sMv F rfl rfl rfl ?_;clear F a;intro a F
     refine sBin F rfl rfl rfl rfl (bAddN (j := 1) ?_) ?_
     focus omega
     clear F a; intro a F
     refine sAs F rfl rfl rfl ?_;clear F a;intro a F
     refine sNil ?_
     (try simp only [Nat.zero_add, Nat.mul_one] at H
      have el : out.length + 5 = (out ++ [x.op, x.loc, x.mode, argP x.aR x.aN s', argP x.bR x.bN s']).length := by simp
      have eo : out.map b1 ++ [[Go.Proofs.YtmfdpnjgljlkbaaDoor.b8 x.op], [Go.Proofs.YtmfdpnjgljlkbaaDoor.b8 x.loc], [Go.Proofs.YtmfdpnjgljlkbaaDoor.b8 x.mode], [Go.Proofs.YtmfdpnjgljlkbaaDoor.b8 (argP x.aR x.aN s')], [Go.Proofs.YtmfdpnjgljlkbaaDoor.b8 (argP x.bR x.bN s')]] = (out ++ [x.op, x.loc, x.mode, argP x.aR x.aN s', argP x.bR x.bN s']).map b1 := by simp [b1]
      first
       | (have e : stepR loads x i s' out = (i + x.skip.toNat + 1, s', out) := by unfold stepR; rw [if_pos h34, if_pos h39, Nat.add_right_comm]
          rw [e] at hrun
          exact ⟨_, by omega, _, ⟨_, f, s', out, _, _, rfl, rfl, by omega, by omega, hrun, by omega, H.sel [1, 2] rfl rfl⟩, F.to (by repeat (first | exact trivial | refine Le.cons rfl ?_))⟩)
       | (have e : stepR loads x i s' out = (i + 1, s', out) := by unfold stepR; rw [if_pos h34, if_neg (by rw [h39]; simp)]
          rw [e] at hrun
          exact ⟨_, by omega, _, ⟨_, f, s', out, _, _, rfl, rfl, by omega, by omega, hrun, by omega, H.sel [1, 2] rfl rfl⟩, F.to (by repeat (first | exact trivial | refine Le.cons rfl ?_))⟩)
       | (have e : stepR loads x i s' out = (i + 1, put s' (x.dst % 8).toNat (fnP (x.fn % 4).toNat (argP x.aR x.aN s') (argP x.bR x.bN s')), out) := by unfold stepR; rw [if_neg h34, if_pos h45]
          rw [e] at hrun
          exact ⟨_, by omega, _, ⟨_, f, _, out, _, _, rfl, rfl, by omega, by omega, hrun, by omega, H.sel [1, 2] rfl rfl⟩, F.to (by repeat (first | exact trivial | refine Le.cons rfl ?_))⟩)
       | (have e : stepR loads x i s' out = (i + 1, put s' (x.dst % 8).toNat (loadP loads (out.length + 5)), out ++ [x.op, x.loc, x.mode, argP x.aR x.aN s', argP x.bR x.bN s']) := by unfold stepR; rw [if_neg h34, if_neg h45]; simp only [List.length_append, List.length_cons, List.length_nil, Nat.zero_add, Nat.reduceAdd]; rw [if_pos ⟨h80, h84⟩]
          rw [e] at hrun
          rw [eo] at H
          rw [el] at F
          exact ⟨_, by omega, _, ⟨_, f, _, _, _, _, rfl, rfl, by omega, by omega, hrun, by simp; omega, by simpa using H.sel [1, 2] rfl rfl⟩, F.to (by repeat (first | exact trivial | refine Le.cons rfl ?_))⟩)
       | (have e : stepR loads x i s' out = (i + 1, s', out ++ [x.op, x.loc, x.mode, argP x.aR x.aN s', argP x.bR x.bN s']) := by unfold stepR; rw [if_neg h34, if_neg h45]; dsimp only; rw [if_neg (by first | exact fun h => h.1 h80 | exact fun h => h.2 h84)]
          rw [e] at hrun
          rw [eo] at H
          rw [el] at F
          exact ⟨_, by omega, _, ⟨_, f, _, _, _, _, rfl, rfl, by omega, by omega, hrun, by simp; omega, by simpa using H.sel [1, 2] rfl rfl⟩, F.to (by repeat (first | exact trivial | refine Le.cons rfl ?_))⟩))
    refine wp_skip ?_
    refine hK13 _ _ ?_; clear hK13
    refine wp_exit ?_
    refine hK7 _ _ ?_; clear hK7
    refine cReg ?_
    refine sMv F rfl rfl rfl ?_;clear F a;intro a F
    refine sBin F rfl rfl rfl rfl (bAddN (j := 1) ?_) ?_
    focus omega
    clear F a; intro a F
    refine sAs F rfl rfl rfl ?_;clear F a;intro a F
    refine sNil ?_
    (try simp only [Nat.zero_add, Nat.mul_one] at H
     have el : out.length + 5 = (out ++ [x.op, x.loc, x.mode, argP x.aR x.aN s', argP x.bR x.bN s']).length := by simp
     have eo : out.map b1 ++ [[Go.Proofs.YtmfdpnjgljlkbaaDoor.b8 x.op], [Go.Proofs.YtmfdpnjgljlkbaaDoor.b8 x.loc], [Go.Proofs.YtmfdpnjgljlkbaaDoor.b8 x.mode], [Go.Proofs.YtmfdpnjgljlkbaaDoor.b8 (argP x.aR x.aN s')], [Go.Proofs.YtmfdpnjgljlkbaaDoor.b8 (argP x.bR x.bN s')]] = (out ++ [x.op, x.loc, x.mode, argP x.aR x.aN s', argP x.bR x.bN s']).map b1 := by simp [b1]
     first
      | (have e : stepR loads x i s' out = (i + x.skip.toNat + 1, s', out) := by unfold stepR; rw [if_pos h34, if_pos h39, Nat.add_right_comm]
         rw [e] at hrun
         exact ⟨_, by omega, _, ⟨_, f, s', out, _, _, rfl, rfl, by omega, by omega, hrun, by omega, H.sel [1, 2] rfl rfl⟩, F.to (by repeat (first | exact trivial | refine Le.cons rfl ?_))⟩)
      | (have e : stepR loads x i s' out = (i + 1, s', out) := by unfold stepR; rw [if_pos h34, if_neg (by rw [h39]; simp)]
         rw [e] at hrun
         exact ⟨_, by omega, _, ⟨_, f, s', out, _, _, rfl, rfl, by omega, by omega, hrun, by omega, H.sel [1, 2] rfl rfl⟩, F.to (by repeat (first | exact trivial | refine Le.cons rfl ?_))⟩)
      | (have e : stepR loads x i s' out = (i + 1, put s' (x.dst % 8).toNat (fnP (x.fn % 4).toNat (argP x.aR x.aN s') (argP x.bR x.bN s')), out) := by unfold stepR; rw [if_neg h34, if_pos h45]
         rw [e] at hrun
         exact ⟨_, by omega, _, ⟨_, f, _, out, _, _, rfl, rfl, by omega, by omega, hrun, by omega, H.sel [1, 2] rfl rfl⟩, F.to (by repeat (first | exact trivial | refine Le.cons rfl ?_))⟩)
      | (have e : stepR loads x i s' out = (i + 1, put s' (x.dst % 8).toNat (loadP loads (out.length + 5)), out ++ [x.op, x.loc, x.mode, argP x.aR x.aN s', argP x.bR x.bN s']) := by unfold stepR; rw [if_neg h34, if_neg h45]; simp only [List.length_append, List.length_cons, List.length_nil, Nat.zero_add, Nat.reduceAdd]; rw [if_pos ⟨h80, h84⟩]
         rw [e] at hrun
         rw [eo] at H
         rw [el] at F
         exact ⟨_, by omega, _, ⟨_, f, _, _, _, _, rfl, rfl, by omega, by omega, hrun, by simp; omega, by simpa using H.sel [1, 2] rfl rfl⟩, F.to (by repeat (first | exact trivial | refine Le.cons rfl ?_))⟩)
      | (have e : stepR loads x i s' out = (i + 1, s', out ++ [x.op, x.loc, x.mode, argP x.aR x.aN s', argP x.bR x.bN s']) := by unfold stepR; rw [if_neg h34, if_neg h45]; dsimp only; rw [if_neg (by first | exact fun h => h.1 h80 | exact fun h => h.2 h84)]
         rw [e] at hrun
         rw [eo] at H
         rw [el] at F
         exact ⟨_, by omega, _, ⟨_, f, _, _, _, _, rfl, rfl, by omega, by omega, hrun, by simp; omega, by simpa using H.sel [1, 2] rfl rfl⟩, F.to (by repeat (first | exact trivial | refine Le.cons rfl ?_))⟩))
   replace h34 := beqF h34
   refine cSeq (fun K15 hK15 => ?_)
   refine cReg ?_
   refine sBin F rfl rfl rfl rfl (bEqlB (y := 3)) ?_;clear F a;intro a F
   refine sAs F rfl rfl rfl ?_;clear F a;intro a F
   refine sNil ?_
   refine hK15 _ _ ?_; clear hK15
   refine cIf F rfl (fun h45 => ?_) (fun h45 => ?_)
   ·
    replace h45 := beqT h45
    refine cSeq (fun K16 hK16 => ?_)
    refine cRegRO (by kernel_rfl) H ?_
    replace H := H.drew
    refine eTakeF (k := 0) (i := 0) rfl (by kernel_rfl) F rfl rfl rfl (fun w => rFa (f := 1) (k := 1) Tryd.underlying50 rfl Tryd.sizeOf5 rfl rfl F rfl) H (fun _ _ _ h => h) ?_;clear F a;intro a F
    refine eTake (k := 1) (i := 1) rfl (by kernel_rfl) F rfl rfl rfl rfl (fun w H => rLd Tryd.isAgg5 F rfl (H.cell 0 rfl rfl)) H (fun _ _ _ h => h) ?_;clear F a;intro a F
    refine eTakeF (k := 2) (i := 2) rfl (by kernel_rfl) F rfl rfl rfl (fun w => rBin F rfl rfl (bRemB (y := 8) ?_)) H (fun _ _ _ h => h) ?_
    focus decide
    clear F a; intro a F
    refine eTakeF (k := 3) (i := 3) rfl (by kernel_rfl) F rfl rfl rfl (fun w => rMv F rfl) H (fun _ _ _ h => h) ?_;clear F a;intro a F
    refine eTakeF (k := 4) (i := 4) rfl (by kernel_rfl) F rfl rfl rfl (fun w => rMv F rfl) H (fun _ _ _ h => h) ?_;clear F a;intro a F
    refine eTakeF (k := 5) (i := 5) rfl (by kernel_rfl) F rfl rfl rfl (fun w => rBin F rfl rfl (bAddB)) H (fun _ _ _ h => h) ?_;clear F a;intro a F
    refine eTakeF (k := 6) (i := 6) rfl (by kernel_rfl) F rfl rfl rfl (fun w => rMv F rfl) H (fun _ _ _ h => h) ?_;clear F a;intro a F
    refine eTakeF (k := 7) (i := 7) rfl (by kernel_rfl) F rfl rfl rfl (fun w => rMv F rfl) H (fun _ _ _ h => h) ?_;clear F a;intro a F
    refine eTakeF (k := 8) (i := 8) rfl (by kernel_rfl) F rfl rfl rfl (fun w => rBin F rfl rfl (bSubB)) H (fun _ _ _ h => h) ?_;clear F a;intro a F
    refine eTakeF (k := 9) (i := 9) rfl (by kernel_rfl) F rfl rfl rfl (fun w => rMv F rfl) H (fun _ _ _ h => h) ?_;clear F a;intro a F
    refine eTakeF (k := 10) (i := 10) rfl (by kernel_rfl) F rfl rfl rfl (fun w => rMv F rfl) H (fun _ _ _ h => h) ?_;clear F a;intro a F
    refine eTakeF (k := 11) (i := 11) rfl (by kernel_rfl) F rfl rfl rfl (fun w => rBin F rfl rfl (bXorB)) H (fun _ _ _ h => h) ?_;clear F a;intro a F
    refine eTakeF (k := 12) (i := 13) rfl (by kernel_rfl) F rfl rfl rfl (fun w => rFa (f := 5) (k := 7) Tryd.underlying50 rfl Tryd.sizeOf5 rfl rfl F rfl) H (fun _ _ _ h => h) ?_;clear F a;intro a F
    refine eTake (k := 13) (i := 14) rfl (by kernel_rfl) F rfl rfl rfl rfl (fun w H => rLd Tryd.isAgg5 F rfl (H.cell 0 rfl rfl)) H (fun _ _ _ h => h) ?_;clear F a;intro a F
    refine eTakeF (k := 14) (i := 15) rfl (by kernel_rfl) F rfl rfl rfl (fun w => rBin F rfl rfl (bRemB (y := 4) ?_)) H (fun _ _ _ h => h) ?_
    focus decide
    clear F a; intro a F
    refine eOne (k := 15) (i := 12) rfl (by kernel_rfl) F rfl (oBs H Tryd.underlying34 Tryd.sizeOf5 Tryd.zeroValue5 rfl F rfl rfl rfl rfl ?_)
    clear F a H; intro b59 a w F H
    refine eKeep H.tail ?_
    refine eTakeF (k := 16) (i := 16) rfl (by kernel_rfl) F rfl rfl rfl (fun w => rIx Tryd.underlying34 Tryd.sizeOf5 F rfl rfl ?_) H.tail (fun _ _ _ h => h) ?_
    focus (first | omega | decide | (simp; omega))
    clear F a; intro a F
    refine eUp H (fun w h => h.sel [1, 2, 3] rfl rfl) ?_
    refine eTake (k := 17) (i := 17) rfl (by kernel_rfl) F rfl rfl rfl rfl (fun w H => rLd Tryd.isAgg5 F rfl (H.cell 0 rfl (fn4 (by omega)))) H (fun _ _ _ h => h) ?_;clear F a;intro a F
    refine eTakeF (k := 18) (i := 18) rfl (by kernel_rfl) F rfl rfl rfl (fun w => rIaZ1 Tryd.underlying52 Tryd.sizeOf5 F rfl rfl ?_) H (fun _ _ _ h => h) ?_
    focus (first | omega | decide | (simp; omega))
    clear F a; intro a F
    refine eOne (k := 19) (i := 19) rfl (by kernel_rfl) F rfl (oStB H 3 Tryd.sizeOf5 F rfl rfl rfl (by omega) ?_)
    clear H; intro w H
    refine ePartO (by kernel_rfl) H ?_
    refine eNil (k := 20) (by kernel_rfl) ?_
    refine hK16 _ _ ?_; clear hK16
    refine wp_exit ?_
    refine hK7 _ _ ?_; clear hK7
    refine cReg ?_
    refine sMv F rfl rfl rfl ?_;clear F a;intro a F
    refine sBin F rfl rfl rfl rfl (bAddN (j := 1) ?_) ?_
    focus omega
    clear F a; intro a F
    refine sAs F rfl rfl rfl ?_;clear F a;intro a F
    refine sNil ?_
    (try simp only [Nat.zero_add, Nat.mul_one] at H
     have el : out.length + 5 = (out ++ [x.op, x.loc, x.mode, argP x.aR x.aN s', argP x.bR x.bN s']).length := by simp
     have eo : out.map b1 ++ [[Go.Proofs.YtmfdpnjgljlkbaaDoor.b8 x.op], [Go.Proofs.YtmfdpnjgljlkbaaDoor.b8 x.loc], [Go.Proofs.YtmfdpnjgljlkbaaDoor.b8 x.mode], [Go.Proofs.YtmfdpnjgljlkbaaDoor.b8 (argP x.aR x.aN s')], [Go.Proofs.YtmfdpnjgljlkbaaDoor.b8 (argP x.bR x.bN s')]] = (out ++ [x.op, x.loc, x.mode, argP x.aR x.aN s', argP x.bR x.bN s']).map b1 := by simp [b1]
     first
      | (have e : stepR loads x i s' out = (i + x.skip.toNat + 1, s', out) := by unfold stepR; rw [if_pos h34, if_pos h39, Nat.add_right_comm]
         rw [e] at hrun
         exact ⟨_, by omega, _, ⟨_, f, s', out, _, _, rfl, rfl, by omega, by omega, hrun, by omega, H.sel [2, 3] rfl rfl⟩, F.to (by repeat (first | exact trivial | refine Le.cons rfl ?_))⟩)
      | (have e : stepR loads x i s' out = (i + 1, s', out) := by unfold stepR; rw [if_pos h34, if_neg (by rw [h39]; simp)]
         rw [e] at hrun
         exact ⟨_, by omega, _, ⟨_, f, s', out, _, _, rfl, rfl, by omega, by omega, hrun, by omega, H.sel [2, 3] rfl rfl⟩, F.to (by repeat (first | exact trivial | refine Le.cons rfl ?_))⟩)
      | (have e : stepR loads x i s' out = (i + 1, put s' (x.dst % 8).toNat (fnP (x.fn % 4).toNat (argP x.aR x.aN s') (argP x.bR x.bN s')), out) := by unfold stepR; rw [if_neg h34, if_pos h45]
         rw [e] at hrun
         exact ⟨_, by omega, _, ⟨_, f, _, out, _, _, rfl, rfl, by omega, by omega, hrun, by omega, H.sel [2, 3] rfl rfl⟩, F.to (by repeat (first | exact trivial | refine Le.cons rfl ?_))⟩)
      | (have e : stepR loads x i s' out = (i + 1, put s' (x.dst % 8).toNat (loadP loads (out.length + 5)), out ++ [x.op, x.loc, x.mode, argP x.aR x.aN s', argP x.bR x.bN s']) := by unfold stepR; rw [if_neg h34, if_neg h45]; simp only [List.length_append, List.length_cons, List.length_nil, Nat.zero_add, Nat.reduceAdd]; rw [if_pos ⟨h80, h84⟩]
         rw [e] at hrun
         rw [eo] at H
         rw [el] at F
         exact ⟨_, by omega, _, ⟨_, f, _, _, _, _, rfl, rfl, by omega, by omega, hrun, by simp; omega, by simpa using H.sel [2, 3] rfl rfl⟩, F.to (by repeat (first | exact trivial | refine Le.cons rfl ?_))⟩)
      | (have e : stepR loads x i s' out = (i + 1, s', out ++ [x.op, x.loc, x.mode, argP x.aR x.aN s', argP x.bR x.bN s']) := by unfold stepR; rw [if_neg h34, if_neg h45]; dsimp only; rw [if_neg (by first | exact fun h => h.1 h80 | exact fun h => h.2 h84)]
         rw [e] at hrun
         rw [eo] at H
         rw [el] at F
         exact ⟨_, by omega, _, ⟨_, f, _, _, _, _, rfl, rfl, by omega, by omega, hrun, by simp; omega, by simpa using H.sel [2, 3] rfl rfl⟩, F.to (by repeat (first | exact trivial | refine Le.cons rfl ?_))⟩))
   replace h45 := beqF h45
   refine wp_skip ?_
   refine hK10 _ _ ?_; clear hK10
   refine cSeq (fun K17 hK17 => ?_)
   refine cReg ?_
   refine sMv F rfl rfl rfl ?_;clear F a;intro a F
   refine sFa (f := 0) (k := 0) Tryd.underlying50 rfl Tryd.sizeOf5 rfl rfl F rfl rfl rfl ?_;clear F a;intro a F
   refine sLd Tryd.isAgg5 F rfl rfl rfl (H.cell 0 rfl rfl) ?_;clear F a;intro a F
   refine sFa (f := 2) (k := 2) Tryd.underlying50 rfl Tryd.sizeOf5 rfl rfl F rfl rfl rfl ?_;clear F a;intro a F
   refine sLd Tryd.isAgg5 F rfl rfl rfl (H.cell 0 rfl rfl) ?_;clear F a;intro a F
   refine sFa (f := 6) (k := 8) Tryd.underlying50 rfl Tryd.sizeOf5 rfl rfl F rfl rfl rfl ?_;clear F a;intro a F
   refine sLd Tryd.isAgg5 F rfl rfl rfl (H.cell 0 rfl rfl) ?_;clear F a;intro a F
   refine sMv F rfl rfl rfl ?_;clear F a;intro a F
   refine sMv F rfl rfl rfl ?_;clear F a;intro a F
   refine sBs H Tryd.underlying34 Tryd.sizeOf5 Tryd.zeroValue5 rfl F rfl rfl rfl rfl rfl ?_
   clear F a H; intro b75 a w F H
   refine sAppO (bytes := 1) (sz := 1) H 2 Tryd.underlying34 Tryd.typeInfo5 rfl rfl rfl rfl rfl rfl F rfl rfl rfl rfl rfl ?hm ((RowsAt.ofRange (sz := 1) (rows := [[_], [_], [_], [_], [_]]) (H.whole 0 rfl) (by simp))) ((by simp)) ((by simp [Go.Proofs.YtmfdpnjgljlkbaaDoor.b8, Value.oneCell'])) ?hb ?_
   case hm => first | rfl | (simp; done) | omega | (simp only [List.length_take, List.length_map]; omega) | (simp; omega)
   case hb => exact ((by rw [List.length_map]; omega))
   clear F a H; intro A76 c76 a w F H
   refine sAs F rfl rfl rfl ?_;clear F a;intro a F
   refine sNil ?_
   refine hK17 _ _ ?_; clear hK17
   refine cSeq (fun K18 hK18 => ?_)
   refine cReg ?_
   refine sFa (f := 0) (k := 0) Tryd.underlying50 rfl Tryd.sizeOf5 rfl rfl F rfl rfl rfl ?_;clear F a;intro a F
   refine sLd Tryd.isAgg5 F rfl rfl rfl (H.cell 1 rfl rfl) ?_;clear F a;intro a F
   refine sBin F rfl rfl rfl rfl (bNeqB (y := 2)) ?_;clear F a;intro a F
   refine sMv F rfl rfl rfl ?_;clear F a;intro a F
   refine F.split 80 rfl ?_ ?_ <;> (clear F; intro h80 F)
   ·
    replace h80 := bneT h80
    simp only [List.length_append, List.length_map, List.length_cons, List.length_nil, Nat.zero_add, Nat.reduceAdd] at F
    refine sFa (f := 0) (k := 0) Tryd.underlying50 rfl Tryd.sizeOf5 rfl rfl F rfl rfl rfl ?_;clear F a;intro a F
    refine sLd Tryd.isAgg5 F rfl rfl rfl (H.cell 1 rfl rfl) ?_;clear F a;intro a F
    refine sBin F rfl rfl rfl rfl (bNeqB (y := 7)) ?_;clear F a;intro a F
    refine sPk F rfl rfl rfl rfl ?_;clear F a;intro a F
    refine sNil ?_
    refine hK18 _ _ ?_; clear hK18
    refine cIf F rfl (fun h84 => ?_) (fun h84 => ?_)
    ·
     replace h84 := bneT h84
     refine cSeq (fun K19 hK19 => ?_)
     refine cReg ?_
     refine sAs F rfl rfl rfl ?_;clear F a;intro a F
     refine sNil ?_
     refine hK19 _ _ ?_; clear hK19
     refine cSeq (fun K20 hK20 => ?_)
     refine cSeq (fun K21 hK21 => ?_)
     refine cReg ?_
     refine sMv F rfl rfl rfl ?_;clear F a;intro a F
     refine sLen Tryd.underlying34 F rfl rfl rfl ?_;clear F a;intro a F
     refine sBin F rfl rfl rfl rfl bGtr ?_;clear F a;intro a F
     refine sNil ?_
     refine hK21 _ _ ?_; clear hK21
     refine cIf F rfl (fun h87 => ?_) (fun h87 => ?_)
     ·
      replace h87 := of_decide_eq_true h87
      obtain ⟨bL, oL, rfl, hLx⟩ := loadAt hL (out.length + 5) (by omega)
      refine cReg ?_
      refine sMv F rfl rfl rfl ?_;clear F a;intro a F
      refine sMv F rfl rfl rfl ?_;clear F a;intro a F
      refine sLen Tryd.underlying34 F rfl rfl rfl ?_;clear F a;intro a F
      refine sMv F rfl rfl rfl ?_;clear F a;intro a F
      refine sLen Tryd.underlying34 F rfl rfl rfl ?_;clear F a;intro a F
      refine sBin F rfl rfl rfl rfl (bRemN ?_) ?_
      focus omega
      clear F a; intro a F
      refine sIx Tryd.underlying34 Tryd.sizeOf5 F rfl rfl rfl rfl ?_ ?_
      focus (exact Nat.mod_lt _ (by omega))
      clear F a; intro a F
      refine sLd Tryd.isAgg5 F rfl rfl rfl (H.arg hLx) ?_;clear F a;intro a F
      refine sAs F rfl rfl rfl ?_;clear F a;intro a F
      refine sNil ?_
      refine hK20 _ _ ?_; clear hK20
      refine cReg ?_
      refine sFa (f := 1) (k := 1) Tryd.underlying50 rfl Tryd.sizeOf5 rfl rfl F rfl rfl rfl ?_;clear F a;intro a F
      refine sLd Tryd.isAgg5 F rfl rfl rfl (H.cell 1 rfl rfl) ?_;clear F a;intro a F
      refine sBin F rfl rfl rfl rfl (bRemB (y := 8) ?_) ?_
      focus decide
      clear F a; intro a F
      refine sMv F rfl rfl rfl ?_;clear F a;intro a F
      refine sIaZ1 Tryd.underlying52 Tryd.sizeOf5 F rfl rfl rfl rfl ?_ ?_
      focus (first | omega | decide | (simp; omega))
      clear F a; intro a F
      refine sStB H 3 Tryd.sizeOf5 F rfl rfl rfl rfl (by omega) ?_
      clear H; intro w H
      refine sNil ?_
      refine hK7 _ _ ?_; clear hK7
      refine cReg ?_
      refine sMv F rfl rfl rfl ?_;clear F a;intro a F
      refine sBin F rfl rfl rfl rfl (bAddN (j := 1) ?_) ?_
      focus omega
      clear F a; intro a F
      refine sAs F rfl rfl rfl ?_;clear F a;intro a F
      refine sNil ?_
      (try simp only [Nat.zero_add, Nat.mul_one] at H
       have el : out.length + 5 = (out ++ [x.op, x.loc, x.mode, argP x.aR x.aN s', argP x.bR x.bN s']).length := by simp
       have eo : out.map b1 ++ [[Go.Proofs.YtmfdpnjgljlkbaaDoor.b8 x.op], [Go.Proofs.YtmfdpnjgljlkbaaDoor.b8 x.loc], [Go.Proofs.YtmfdpnjgljlkbaaDoor.b8 x.mode], [Go.Proofs.YtmfdpnjgljlkbaaDoor.b8 (argP x.aR x.aN s')], [Go.Proofs.YtmfdpnjgljlkbaaDoor.b8 (argP x.bR x.bN s')]] = (out ++ [x.op, x.loc, x.mode, argP x.aR x.aN s', argP x.bR x.bN s']).map b1 := by simp [b1]
       first
        | (have e : stepR loads x i s' out = (i + x.skip.toNat + 1, s', out) := by unfold stepR; rw [if_pos h34, if_pos h39, Nat.add_right_comm]
           rw [e] at hrun
           exact ⟨_, by omega, _, ⟨_, f, s', out, _, _, rfl, rfl, by omega, by omega, hrun, by omega, H.sel [2, 3] rfl rfl⟩, F.to (by repeat (first | exact trivial | refine Le.cons rfl ?_))⟩)
        | (have e : stepR loads x i s' out = (i + 1, s', out) := by unfold stepR; rw [if_pos h34, if_neg (by rw [h39]; simp)]
           rw [e] at hrun
           exact ⟨_, by omega, _, ⟨_, f, s', out, _, _, rfl, rfl, by omega, by omega, hrun, by omega, H.sel [2, 3] rfl rfl⟩, F.to (by repeat (first | exact trivial | refine Le.cons rfl ?_))⟩)
        | (have e : stepR loads x i s' out = (i + 1, put s' (x.dst % 8).toNat (fnP (x.fn % 4).toNat (argP x.aR x.aN s') (argP x.bR x.bN s')), out) := by unfold stepR; rw [if_neg h34, if_pos h45]
           rw [e] at hrun
           exact ⟨_, by omega, _, ⟨_, f, _, out, _, _, rfl, rfl, by omega, by omega, hrun, by omega, H.sel [2, 3] rfl rfl⟩, F.to (by repeat (first | exact trivial | refine Le.cons rfl ?_))⟩)
        | (have e : stepR loads x i s' out = (i + 1, put s' (x.dst % 8).toNat (loadP loads (out.length + 5)), out ++ [x.op, x.loc, x.mode, argP x.aR x.aN s', argP x.bR x.bN s']) := by unfold stepR; rw [if_neg h34, if_neg h45]; simp only [List.length_append, List.length_cons, List.length_nil, Nat.zero_add, Nat.reduceAdd]; rw [if_pos ⟨h80, h84⟩]
           rw [e] at hrun
           rw [eo] at H
           rw [el] at F
           exact ⟨_, by omega, _, ⟨_, f, _, _, _, _, rfl, rfl, by omega, by omega, hrun, by simp; omega, by simpa using H.sel [2, 3] rfl rfl⟩, F.to (by repeat (first | exact trivial | refine Le.cons rfl ?_))⟩)
        | (have e : stepR loads x i s' out = (i + 1, s', out ++ [x.op, x.loc, x.mode, argP x.aR x.aN s', argP x.bR x.bN s']) := by unfold stepR; rw [if_neg h34, if_neg h45]; dsimp only; rw [if_neg (by first | exact fun h => h.1 h80 | exact fun h => h.2 h84)]
           rw [e] at hrun
           rw [eo] at H
           rw [el] at F
           exact ⟨_, by omega, _, ⟨_, f, _, _, _, _, rfl, rfl, by omega, by omega, hrun, by simp; omega, by simpa using H.sel [2, 3] rfl rfl⟩, F.to (by repeat (first | exact trivial | refine Le.cons rfl ?_))⟩))
     replace h87 := of_decide_eq_false h87
     have e0 : Value.int IntKind.u8 0 = Go.Proofs.YtmfdpnjgljlkbaaDoor.b8 (loadP loads (out.length + 5)) := by rw [loadP, if_neg (by omega)]; rfl
     rw [e0] at F
     refine wp_skip ?_
     refine hK20 _ _ ?_; clear hK20
     refine cReg ?_
     refine sFa (f := 1) (k := 1) Tryd.underlying50 rfl Tryd.sizeOf5 rfl rfl F rfl rfl rfl ?_;clear F a;intro a F
     refine sLd Tryd.isAgg5 F rfl rfl rfl (H.cell 1 rfl rfl) ?_;clear F a;intro a F
     refine sBin F rfl rfl rfl rfl (bRemB (y := 8) ?_) ?_
     focus decide
     clear F a; intro a F
     refine sMv F rfl rfl rfl ?_;clear F a;intro a F
     refine sIaZ1 Tryd.underlying52 Tryd.sizeOf5 F rfl rfl rfl rfl ?_ ?_
     focus (first | omega | decide | (simp; omega))
     clear F a; intro a F
     refine sStB H 3 Tryd.sizeOf5 F rfl rfl rfl rfl (by omega) ?_
     clear H; intro w H
     refine sNil ?_
     refine hK7 _ _ ?_; clear hK7
     refine cReg ?_
     refine sMv F rfl rfl rfl ?_;clear F a;intro a F
     refine sBin F rfl rfl rfl rfl (bAddN (j := 1) ?_) ?_
     focus omega
     clear F a; intro a F
     refine sAs F rfl rfl rfl ?_;clear F a;intro a F
     refine sNil ?_
     (try simp only [Nat.zero_add, Nat.mul_one] at H
      have el : out.length + 5 = (out ++ [x.op, x.loc, x.mode, argP x.aR x.aN s', argP x.bR x.bN s']).length := by simp
      have eo : out.map b1 ++ [[Go.Proofs.YtmfdpnjgljlkbaaDoor.b8 x.op], [Go.Proofs.YtmfdpnjgljlkbaaDoor.b8 x.loc], [Go.Proofs.YtmfdpnjgljlkbaaDoor.b8 x.mode], [Go.Proofs.YtmfdpnjgljlkbaaDoor.b8 (argP x.aR x.aN s')], [Go.Proofs.YtmfdpnjgljlkbaaDoor.b8 (argP x.bR x.bN s')]] = (out ++ [x.op, x.loc, x.mode, argP x.aR x.aN s', argP x.bR x.bN s']).map b1 := by simp [b1]
      first
       | (have e : stepR loads x i s' out = (i + x.skip.toNat + 1, s', out) := by unfold stepR; rw [if_pos h34, if_pos h39, Nat.add_right_comm]
          rw [e] at hrun
          exact ⟨_, by omega, _, ⟨_, f, s', out, _, _, rfl, rfl, by omega, by omega, hrun, by omega, H.sel [2, 3] rfl rfl⟩, F.to (by repeat (first | exact trivial | refine Le.cons rfl ?_))⟩)
       | (have e : stepR loads x i s' out = (i + 1, s', out) := by unfold stepR; rw [if_pos h34, if_neg (by rw [h39]; simp)]
          rw [e] at hrun
          exact ⟨_, by omega, _, ⟨_, f, s', out, _, _, rfl, rfl, by omega, by omega, hrun, by omega, H.sel [2, 3] rfl rfl⟩, F.to (by repeat (first | exact trivial | refine Le.cons rfl ?_))⟩)
       | (have e : stepR loads x i s' out = (i + 1, put s' (x.dst % 8).toNat (fnP (x.fn % 4).toNat (argP x.aR x.aN s') (argP x.bR x.bN s')), out) := by unfold stepR; rw [if_neg h34, if_pos h45]
          rw [e] at hrun
          exact ⟨_, by omega, _, ⟨_, f, _, out, _, _, rfl, rfl, by omega, by omega, hrun, by omega, H.sel [2, 3] rfl rfl⟩, F.to (by repeat (first | exact trivial | refine Le.cons rfl ?_))⟩)
       | (have e : stepR loads x i s' out = (i + 1, put s' (x.dst % 8).toNat (loadP loads (out.length + 5)), out ++ [x.op, x.loc, x.mode, argP x.aR x.aN s', argP x.bR x.bN s']) := by unfold stepR; rw [if_neg h34, if_neg h45]; simp only [List.length_append, List.length_cons, List.length_nil, Nat.zero_add, Nat.reduceAdd]; rw [if_pos ⟨h80, h84⟩]
          rw [e] at hrun
          rw [eo] at H
          rw [el] at F
          exact ⟨_, by omega, _, ⟨_, f, _, _, _, _, rfl, rfl, by omega, by omega, hrun, by simp; omega, by simpa using H.sel [2, 3] rfl rfl⟩, F.to (by repeat (first | exact trivial | refine Le.cons rfl ?_))⟩)
       | (have e : stepR loads x i s' out = (i + 1, s', out ++ [x.op, x.loc, x.mode, argP x.aR x.aN s', argP x.bR x.bN s']) := by unfold stepR; rw [if_neg h34, if_neg h45]; dsimp only; rw [if_neg (by first | exact fun h => h.1 h80 | exact fun h => h.2 h84)]
          rw [e] at hrun
          rw [eo] at H
          rw [el] at F
          exact ⟨_, by omega, _, ⟨_, f, _, _, _, _, rfl, rfl, by omega, by omega, hrun, by simp; omega, by simpa using H.sel [2, 3] rfl rfl⟩, F.to (by repeat (first | exact trivial | refine Le.cons rfl ?_))⟩))
    replace h84 := bneF h84
    refine wp_skip ?_
    refine hK7 _ _ ?_; clear hK7
    refine cReg ?_
    refine sMv F rfl rfl rfl ?_;clear F a;intro a F
    refine sBin F rfl rfl rfl rfl (bAddN (j := 1) ?_) ?_
    focus omega
    clear F a; intro a F
    refine sAs F rfl rfl rfl ?_;clear F a;intro a F
    refine sNil ?_
    (try simp only [Nat.zero_add, Nat.mul_one] at H
     have el : out.length + 5 = (out ++ [x.op, x.loc, x.mode, argP x.aR x.aN s', argP x.bR x.bN s']).length := by simp
     have eo : out.map b1 ++ [[Go.Proofs.YtmfdpnjgljlkbaaDoor.b8 x.op], [Go.Proofs.YtmfdpnjgljlkbaaDoor.b8 x.loc], [Go.Proofs.YtmfdpnjgljlkbaaDoor.b8 x.mode], [Go.Proofs.YtmfdpnjgljlkbaaDoor.b8 (argP x.aR x.aN s')], [Go.Proofs.YtmfdpnjgljlkbaaDoor.b8 (argP x.bR x.bN s')]] = (out ++ [x.op, x.loc, x.mode, argP x.aR x.aN s', argP x.bR x.bN s']).map b1 := by simp [b1]
     first
      | (have e : stepR loads x i s' out = (i + x.skip.toNat + 1, s', out) := by unfold stepR; rw [if_pos h34, if_pos h39, Nat.add_right_comm]
         rw [e] at hrun
         exact ⟨_, by omega, _, ⟨_, f, s', out, _, _, rfl, rfl, by omega, by omega, hrun, by omega, H.sel [2, 3] rfl rfl⟩, F.to (by repeat (first | exact trivial | refine Le.cons rfl ?_))⟩)
      | (have e : stepR loads x i s' out = (i + 1, s', out) := by unfold stepR; rw [if_pos h34, if_neg (by rw [h39]; simp)]
         rw [e] at hrun
         exact ⟨_, by omega, _, ⟨_, f, s', out, _, _, rfl, rfl, by omega, by omega, hrun, by omega, H.sel [2, 3] rfl rfl⟩, F.to (by repeat (first | exact trivial | refine Le.cons rfl ?_))⟩)
      | (have e : stepR loads x i s' out = (i + 1, put s' (x.dst % 8).toNat (fnP (x.fn % 4).toNat (argP x.aR x.aN s') (argP x.bR x.bN s')), out) := by unfold stepR; rw [if_neg h34, if_pos h45]
         rw [e] at hrun
         exact ⟨_, by omega, _, ⟨_, f, _, out, _, _, rfl, rfl, by omega, by omega, hrun, by omega, H.sel [2, 3] rfl rfl⟩, F.to (by repeat (first | exact trivial | refine Le.cons rfl ?_))⟩)
      | (have e : stepR loads x i s' out = (i + 1, put s' (x.dst % 8).toNat (loadP loads (out.length + 5)), out ++ [x.op, x.loc, x.mode, argP x.aR x.aN s', argP x.bR x.bN s']) := by unfold stepR; rw [if_neg h34, if_neg h45]; simp only [List.length_append, List.length_cons, List.length_nil, Nat.zero_add, Nat.reduceAdd]; rw [if_pos ⟨h80, h84⟩]
         rw [e] at hrun
         rw [eo] at H
         rw [el] at F
         exact ⟨_, by omega, _, ⟨_, f, _, _, _, _, rfl, rfl, by omega, by omega, hrun, by simp; omega, by simpa using H.sel [2, 3] rfl rfl⟩, F.to (by repeat (first | exact trivial | refine Le.cons rfl ?_))⟩)
      | (have e : stepR loads x i s' out = (i + 1, s', out ++ [x.op, x.loc, x.mode, argP x.aR x.aN s', argP x.bR x.bN s']) := by unfold stepR; rw [if_neg h34, if_neg h45]; dsimp only; rw [if_neg (by first | exact fun h => h.1 h80 | exact fun h => h.2 h84)]
         rw [e] at hrun
         rw [eo] at H
         rw [el] at F
         exact ⟨_, by omega, _, ⟨_, f, _, _, _, _, rfl, rfl, by omega, by omega, hrun, by simp; omega, by simpa using H.sel [2, 3] rfl rfl⟩, F.to (by repeat (first | exact trivial | refine Le.cons rfl ?_))⟩))
   replace h80 := bneF h80
   simp only [List.length_append, List.length_map, List.length_cons, List.length_nil, Nat.zero_add, Nat.reduceAdd] at F
   refine sSk F rfl rfl ?_;clear F a;intro a F
   refine sSk F rfl rfl ?_;clear F a;intro a F
   refine sSk F rfl rfl ?_;clear F a;intro a F
   refine sPk F rfl rfl rfl rfl ?_;clear F a;intro a F
   refine sNil ?_
   refine hK18 _ _ ?_; clear hK18
   refine cIfF F rfl ?_
   refine wp_skip ?_
   refine hK7 _ _ ?_; clear hK7
   refine cReg ?_
   refine sMv F rfl rfl rfl ?_;clear F a;intro a F
   refine sBin F rfl rfl rfl rfl (bAddN (j := 1) ?_) ?_
   focus omega
   clear F a; intro a F
   refine sAs F rfl rfl rfl ?_;clear F a;intro a F
   refine sNil ?_
   (try simp only [Nat.zero_add, Nat.mul_one] at H
    have el : out.length + 5 = (out ++ [x.op, x.loc, x.mode, argP x.aR x.aN s', argP x.bR x.bN s']).length := by simp
    have eo : out.map b1 ++ [[Go.Proofs.YtmfdpnjgljlkbaaDoor.b8 x.op], [Go.Proofs.YtmfdpnjgljlkbaaDoor.b8 x.loc], [Go.Proofs.YtmfdpnjgljlkbaaDoor.b8 x.mode], [Go.Proofs.YtmfdpnjgljlkbaaDoor.b8 (argP x.aR x.aN s')], [Go.Proofs.YtmfdpnjgljlkbaaDoor.b8 (argP x.bR x.bN s')]] = (out ++ [x.op, x.loc, x.mode, argP x.aR x.aN s', argP x.bR x.bN s']).map b1 := by simp [b1]
    first
     | (have e : stepR loads x i s' out = (i + x.skip.toNat + 1, s', out) := by unfold stepR; rw [if_pos h34, if_pos h39, Nat.add_right_comm]
        rw [e] at hrun
        exact ⟨_, by omega, _, ⟨_, f, s', out, _, _, rfl, rfl, by omega, by omega, hrun, by omega, H.sel [2, 3] rfl rfl⟩, F.to (by repeat (first | exact trivial | refine Le.cons rfl ?_))⟩)
     | (have e : stepR loads x i s' out = (i + 1, s', out) := by unfold stepR; rw [if_pos h34, if_neg (by rw [h39]; simp)]
        rw [e] at hrun
        exact ⟨_, by omega, _, ⟨_, f, s', out, _, _, rfl, rfl, by omega, by omega, hrun, by omega, H.sel [2, 3] rfl rfl⟩, F.to (by repeat (first | exact trivial | refine Le.cons rfl ?_))⟩)
     | (have e : stepR loads x i s' out = (i + 1, put s' (x.dst % 8).toNat (fnP (x.fn % 4).toNat (argP x.aR x.aN s') (argP x.bR x.bN s')), out) := by unfold stepR; rw [if_neg h34, if_pos h45]
        rw [e] at hrun
        exact ⟨_, by omega, _, ⟨_, f, _, out, _, _, rfl, rfl, by omega, by omega, hrun, by omega, H.sel [2, 3] rfl rfl⟩, F.to (by repeat (first | exact trivial | refine Le.cons rfl ?_))⟩)
     | (have e : stepR loads x i s' out = (i + 1, put s' (x.dst % 8).toNat (loadP loads (out.length + 5)), out ++ [x.op, x.loc, x.mode, argP x.aR x.aN s', argP x.bR x.bN s']) := by unfold stepR; rw [if_neg h34, if_neg h45]; simp only [List.length_append, List.length_cons, List.length_nil, Nat.zero_add, Nat.reduceAdd]; rw [if_pos ⟨h80, h84⟩]
        rw [e] at hrun
        rw [eo] at H
        rw [el] at F
        exact ⟨_, by omega, _, ⟨_, f, _, _, _, _, rfl, rfl, by omega, by omega, hrun, by simp; omega, by simpa using H.sel [2, 3] rfl rfl⟩, F.to (by repeat (first | exact trivial | refine Le.cons rfl ?_))⟩)
     | (have e : stepR loads x i s' out = (i + 1, s', out ++ [x.op, x.loc, x.mode, argP x.aR x.aN s', argP x.bR x.bN s']) := by unfold stepR; rw [if_neg h34, if_neg h45]; dsimp only; rw [if_neg (by first | exact fun h => h.1 h80 | exact fun h => h.2 h84)]
        rw [e] at hrun
        rw [eo] at H
        rw [el] at F
        exact ⟨_, by omega, _, ⟨_, f, _, _, _, _, rfl, rfl, by omega, by omega, hrun, by simp; omega, by simpa using H.sel [2, 3] rfl rfl⟩, F.to (by repeat (first | exact trivial | refine Le.cons rfl ?_))⟩))
  replace h17 := of_decide_eq_false h17
  have hfin : (runG l loads l.length 0 s []) = (s', out) := by rw [hrun, runG_none (by omega)]
  refine wp_exit ?_
  refine hK3 _ _ ?_; clear hK3
  refine cSeq (fun K22 hK22 => ?_)
  refine cSeq (fun K23 hK23 => ?_)
  refine cReg ?_
  refine sAs F rfl rfl rfl ?_;clear F a;intro a F
  refine sNil ?_
  refine hK23 _ _ ?_; clear hK23
  refine wp_block ?_
  refine cLoopR [4] (fun m ups w => ∃ (k : Nat) (B' : Option Addr) (c' : Nat), m = 8 - k ∧ ups = [(7, .slice B' (out.length + k) c'), (13, .int .i64 ((k : Nat) : Int))] ∧ k ≤ 8 ∧ Own w0 none w [.rws 5 1 (.slice B' (out.length + k) c') ((out ++ (List.range k).map s').map b1), .blk b4 (bs 8 s') 52]) F (8) [(7, .slice B out.length c), (13, .int .i64 ((0 : Nat) : Int))] (by repeat (first | exact SubR.nil | (apply SubR.cons; · rfl))) ?_ ?_ ?_
  · exact ⟨0, B, c, rfl, rfl, by omega, by simpa using H.sel [0, 1] rfl rfl⟩
  · repeat (first | exact trivial | refine Le.cons rfl ?_)
  clear F
  clear H
  intro m ups a w hI F
  obtain ⟨k, B', c', rfl, rfl, hk, H⟩ := hI
  refine cSeq (fun K24 hK24 => ?_)
  refine cSeq (fun K25 hK25 => ?_)
  refine cReg ?_
  refine sMv F rfl rfl rfl ?_;clear F a;intro a F
  refine sBin F rfl rfl rfl rfl bLss ?_;clear F a;intro a F
  refine sNil ?_
  refine hK25 _ _ ?_; clear hK25
  refine cIf F rfl (fun h102 => ?_) (fun h102 => ?_)
  ·
   replace h102 := of_decide_eq_true h102
   refine wp_skip ?_
   refine hK24 _ _ ?_; clear hK24
   refine cSeq (fun K26 hK26 => ?_)
   refine wp_block ?_
   refine cReg ?_
   refine sMv F rfl rfl rfl ?_;clear F a;intro a F
   refine sMv F rfl rfl rfl ?_;clear F a;intro a F
   refine sIaZ1 Tryd.underlying52 Tryd.sizeOf5 F rfl rfl rfl rfl ?_ ?_
   focus (first | omega | decide | (simp; omega))
   clear F a; intro a F
   refine sLd Tryd.isAgg5 F rfl rfl rfl (H.cellB 1 rfl (by omega)) ?_;clear F a;intro a F
   refine sBs1 H Tryd.underlying34 Tryd.sizeOf5 Tryd.zeroValue5 rfl F rfl rfl rfl rfl ?_
   clear F a H; intro b109 a w F H
   refine sApp1 (bytes := 1) H 1 Tryd.underlying34 Tryd.typeInfo5 rfl rfl rfl rfl rfl rfl F rfl rfl rfl rfl rfl (H.whole 0 rfl) rfl ?s1 ?s2 ?_
   case s1 => first | rfl | (repeat (first | exact one_nil | (apply one_cons; · first | rfl | assumption | exact one_bif rfl rfl)))
   case s2 => (rw [List.length_map, List.length_append, List.length_map, List.length_range]; omega)
   clear F a H; intro A110 c110 a w F H
   refine sAs F rfl rfl rfl ?_;clear F a;intro a F
   refine sNil ?_
   refine hK26 _ _ ?_; clear hK26
   refine cReg ?_
   refine sMv F rfl rfl rfl ?_;clear F a;intro a F
   refine sBin F rfl rfl rfl rfl (bAddN (j := 1) ?_) ?_
   focus omega
   clear F a; intro a F
   refine sAs F rfl rfl rfl ?_;clear F a;intro a F
   refine sNil ?_
   (have e : (out ++ (List.range k).map s').map b1 ++ [[Go.Proofs.YtmfdpnjgljlkbaaDoor.b8 (s' k)]] = (out ++ (List.range (k + 1)).map s').map b1 := by rw [List.range_succ]; simp [b1]
    rw [e] at H F
    have el : ((out ++ (List.range (k + 1)).map s').map b1).length = out.length + (k + 1) := by simp
    rw [el] at H F
    exact ⟨_, by omega, _, ⟨k + 1, _, _, rfl, rfl, by omega, H.sel [1, 2] rfl rfl⟩, F.to (by repeat (first | exact trivial | refine Le.cons rfl ?_))⟩)
  replace h102 := of_decide_eq_false h102
  obtain rfl : k = 8 := by omega
  have er : runP l s loads = out ++ (List.range 8).map s' := by rw [runP, hfin]
  have el : out.length + 8 = (runP l s loads).length := by rw [er]; simp
  rw [← er, el] at H
  rw [el] at F
  refine wp_exit ?_
  refine hK22 _ _ ?_; clear hK22
  refine cSeq (fun K27 hK27 => ?_)
  refine cReg ?_
  refine sMv F rfl rfl rfl ?_;clear F a;intro a F
  refine sAs F rfl rfl rfl ?_;clear F a;intro a F
  refine sNil ?_
  refine hK27 _ _ ?_; clear hK27
  refine wp_ret ?_
  refine bRet Tryd.results23 F rfl ?_
  exact ⟨_, _, rfl, H.pick 0 rfl⟩
end Go.Proofs.YtmfdpnjgljlkbaaDoor
