/-
  WALK2. The reference's arg, ins, Thread, Deep, cond, Cond. Conditions: the arguments lie in memory.
-/
import Derived.Test.YtmfdpnjgljlkbaaDoorRfP
import Derived.Test.YtmfdpnjgljlkbaaDoorVcL
set_option linter.unusedSimpArgs false
set_option linter.unusedVariables false
namespace Go.Proofs.YtmfdpnjgljlkbaaDoor
open Go.RowKit
set_option maxRecDepth 100000

theorem rarg_any (r : Bool) (n : UInt8) (w0 : World) : Calls Tryd.prog 64 #[.agg #[.bool r, b8 n]] w0 fun e w' => e = .returned (.bool (argOk r n)) ∧ Below w0.heap.size w0 w' := by
  have H := Own.start w0 none
  refine enterF Tryd.func64 rfl Tryd.ntmps64 rfl (fun a F => ?_)
  refine cSeq (fun K1 hK1 => ?_)
  refine cReg ?_
  refine sBx H F rfl rfl rfl ?_
  clear F a H; intro b1 a w F H
  refine sAs F rfl rfl rfl ?_;clear F a;intro a F
  refine sNil ?_
  refine hK1 _ _ ?_; clear hK1
  refine cSeq (fun K2 hK2 => ?_)
  refine cReg ?_
  refine sFa (f := 0) (k := 0) Tryd.underlying48 rfl Tryd.sizeOf4 rfl rfl F rfl rfl rfl ?_;clear F a;intro a F
  refine sLd Tryd.isAgg4 F rfl rfl rfl (H.cell 0 rfl rfl) ?_;clear F a;intro a F
  refine sNot F rfl rfl rfl ?_;clear F a;intro a F
  refine sMv F rfl rfl rfl ?_;clear F a;intro a F
  refine F.split 6 rfl ?_ ?_ <;> (clear F; intro h6 F)
  ·
   replace h6 := notT h6
   refine sSk F rfl rfl ?_;clear F a;intro a F
   refine sSk F rfl rfl ?_;clear F a;intro a F
   refine sSk F rfl rfl ?_;clear F a;intro a F
   refine sPk F rfl rfl rfl rfl ?_;clear F a;intro a F
   refine sAs F rfl rfl rfl ?_;clear F a;intro a F
   refine sNil ?_
   refine hK2 _ _ ?_; clear hK2
   refine wp_ret ?_
   refine bRet Tryd.results64 F rfl ?_
   exact ⟨retB (by simp_all [argOk]), H.below⟩
  replace h6 := notF h6
  refine sFa (f := 1) (k := 1) Tryd.underlying48 rfl Tryd.sizeOf5 rfl rfl F rfl rfl rfl ?_;clear F a;intro a F
  refine sLd Tryd.isAgg5 F rfl rfl rfl (H.cell 0 rfl rfl) ?_;clear F a;intro a F
  refine sBin F rfl rfl rfl rfl (bLssB (y := 8)) ?_;clear F a;intro a F
  refine sPk F rfl rfl rfl rfl ?_;clear F a;intro a F
  refine sAs F rfl rfl rfl ?_;clear F a;intro a F
  refine sNil ?_
  refine hK2 _ _ ?_; clear hK2
  refine wp_ret ?_
  refine bRet Tryd.results64 F rfl ?_
  exact ⟨retB (by simp_all [argOk]), H.below⟩
set_option maxHeartbeats 4000000 in
theorem rins_any (x : Ins) (locs after : Int) (w0 : World) : Calls Tryd.prog 34 #[.agg x.cells.toArray, .int .i64 locs, .int .i64 after] w0 fun e w' => e = .returned (.bool (insOk x locs after)) ∧ Below w0.heap.size w0 w' := by
  have H := Own.start w0 none
  refine enterF Tryd.func34 rfl Tryd.ntmps34 rfl (fun a F => ?_)
  refine cSeq (fun K1 hK1 => ?_)
  refine cReg ?_
  refine sBx H F rfl rfl rfl ?_
  clear F a H; intro b3 a w F H
  refine sAs F rfl rfl rfl ?_;clear F a;intro a F
  refine sNil ?_
  refine hK1 _ _ ?_; clear hK1
  refine cSeq (fun K2 hK2 => ?_)
  refine cReg ?_
  refine sFa (f := 0) (k := 0) Tryd.underlying50 rfl Tryd.sizeOf5 rfl rfl F rfl rfl rfl ?_;clear F a;intro a F
  refine sLd Tryd.isAgg5 F rfl rfl rfl (H.cell 0 rfl rfl) ?_;clear F a;intro a F
  refine sBd (places := [(0, 1), (1, 1), (2, 1), (3, 2), (5, 2), (7, 1), (8, 1), (9, 1)]) Tryd.zeroValue50 Tryd.underlying50 (by kernel_rfl) F rfl rfl rfl rfl ?_;clear F a;intro a F
  refine sAl H Tryd.zeroValue50 F rfl rfl ?_
  clear F a H; intro b7 a w F H
  refine sSr H 0 ?si F rfl rfl rfl ?s1 rfl rfl ?_
  case si => exact info_size Tryd.sizeOf50
  case s1 => first | rfl | (repeat (first | exact one_nil | (apply one_cons; · first | rfl | assumption | exact one_bif rfl rfl)))
  clear H; intro w H
  refine sNil ?_
  refine hK2 _ _ ?_; clear hK2
  refine cSeq (fun K3 hK3 => ?_)
  refine cReg ?_
  refine sFa (f := 2) (k := 2) Tryd.underlying50 rfl Tryd.sizeOf5 rfl rfl F rfl rfl rfl ?_;clear F a;intro a F
  refine sLd Tryd.isAgg5 F rfl rfl rfl (H.cell 1 rfl rfl) ?_;clear F a;intro a F
  refine sCv Tryd.underlying5 Tryd.underlying3 F rfl rfl rfl (wrapB _) ?_;clear F a;intro a F
  refine sMv F rfl rfl rfl ?_;clear F a;intro a F
  refine sBin F rfl rfl rfl rfl bLss ?_;clear F a;intro a F
  refine sAs F rfl rfl rfl ?_;clear F a;intro a F
  refine sNil ?_
  refine hK3 _ _ ?_; clear hK3
  refine cSeq (fun K4 hK4 => ?_)
  refine cReg ?_
  refine sFa (f := 1) (k := 1) Tryd.underlying50 rfl Tryd.sizeOf5 rfl rfl F rfl rfl rfl ?_;clear F a;intro a F
  refine sLd Tryd.isAgg5 F rfl rfl rfl (H.cell 1 rfl rfl) ?_;clear F a;intro a F
  refine sBin F rfl rfl rfl rfl (bLssB (y := 8)) ?_;clear F a;intro a F
  refine sAs F rfl rfl rfl ?_;clear F a;intro a F
  refine sNil ?_
  refine hK4 _ _ ?_; clear hK4
  refine cSeq (fun K5 hK5 => ?_)
  refine cSeq (fun K6 hK6 => ?_)
  refine cReg ?_
  refine sFa (f := 0) (k := 0) Tryd.underlying50 rfl Tryd.sizeOf5 rfl rfl F rfl rfl rfl ?_;clear F a;intro a F
  refine sLd Tryd.isAgg5 F rfl rfl rfl (H.cell 1 rfl rfl) ?_;clear F a;intro a F
  refine sCv Tryd.underlying5 Tryd.underlying3 F rfl rfl rfl (wrapB _) ?_;clear F a;intro a F
  refine sNil ?_
  refine hK6 _ _ ?_; clear hK6
  refine wp_block ?_
  refine cSeq (fun K7 hK7 => ?_)
  refine cReg ?_
  refine sBin F rfl rfl rfl rfl bEql ?_;clear F a;intro a F
  refine sAs F rfl rfl rfl ?_;clear F a;intro a F
  refine sNil ?_
  refine hK7 _ _ ?_; clear hK7
  refine cIf F rfl (fun h24 => ?_) (fun h24 => ?_)
  ·
   replace h24 := beqT h24
   have ho : x.op = 1 := UInt8.toNat_inj.1 (by have : (1 : UInt8).toNat = 1 := rfl; omega)
   refine cSeq (fun K8 hK8 => ?_)
   refine cReg ?_
   refine sFa (f := 1) (k := 1) Tryd.underlying50 rfl Tryd.sizeOf5 rfl rfl F rfl rfl rfl ?_;clear F a;intro a F
   refine sLd Tryd.isAgg5 F rfl rfl rfl (H.cell 1 rfl rfl) ?_;clear F a;intro a F
   refine sFa (f := 1) (k := 1) Tryd.underlying50 rfl Tryd.sizeOf5 rfl rfl F rfl rfl rfl ?_;clear F a;intro a F
   refine sSt H 0 Tryd.sizeOf5 F rfl rfl rfl rfl rfl rfl ?_
   clear H; intro w H
   refine sNil ?_
   refine hK8 _ _ ?_; clear hK8
   refine cSeq (fun K9 hK9 => ?_)
   refine cReg ?_
   refine sFa (f := 2) (k := 2) Tryd.underlying50 rfl Tryd.sizeOf5 rfl rfl F rfl rfl rfl ?_;clear F a;intro a F
   refine sLd Tryd.isAgg5 F rfl rfl rfl (H.cell 1 rfl rfl) ?_;clear F a;intro a F
   refine sFa (f := 2) (k := 2) Tryd.underlying50 rfl Tryd.sizeOf5 rfl rfl F rfl rfl rfl ?_;clear F a;intro a F
   refine sSt H 0 Tryd.sizeOf5 F rfl rfl rfl rfl rfl rfl ?_
   clear H; intro w H
   refine sNil ?_
   refine hK9 _ _ ?_; clear hK9
   refine cSeq (fun K10 hK10 => ?_)
   refine cReg ?_
   refine sFa (f := 6) (k := 8) Tryd.underlying50 rfl Tryd.sizeOf5 rfl rfl F rfl rfl rfl ?_;clear F a;intro a F
   refine sLd Tryd.isAgg5 F rfl rfl rfl (H.cell 1 rfl rfl) ?_;clear F a;intro a F
   refine sFa (f := 6) (k := 8) Tryd.underlying50 rfl Tryd.sizeOf5 rfl rfl F rfl rfl rfl ?_;clear F a;intro a F
   refine sSt H 0 Tryd.sizeOf5 F rfl rfl rfl rfl rfl rfl ?_
   clear H; intro w H
   refine sNil ?_
   refine hK10 _ _ ?_; clear hK10
   refine cSeq (fun K11 hK11 => ?_)
   refine cReg ?_
   refine sLr Tryd.underlying50 rfl ?si F rfl rfl rfl (H.whole 1 rfl) ?_
   case si => exact info_size Tryd.sizeOf50
   clear F a; intro a F
   refine sLr Tryd.underlying50 rfl ?si F rfl rfl rfl (H.whole 0 rfl) ?_
   case si => exact info_size Tryd.sizeOf50
   clear F a; intro a F
   refine sBin F rfl rfl rfl rfl (bInsEq (x := x) (y := want1 x) rfl) ?_;clear F a;intro a F
   refine sMv F rfl rfl rfl ?_;clear F a;intro a F
   refine F.split 38 rfl ?_ ?_ <;> (clear F; intro h38 F)
   ·
    replace h38 := beqT h38
    replace h38 : (x == want1 x) = true := beq_iff_eq.2 h38
    refine sMv F rfl rfl rfl ?_;clear F a;intro a F
    refine sPk F rfl rfl rfl rfl ?_;clear F a;intro a F
    refine sMv F rfl rfl rfl ?_;clear F a;intro a F
    refine F.split 41 rfl ?_ ?_ <;> (clear F; intro h41 F)
    ·
     replace h41 := of_decide_eq_true h41
     refine sMv F rfl rfl rfl ?_;clear F a;intro a F
     refine sPk F rfl rfl rfl rfl ?_;clear F a;intro a F
     refine sMv F rfl rfl rfl ?_;clear F a;intro a F
     refine F.split 44 rfl ?_ ?_ <;> (clear F; intro h44 F)
     ·
      replace h44 := of_decide_eq_true h44
      refine sFa (f := 6) (k := 8) Tryd.underlying50 rfl Tryd.sizeOf5 rfl rfl F rfl rfl rfl ?_;clear F a;intro a F
      refine sLd Tryd.isAgg5 F rfl rfl rfl (H.cell 1 rfl rfl) ?_;clear F a;intro a F
      refine sBin F rfl rfl rfl rfl (bLssB (y := 2)) ?_;clear F a;intro a F
      refine sPk F rfl rfl rfl rfl ?_;clear F a;intro a F
      refine sAs F rfl rfl rfl ?_;clear F a;intro a F
      refine sNil ?_
      refine hK11 _ _ ?_; clear hK11
      refine wp_ret ?_
      simp only [Exit.inBlock, Exit.then]
      refine bRet Tryd.results34 F rfl ?_
      refine ⟨retB ?_, H.below⟩
      clear F H
      first
        | (rw [ins_1 ho]; simp [*]; done)
        | (rw [ins_2 ho]; simp [*]; done)
        | (rw [ins_3 ho]; simp [*]; done)
        | (rcases ho with ho | ho
           · rw [ins_4 ho]; simp [*]; done
           · rw [ins_5 ho]; simp [*]; done)
        | (rw [ins_6 ho]; simp [*]; done)
        | (rw [ins_7 ho]; simp [*]; done)
        | (rw [ins_8 ho]; simp [*]; done)
        | (rw [ins_0 (by omega)]; done)
     replace h44 := of_decide_eq_false h44
     refine sSk F rfl rfl ?_;clear F a;intro a F
     refine sSk F rfl rfl ?_;clear F a;intro a F
     refine sSk F rfl rfl ?_;clear F a;intro a F
     refine sPk F rfl rfl rfl rfl ?_;clear F a;intro a F
     refine sAs F rfl rfl rfl ?_;clear F a;intro a F
     refine sNil ?_
     refine hK11 _ _ ?_; clear hK11
     refine wp_ret ?_
     simp only [Exit.inBlock, Exit.then]
     refine bRet Tryd.results34 F rfl ?_
     refine ⟨retB ?_, H.below⟩
     clear F H
     first
       | (rw [ins_1 ho]; simp [*]; done)
       | (rw [ins_2 ho]; simp [*]; done)
       | (rw [ins_3 ho]; simp [*]; done)
       | (rcases ho with ho | ho
          · rw [ins_4 ho]; simp [*]; done
          · rw [ins_5 ho]; simp [*]; done)
       | (rw [ins_6 ho]; simp [*]; done)
       | (rw [ins_7 ho]; simp [*]; done)
       | (rw [ins_8 ho]; simp [*]; done)
       | (rw [ins_0 (by omega)]; done)
    replace h41 := of_decide_eq_false h41
    refine sSk F rfl rfl ?_;clear F a;intro a F
    refine sPk F rfl rfl rfl rfl ?_;clear F a;intro a F
    refine sMv F rfl rfl rfl ?_;clear F a;intro a F
    refine sSk F rfl rfl ?_;clear F a;intro a F
    refine sSk F rfl rfl ?_;clear F a;intro a F
    refine sSk F rfl rfl ?_;clear F a;intro a F
    refine sPk F rfl rfl rfl rfl ?_;clear F a;intro a F
    refine sAs F rfl rfl rfl ?_;clear F a;intro a F
    refine sNil ?_
    refine hK11 _ _ ?_; clear hK11
    refine wp_ret ?_
    simp only [Exit.inBlock, Exit.then]
    refine bRet Tryd.results34 F rfl ?_
    refine ⟨retB ?_, H.below⟩
    clear F H
    first
      | (rw [ins_1 ho]; simp [*]; done)
      | (rw [ins_2 ho]; simp [*]; done)
      | (rw [ins_3 ho]; simp [*]; done)
      | (rcases ho with ho | ho
         · rw [ins_4 ho]; simp [*]; done
         · rw [ins_5 ho]; simp [*]; done)
      | (rw [ins_6 ho]; simp [*]; done)
      | (rw [ins_7 ho]; simp [*]; done)
      | (rw [ins_8 ho]; simp [*]; done)
      | (rw [ins_0 (by omega)]; done)
   replace h38 := beqF h38
   replace h38 : (x == want1 x) = false := beq_false_of_ne h38
   refine sSk F rfl rfl ?_;clear F a;intro a F
   refine sPk F rfl rfl rfl rfl ?_;clear F a;intro a F
   refine sMv F rfl rfl rfl ?_;clear F a;intro a F
   refine sSk F rfl rfl ?_;clear F a;intro a F
   refine sPk F rfl rfl rfl rfl ?_;clear F a;intro a F
   refine sMv F rfl rfl rfl ?_;clear F a;intro a F
   refine sSk F rfl rfl ?_;clear F a;intro a F
   refine sSk F rfl rfl ?_;clear F a;intro a F
   refine sSk F rfl rfl ?_;clear F a;intro a F
   refine sPk F rfl rfl rfl rfl ?_;clear F a;intro a F
   refine sAs F rfl rfl rfl ?_;clear F a;intro a F
   refine sNil ?_
   refine hK11 _ _ ?_; clear hK11
   refine wp_ret ?_
   simp only [Exit.inBlock, Exit.then]
   refine bRet Tryd.results34 F rfl ?_
   refine ⟨retB ?_, H.below⟩
   clear F H
   first
     | (rw [ins_1 ho]; simp [*]; done)
     | (rw [ins_2 ho]; simp [*]; done)
     | (rw [ins_3 ho]; simp [*]; done)
     | (rcases ho with ho | ho
        · rw [ins_4 ho]; simp [*]; done
        · rw [ins_5 ho]; simp [*]; done)
     | (rw [ins_6 ho]; simp [*]; done)
     | (rw [ins_7 ho]; simp [*]; done)
     | (rw [ins_8 ho]; simp [*]; done)
     | (rw [ins_0 (by omega)]; done)
  replace h24 := beqF h24
  refine cSeq (fun K12 hK12 => ?_)
  refine cReg ?_
  refine sBin F rfl rfl rfl rfl bEql ?_;clear F a;intro a F
  refine sAs F rfl rfl rfl ?_;clear F a;intro a F
  refine sNil ?_
  refine hK12 _ _ ?_; clear hK12
  refine cIf F rfl (fun h49 => ?_) (fun h49 => ?_)
  ·
   replace h49 := beqT h49
   have ho : x.op = 2 := UInt8.toNat_inj.1 (by have : (2 : UInt8).toNat = 2 := rfl; omega)
   refine cSeq (fun K13 hK13 => ?_)
   refine cReg ?_
   refine sFa (f := 2) (k := 2) Tryd.underlying50 rfl Tryd.sizeOf5 rfl rfl F rfl rfl rfl ?_;clear F a;intro a F
   refine sLd Tryd.isAgg5 F rfl rfl rfl (H.cell 1 rfl rfl) ?_;clear F a;intro a F
   refine sFa (f := 2) (k := 2) Tryd.underlying50 rfl Tryd.sizeOf5 rfl rfl F rfl rfl rfl ?_;clear F a;intro a F
   refine sSt H 0 Tryd.sizeOf5 F rfl rfl rfl rfl rfl rfl ?_
   clear H; intro w H
   refine sNil ?_
   refine hK13 _ _ ?_; clear hK13
   refine cSeq (fun K14 hK14 => ?_)
   refine cReg ?_
   refine sFa (f := 3) (k := 3) Tryd.underlying50 rfl Tryd.sizeOf48 rfl rfl F rfl rfl rfl ?_;clear F a;intro a F
   refine sLr Tryd.underlying48 rfl ?si F rfl rfl rfl (H.range 1 rfl _ 2) ?_
   case si => exact info_size Tryd.sizeOf48
   clear F a; intro a F
   refine sFa (f := 3) (k := 3) Tryd.underlying50 rfl Tryd.sizeOf48 rfl rfl F rfl rfl rfl ?_;clear F a;intro a F
   refine sSr H 0 ?si F rfl rfl rfl ?s1 rfl rfl ?_
   case si => exact info_size Tryd.sizeOf48
   case s1 => first | rfl | (repeat (first | exact one_nil | (apply one_cons; · first | rfl | assumption | exact one_bif rfl rfl)))
   clear H; intro w H
   refine sNil ?_
   refine hK14 _ _ ?_; clear hK14
   refine cSeq (fun K15 hK15 => ?_)
   refine cReg ?_
   refine sFa (f := 6) (k := 8) Tryd.underlying50 rfl Tryd.sizeOf5 rfl rfl F rfl rfl rfl ?_;clear F a;intro a F
   refine sLd Tryd.isAgg5 F rfl rfl rfl (H.cell 1 rfl rfl) ?_;clear F a;intro a F
   refine sFa (f := 6) (k := 8) Tryd.underlying50 rfl Tryd.sizeOf5 rfl rfl F rfl rfl rfl ?_;clear F a;intro a F
   refine sSt H 0 Tryd.sizeOf5 F rfl rfl rfl rfl rfl rfl ?_
   clear H; intro w H
   refine sNil ?_
   refine hK15 _ _ ?_; clear hK15
   refine cSeq (fun K16 hK16 => ?_)
   refine cReg ?_
   refine sLr Tryd.underlying50 rfl ?si F rfl rfl rfl (H.whole 1 rfl) ?_
   case si => exact info_size Tryd.sizeOf50
   clear F a; intro a F
   refine sLr Tryd.underlying50 rfl ?si F rfl rfl rfl (H.whole 0 rfl) ?_
   case si => exact info_size Tryd.sizeOf50
   clear F a; intro a F
   refine sBin F rfl rfl rfl rfl (bInsEq (x := x) (y := want2 x) rfl) ?_;clear F a;intro a F
   refine sMv F rfl rfl rfl ?_;clear F a;intro a F
   refine F.split 63 rfl ?_ ?_ <;> (clear F; intro h63 F)
   ·
    replace h63 := beqT h63
    replace h63 : (x == want2 x) = true := beq_iff_eq.2 h63
    refine sMv F rfl rfl rfl ?_;clear F a;intro a F
    refine sPk F rfl rfl rfl rfl ?_;clear F a;intro a F
    refine sMv F rfl rfl rfl ?_;clear F a;intro a F
    refine F.split 66 rfl ?_ ?_ <;> (clear F; intro h66 F)
    ·
     replace h66 := of_decide_eq_true h66
     refine sFa (f := 3) (k := 3) Tryd.underlying50 rfl Tryd.sizeOf48 rfl rfl F rfl rfl rfl ?_;clear F a;intro a F
     refine sLr Tryd.underlying48 rfl ?si F rfl rfl rfl (H.range 1 rfl _ 2) ?_
     case si => exact info_size Tryd.sizeOf48
     clear F a; intro a F
     refine sCall Tryd.call64 F rfl rfl rfl (rarg_any _ _ _) ?_
     rintro e w ⟨rfl, hb⟩
     replace H := H.grow hb; clear hb
     refine ⟨_, rfl, ?_⟩
     clear F a; intro a F
     refine sPk F rfl rfl rfl rfl ?_;clear F a;intro a F
     refine sMv F rfl rfl rfl ?_;clear F a;intro a F
     refine F.split 71 rfl ?_ ?_ <;> (clear F; intro h71 F)
     ·
      refine sFa (f := 6) (k := 8) Tryd.underlying50 rfl Tryd.sizeOf5 rfl rfl F rfl rfl rfl ?_;clear F a;intro a F
      refine sLd Tryd.isAgg5 F rfl rfl rfl (H.cell 1 rfl rfl) ?_;clear F a;intro a F
      refine sBin F rfl rfl rfl rfl (bEqlB (y := 0)) ?_;clear F a;intro a F
      refine sMv F rfl rfl rfl ?_;clear F a;intro a F
      refine F.split 75 rfl ?_ ?_ <;> (clear F; intro h75 F)
      ·
       replace h75 := beqT h75
       refine sSk F rfl rfl ?_;clear F a;intro a F
       refine sSk F rfl rfl ?_;clear F a;intro a F
       refine sSk F rfl rfl ?_;clear F a;intro a F
       refine sPk F rfl rfl rfl rfl ?_;clear F a;intro a F
       refine sPk F rfl rfl rfl rfl ?_;clear F a;intro a F
       refine sAs F rfl rfl rfl ?_;clear F a;intro a F
       refine sNil ?_
       refine hK16 _ _ ?_; clear hK16
       refine wp_ret ?_
       simp only [Exit.inBlock, Exit.then]
       refine bRet Tryd.results34 F rfl ?_
       refine ⟨retB ?_, H.below⟩
       clear F H
       first
         | (rw [ins_1 ho]; simp [*]; done)
         | (rw [ins_2 ho]; simp [*]; done)
         | (rw [ins_3 ho]; simp [*]; done)
         | (rcases ho with ho | ho
            · rw [ins_4 ho]; simp [*]; done
            · rw [ins_5 ho]; simp [*]; done)
         | (rw [ins_6 ho]; simp [*]; done)
         | (rw [ins_7 ho]; simp [*]; done)
         | (rw [ins_8 ho]; simp [*]; done)
         | (rw [ins_0 (by omega)]; done)
      replace h75 := beqF h75
      refine sFa (f := 6) (k := 8) Tryd.underlying50 rfl Tryd.sizeOf5 rfl rfl F rfl rfl rfl ?_;clear F a;intro a F
      refine sLd Tryd.isAgg5 F rfl rfl rfl (H.cell 1 rfl rfl) ?_;clear F a;intro a F
      refine sBin F rfl rfl rfl rfl (bEqlB (y := 2)) ?_;clear F a;intro a F
      refine sPk F rfl rfl rfl rfl ?_;clear F a;intro a F
      refine sPk F rfl rfl rfl rfl ?_;clear F a;intro a F
      refine sAs F rfl rfl rfl ?_;clear F a;intro a F
      refine sNil ?_
      refine hK16 _ _ ?_; clear hK16
      refine wp_ret ?_
      simp only [Exit.inBlock, Exit.then]
      refine bRet Tryd.results34 F rfl ?_
      refine ⟨retB ?_, H.below⟩
      clear F H
      first
        | (rw [ins_1 ho]; simp [*]; done)
        | (rw [ins_2 ho]; simp [*]; done)
        | (rw [ins_3 ho]; simp [*]; done)
        | (rcases ho with ho | ho
           · rw [ins_4 ho]; simp [*]; done
           · rw [ins_5 ho]; simp [*]; done)
        | (rw [ins_6 ho]; simp [*]; done)
        | (rw [ins_7 ho]; simp [*]; done)
        | (rw [ins_8 ho]; simp [*]; done)
        | (rw [ins_0 (by omega)]; done)
     refine sSk F rfl rfl ?_;clear F a;intro a F
     refine sSk F rfl rfl ?_;clear F a;intro a F
     refine sSk F rfl rfl ?_;clear F a;intro a F
     refine sSk F rfl rfl ?_;clear F a;intro a F
     refine sSk F rfl rfl ?_;clear F a;intro a F
     refine sSk F rfl rfl ?_;clear F a;intro a F
     refine sSk F rfl rfl ?_;clear F a;intro a F
     refine sSk F rfl rfl ?_;clear F a;intro a F
     refine sPk F rfl rfl rfl rfl ?_;clear F a;intro a F
     refine sAs F rfl rfl rfl ?_;clear F a;intro a F
     refine sNil ?_
     refine hK16 _ _ ?_; clear hK16
     refine wp_ret ?_
     simp only [Exit.inBlock, Exit.then]
     refine bRet Tryd.results34 F rfl ?_
     refine ⟨retB ?_, H.below⟩
     clear F H
     first
       | (rw [ins_1 ho]; simp [*]; done)
       | (rw [ins_2 ho]; simp [*]; done)
       | (rw [ins_3 ho]; simp [*]; done)
       | (rcases ho with ho | ho
          · rw [ins_4 ho]; simp [*]; done
          · rw [ins_5 ho]; simp [*]; done)
       | (rw [ins_6 ho]; simp [*]; done)
       | (rw [ins_7 ho]; simp [*]; done)
       | (rw [ins_8 ho]; simp [*]; done)
       | (rw [ins_0 (by omega)]; done)
    replace h66 := of_decide_eq_false h66
    refine sSk F rfl rfl ?_;clear F a;intro a F
    refine sSk F rfl rfl ?_;clear F a;intro a F
    refine sSk F rfl rfl ?_;clear F a;intro a F
    refine sPk F rfl rfl rfl rfl ?_;clear F a;intro a F
    refine sMv F rfl rfl rfl ?_;clear F a;intro a F
    refine sSk F rfl rfl ?_;clear F a;intro a F
    refine sSk F rfl rfl ?_;clear F a;intro a F
    refine sSk F rfl rfl ?_;clear F a;intro a F
    refine sSk F rfl rfl ?_;clear F a;intro a F
    refine sSk F rfl rfl ?_;clear F a;intro a F
    refine sSk F rfl rfl ?_;clear F a;intro a F
    refine sSk F rfl rfl ?_;clear F a;intro a F
    refine sSk F rfl rfl ?_;clear F a;intro a F
    refine sPk F rfl rfl rfl rfl ?_;clear F a;intro a F
    refine sAs F rfl rfl rfl ?_;clear F a;intro a F
    refine sNil ?_
    refine hK16 _ _ ?_; clear hK16
    refine wp_ret ?_
    simp only [Exit.inBlock, Exit.then]
    refine bRet Tryd.results34 F rfl ?_
    refine ⟨retB ?_, H.below⟩
    clear F H
    first
      | (rw [ins_1 ho]; simp [*]; done)
      | (rw [ins_2 ho]; simp [*]; done)
      | (rw [ins_3 ho]; simp [*]; done)
      | (rcases ho with ho | ho
         · rw [ins_4 ho]; simp [*]; done
         · rw [ins_5 ho]; simp [*]; done)
      | (rw [ins_6 ho]; simp [*]; done)
      | (rw [ins_7 ho]; simp [*]; done)
      | (rw [ins_8 ho]; simp [*]; done)
      | (rw [ins_0 (by omega)]; done)
   replace h63 := beqF h63
   replace h63 : (x == want2 x) = false := beq_false_of_ne h63
   refine sSk F rfl rfl ?_;clear F a;intro a F
   refine sPk F rfl rfl rfl rfl ?_;clear F a;intro a F
   refine sMv F rfl rfl rfl ?_;clear F a;intro a F
   refine sSk F rfl rfl ?_;clear F a;intro a F
   refine sSk F rfl rfl ?_;clear F a;intro a F
   refine sSk F rfl rfl ?_;clear F a;intro a F
   refine sPk F rfl rfl rfl rfl ?_;clear F a;intro a F
   refine sMv F rfl rfl rfl ?_;clear F a;intro a F
   refine sSk F rfl rfl ?_;clear F a;intro a F
   refine sSk F rfl rfl ?_;clear F a;intro a F
   refine sSk F rfl rfl ?_;clear F a;intro a F
   refine sSk F rfl rfl ?_;clear F a;intro a F
   refine sSk F rfl rfl ?_;clear F a;intro a F
   refine sSk F rfl rfl ?_;clear F a;intro a F
   refine sSk F rfl rfl ?_;clear F a;intro a F
   refine sSk F rfl rfl ?_;clear F a;intro a F
   refine sPk F rfl rfl rfl rfl ?_;clear F a;intro a F
   refine sAs F rfl rfl rfl ?_;clear F a;intro a F
   refine sNil ?_
   refine hK16 _ _ ?_; clear hK16
   refine wp_ret ?_
   simp only [Exit.inBlock, Exit.then]
   refine bRet Tryd.results34 F rfl ?_
   refine ⟨retB ?_, H.below⟩
   clear F H
   first
     | (rw [ins_1 ho]; simp [*]; done)
     | (rw [ins_2 ho]; simp [*]; done)
     | (rw [ins_3 ho]; simp [*]; done)
     | (rcases ho with ho | ho
        · rw [ins_4 ho]; simp [*]; done
        · rw [ins_5 ho]; simp [*]; done)
     | (rw [ins_6 ho]; simp [*]; done)
     | (rw [ins_7 ho]; simp [*]; done)
     | (rw [ins_8 ho]; simp [*]; done)
     | (rw [ins_0 (by omega)]; done)
  replace h49 := beqF h49
  refine cSeq (fun K17 hK17 => ?_)
  refine cReg ?_
  refine sBin F rfl rfl rfl rfl bEql ?_;clear F a;intro a F
  refine sAs F rfl rfl rfl ?_;clear F a;intro a F
  refine sNil ?_
  refine hK17 _ _ ?_; clear hK17
  refine cIf F rfl (fun h81 => ?_) (fun h81 => ?_)
  ·
   replace h81 := beqT h81
   have ho : x.op = 3 := UInt8.toNat_inj.1 (by have : (3 : UInt8).toNat = 3 := rfl; omega)
   refine cSeq (fun K18 hK18 => ?_)
   refine cReg ?_
   refine sFa (f := 1) (k := 1) Tryd.underlying50 rfl Tryd.sizeOf5 rfl rfl F rfl rfl rfl ?_;clear F a;intro a F
   refine sLd Tryd.isAgg5 F rfl rfl rfl (H.cell 1 rfl rfl) ?_;clear F a;intro a F
   refine sFa (f := 1) (k := 1) Tryd.underlying50 rfl Tryd.sizeOf5 rfl rfl F rfl rfl rfl ?_;clear F a;intro a F
   refine sSt H 0 Tryd.sizeOf5 F rfl rfl rfl rfl rfl rfl ?_
   clear H; intro w H
   refine sNil ?_
   refine hK18 _ _ ?_; clear hK18
   refine cSeq (fun K19 hK19 => ?_)
   refine cReg ?_
   refine sFa (f := 3) (k := 3) Tryd.underlying50 rfl Tryd.sizeOf48 rfl rfl F rfl rfl rfl ?_;clear F a;intro a F
   refine sLr Tryd.underlying48 rfl ?si F rfl rfl rfl (H.range 1 rfl _ 2) ?_
   case si => exact info_size Tryd.sizeOf48
   clear F a; intro a F
   refine sFa (f := 3) (k := 3) Tryd.underlying50 rfl Tryd.sizeOf48 rfl rfl F rfl rfl rfl ?_;clear F a;intro a F
   refine sSr H 0 ?si F rfl rfl rfl ?s1 rfl rfl ?_
   case si => exact info_size Tryd.sizeOf48
   case s1 => first | rfl | (repeat (first | exact one_nil | (apply one_cons; · first | rfl | assumption | exact one_bif rfl rfl)))
   clear H; intro w H
   refine sNil ?_
   refine hK19 _ _ ?_; clear hK19
   refine cSeq (fun K20 hK20 => ?_)
   refine cReg ?_
   refine sFa (f := 4) (k := 5) Tryd.underlying50 rfl Tryd.sizeOf48 rfl rfl F rfl rfl rfl ?_;clear F a;intro a F
   refine sLr Tryd.underlying48 rfl ?si F rfl rfl rfl (H.range 1 rfl _ 2) ?_
   case si => exact info_size Tryd.sizeOf48
   clear F a; intro a F
   refine sFa (f := 4) (k := 5) Tryd.underlying50 rfl Tryd.sizeOf48 rfl rfl F rfl rfl rfl ?_;clear F a;intro a F
   refine sSr H 0 ?si F rfl rfl rfl ?s1 rfl rfl ?_
   case si => exact info_size Tryd.sizeOf48
   case s1 => first | rfl | (repeat (first | exact one_nil | (apply one_cons; · first | rfl | assumption | exact one_bif rfl rfl)))
   clear H; intro w H
   refine sNil ?_
   refine hK20 _ _ ?_; clear hK20
   refine cSeq (fun K21 hK21 => ?_)
   refine cReg ?_
   refine sFa (f := 5) (k := 7) Tryd.underlying50 rfl Tryd.sizeOf5 rfl rfl F rfl rfl rfl ?_;clear F a;intro a F
   refine sLd Tryd.isAgg5 F rfl rfl rfl (H.cell 1 rfl rfl) ?_;clear F a;intro a F
   refine sFa (f := 5) (k := 7) Tryd.underlying50 rfl Tryd.sizeOf5 rfl rfl F rfl rfl rfl ?_;clear F a;intro a F
   refine sSt H 0 Tryd.sizeOf5 F rfl rfl rfl rfl rfl rfl ?_
   clear H; intro w H
   refine sNil ?_
   refine hK21 _ _ ?_; clear hK21
   refine cSeq (fun K22 hK22 => ?_)
   refine cReg ?_
   refine sLr Tryd.underlying50 rfl ?si F rfl rfl rfl (H.whole 1 rfl) ?_
   case si => exact info_size Tryd.sizeOf50
   clear F a; intro a F
   refine sLr Tryd.underlying50 rfl ?si F rfl rfl rfl (H.whole 0 rfl) ?_
   case si => exact info_size Tryd.sizeOf50
   clear F a; intro a F
   refine sBin F rfl rfl rfl rfl (bInsEq (x := x) (y := want3 x) rfl) ?_;clear F a;intro a F
   refine sMv F rfl rfl rfl ?_;clear F a;intro a F
   refine F.split 98 rfl ?_ ?_ <;> (clear F; intro h98 F)
   ·
    replace h98 := beqT h98
    replace h98 : (x == want3 x) = true := beq_iff_eq.2 h98
    refine sMv F rfl rfl rfl ?_;clear F a;intro a F
    refine sPk F rfl rfl rfl rfl ?_;clear F a;intro a F
    refine sMv F rfl rfl rfl ?_;clear F a;intro a F
    refine F.split 101 rfl ?_ ?_ <;> (clear F; intro h101 F)
    ·
     replace h101 := of_decide_eq_true h101
     refine sFa (f := 3) (k := 3) Tryd.underlying50 rfl Tryd.sizeOf48 rfl rfl F rfl rfl rfl ?_;clear F a;intro a F
     refine sLr Tryd.underlying48 rfl ?si F rfl rfl rfl (H.range 1 rfl _ 2) ?_
     case si => exact info_size Tryd.sizeOf48
     clear F a; intro a F
     refine sCall Tryd.call64 F rfl rfl rfl (rarg_any _ _ _) ?_
     rintro e w ⟨rfl, hb⟩
     replace H := H.grow hb; clear hb
     refine ⟨_, rfl, ?_⟩
     clear F a; intro a F
     refine sPk F rfl rfl rfl rfl ?_;clear F a;intro a F
     refine sMv F rfl rfl rfl ?_;clear F a;intro a F
     refine F.split 106 rfl ?_ ?_ <;> (clear F; intro h106 F)
     ·
      refine sFa (f := 4) (k := 5) Tryd.underlying50 rfl Tryd.sizeOf48 rfl rfl F rfl rfl rfl ?_;clear F a;intro a F
      refine sLr Tryd.underlying48 rfl ?si F rfl rfl rfl (H.range 1 rfl _ 2) ?_
      case si => exact info_size Tryd.sizeOf48
      clear F a; intro a F
      refine sCall Tryd.call64 F rfl rfl rfl (rarg_any _ _ _) ?_
      rintro e w ⟨rfl, hb⟩
      replace H := H.grow hb; clear hb
      refine ⟨_, rfl, ?_⟩
      clear F a; intro a F
      refine sPk F rfl rfl rfl rfl ?_;clear F a;intro a F
      refine sMv F rfl rfl rfl ?_;clear F a;intro a F
      refine F.split 111 rfl ?_ ?_ <;> (clear F; intro h111 F)
      ·
       refine sFa (f := 5) (k := 7) Tryd.underlying50 rfl Tryd.sizeOf5 rfl rfl F rfl rfl rfl ?_;clear F a;intro a F
       refine sLd Tryd.isAgg5 F rfl rfl rfl (H.cell 1 rfl rfl) ?_;clear F a;intro a F
       refine sBin F rfl rfl rfl rfl (bGeqB (y := 1)) ?_;clear F a;intro a F
       refine sPk F rfl rfl rfl rfl ?_;clear F a;intro a F
       refine sMv F rfl rfl rfl ?_;clear F a;intro a F
       refine F.split 116 rfl ?_ ?_ <;> (clear F; intro h116 F)
       ·
        replace h116 := of_decide_eq_true h116
        refine sFa (f := 5) (k := 7) Tryd.underlying50 rfl Tryd.sizeOf5 rfl rfl F rfl rfl rfl ?_;clear F a;intro a F
        refine sLd Tryd.isAgg5 F rfl rfl rfl (H.cell 1 rfl rfl) ?_;clear F a;intro a F
        refine sBin F rfl rfl rfl rfl (bLeqB (y := 3)) ?_;clear F a;intro a F
        refine sPk F rfl rfl rfl rfl ?_;clear F a;intro a F
        refine sAs F rfl rfl rfl ?_;clear F a;intro a F
        refine sNil ?_
        refine hK22 _ _ ?_; clear hK22
        refine wp_ret ?_
        simp only [Exit.inBlock, Exit.then]
        refine bRet Tryd.results34 F rfl ?_
        refine ⟨retB ?_, H.below⟩
        clear F H
        first
          | (rw [ins_1 ho]; simp [*]; done)
          | (rw [ins_2 ho]; simp [*]; done)
          | (rw [ins_3 ho]; simp [*]; done)
          | (rcases ho with ho | ho
             · rw [ins_4 ho]; simp [*]; done
             · rw [ins_5 ho]; simp [*]; done)
          | (rw [ins_6 ho]; simp [*]; done)
          | (rw [ins_7 ho]; simp [*]; done)
          | (rw [ins_8 ho]; simp [*]; done)
          | (rw [ins_0 (by omega)]; done)
       replace h116 := of_decide_eq_false h116
       refine sSk F rfl rfl ?_;clear F a;intro a F
       refine sSk F rfl rfl ?_;clear F a;intro a F
       refine sSk F rfl rfl ?_;clear F a;intro a F
       refine sPk F rfl rfl rfl rfl ?_;clear F a;intro a F
       refine sAs F rfl rfl rfl ?_;clear F a;intro a F
       refine sNil ?_
       refine hK22 _ _ ?_; clear hK22
       refine wp_ret ?_
       simp only [Exit.inBlock, Exit.then]
       refine bRet Tryd.results34 F rfl ?_
       refine ⟨retB ?_, H.below⟩
       clear F H
       first
         | (rw [ins_1 ho]; simp [*]; done)
         | (rw [ins_2 ho]; simp [*]; done)
         | (rw [ins_3 ho]; simp [*]; done)
         | (rcases ho with ho | ho
            · rw [ins_4 ho]; simp [*]; done
            · rw [ins_5 ho]; simp [*]; done)
         | (rw [ins_6 ho]; simp [*]; done)
         | (rw [ins_7 ho]; simp [*]; done)
         | (rw [ins_8 ho]; simp [*]; done)
         | (rw [ins_0 (by omega)]; done)
      refine sSk F rfl rfl ?_;clear F a;intro a F
      refine sSk F rfl rfl ?_;clear F a;intro a F
      refine sSk F rfl rfl ?_;clear F a;intro a F
      refine sPk F rfl rfl rfl rfl ?_;clear F a;intro a F
      refine sMv F rfl rfl rfl ?_;clear F a;intro a F
      refine sSk F rfl rfl ?_;clear F a;intro a F
      refine sSk F rfl rfl ?_;clear F a;intro a F
      refine sSk F rfl rfl ?_;clear F a;intro a F
      refine sPk F rfl rfl rfl rfl ?_;clear F a;intro a F
      refine sAs F rfl rfl rfl ?_;clear F a;intro a F
      refine sNil ?_
      refine hK22 _ _ ?_; clear hK22
      refine wp_ret ?_
      simp only [Exit.inBlock, Exit.then]
      refine bRet Tryd.results34 F rfl ?_
      refine ⟨retB ?_, H.below⟩
      clear F H
      first
        | (rw [ins_1 ho]; simp [*]; done)
        | (rw [ins_2 ho]; simp [*]; done)
        | (rw [ins_3 ho]; simp [*]; done)
        | (rcases ho with ho | ho
           · rw [ins_4 ho]; simp [*]; done
           · rw [ins_5 ho]; simp [*]; done)
        | (rw [ins_6 ho]; simp [*]; done)
        | (rw [ins_7 ho]; simp [*]; done)
        | (rw [ins_8 ho]; simp [*]; done)
        | (rw [ins_0 (by omega)]; done)
     refine sSk F rfl rfl ?_;clear F a;intro a F
     refine sSk F rfl rfl ?_;clear F a;intro a F
     refine sSk F rfl rfl ?_;clear F a;intro a F
     refine sPk F rfl rfl rfl rfl ?_;clear F a;intro a F
     refine sMv F rfl rfl rfl ?_;clear F a;intro a F
     refine sSk F rfl rfl ?_;clear F a;intro a F
     refine sSk F rfl rfl ?_;clear F a;intro a F
     refine sSk F rfl rfl ?_;clear F a;intro a F
     refine sPk F rfl rfl rfl rfl ?_;clear F a;intro a F
     refine sMv F rfl rfl rfl ?_;clear F a;intro a F
     refine sSk F rfl rfl ?_;clear F a;intro a F
     refine sSk F rfl rfl ?_;clear F a;intro a F
     refine sSk F rfl rfl ?_;clear F a;intro a F
     refine sPk F rfl rfl rfl rfl ?_;clear F a;intro a F
     refine sAs F rfl rfl rfl ?_;clear F a;intro a F
     refine sNil ?_
     refine hK22 _ _ ?_; clear hK22
     refine wp_ret ?_
     simp only [Exit.inBlock, Exit.then]
     refine bRet Tryd.results34 F rfl ?_
     refine ⟨retB ?_, H.below⟩
     clear F H
     first
       | (rw [ins_1 ho]; simp [*]; done)
       | (rw [ins_2 ho]; simp [*]; done)
       | (rw [ins_3 ho]; simp [*]; done)
       | (rcases ho with ho | ho
          · rw [ins_4 ho]; simp [*]; done
          · rw [ins_5 ho]; simp [*]; done)
       | (rw [ins_6 ho]; simp [*]; done)
       | (rw [ins_7 ho]; simp [*]; done)
       | (rw [ins_8 ho]; simp [*]; done)
       | (rw [ins_0 (by omega)]; done)
    replace h101 := of_decide_eq_false h101
    refine sSk F rfl rfl ?_;clear F a;intro a F
    refine sSk F rfl rfl ?_;clear F a;intro a F
    refine sSk F rfl rfl ?_;clear F a;intro a F
    refine sPk F rfl rfl rfl rfl ?_;clear F a;intro a F
    refine sMv F rfl rfl rfl ?_;clear F a;intro a F
    refine sSk F rfl rfl ?_;clear F a;intro a F
    refine sSk F rfl rfl ?_;clear F a;intro a F
    refine sSk F rfl rfl ?_;clear F a;intro a F
    refine sPk F rfl rfl rfl rfl ?_;clear F a;intro a F
    refine sMv F rfl rfl rfl ?_;clear F a;intro a F
    refine sSk F rfl rfl ?_;clear F a;intro a F
    refine sSk F rfl rfl ?_;clear F a;intro a F
    refine sSk F rfl rfl ?_;clear F a;intro a F
    refine sPk F rfl rfl rfl rfl ?_;clear F a;intro a F
    refine sMv F rfl rfl rfl ?_;clear F a;intro a F
    refine sSk F rfl rfl ?_;clear F a;intro a F
    refine sSk F rfl rfl ?_;clear F a;intro a F
    refine sSk F rfl rfl ?_;clear F a;intro a F
    refine sPk F rfl rfl rfl rfl ?_;clear F a;intro a F
    refine sAs F rfl rfl rfl ?_;clear F a;intro a F
    refine sNil ?_
    refine hK22 _ _ ?_; clear hK22
    refine wp_ret ?_
    simp only [Exit.inBlock, Exit.then]
    refine bRet Tryd.results34 F rfl ?_
    refine ⟨retB ?_, H.below⟩
    clear F H
    first
      | (rw [ins_1 ho]; simp [*]; done)
      | (rw [ins_2 ho]; simp [*]; done)
      | (rw [ins_3 ho]; simp [*]; done)
      | (rcases ho with ho | ho
         · rw [ins_4 ho]; simp [*]; done
         · rw [ins_5 ho]; simp [*]; done)
      | (rw [ins_6 ho]; simp [*]; done)
      | (rw [ins_7 ho]; simp [*]; done)
      | (rw [ins_8 ho]; simp [*]; done)
      | (rw [ins_0 (by omega)]; done)
   replace h98 := beqF h98
   replace h98 : (x == want3 x) = false := beq_false_of_ne h98
   refine sSk F rfl rfl ?_;clear F a;intro a F
   refine sPk F rfl rfl rfl rfl ?_;clear F a;intro a F
   refine sMv F rfl rfl rfl ?_;clear F a;intro a F
   refine sSk F rfl rfl ?_;clear F a;intro a F
   refine sSk F rfl rfl ?_;clear F a;intro a F
   refine sSk F rfl rfl ?_;clear F a;intro a F
   refine sPk F rfl rfl rfl rfl ?_;clear F a;intro a F
   refine sMv F rfl rfl rfl ?_;clear F a;intro a F
   refine sSk F rfl rfl ?_;clear F a;intro a F
   refine sSk F rfl rfl ?_;clear F a;intro a F
   refine sSk F rfl rfl ?_;clear F a;intro a F
   refine sPk F rfl rfl rfl rfl ?_;clear F a;intro a F
   refine sMv F rfl rfl rfl ?_;clear F a;intro a F
   refine sSk F rfl rfl ?_;clear F a;intro a F
   refine sSk F rfl rfl ?_;clear F a;intro a F
   refine sSk F rfl rfl ?_;clear F a;intro a F
   refine sPk F rfl rfl rfl rfl ?_;clear F a;intro a F
   refine sMv F rfl rfl rfl ?_;clear F a;intro a F
   refine sSk F rfl rfl ?_;clear F a;intro a F
   refine sSk F rfl rfl ?_;clear F a;intro a F
   refine sSk F rfl rfl ?_;clear F a;intro a F
   refine sPk F rfl rfl rfl rfl ?_;clear F a;intro a F
   refine sAs F rfl rfl rfl ?_;clear F a;intro a F
   refine sNil ?_
   refine hK22 _ _ ?_; clear hK22
   refine wp_ret ?_
   simp only [Exit.inBlock, Exit.then]
   refine bRet Tryd.results34 F rfl ?_
   refine ⟨retB ?_, H.below⟩
   clear F H
   first
     | (rw [ins_1 ho]; simp [*]; done)
     | (rw [ins_2 ho]; simp [*]; done)
     | (rw [ins_3 ho]; simp [*]; done)
     | (rcases ho with ho | ho
        · rw [ins_4 ho]; simp [*]; done
        · rw [ins_5 ho]; simp [*]; done)
     | (rw [ins_6 ho]; simp [*]; done)
     | (rw [ins_7 ho]; simp [*]; done)
     | (rw [ins_8 ho]; simp [*]; done)
     | (rw [ins_0 (by omega)]; done)
  replace h81 := beqF h81
  refine cSeq (fun K23 hK23 => ?_)
  refine cSeq (fun K24 hK24 => ?_)
  refine cReg ?_
  refine sBin F rfl rfl rfl rfl bEql ?_;clear F a;intro a F
  refine sAs F rfl rfl rfl ?_;clear F a;intro a F
  refine sNil ?_
  refine hK24 _ _ ?_; clear hK24
  refine F.split 121 rfl ?_ ?_ <;> (clear F; intro h121 F)
  ·
   replace h121 := beqT h121
   have ho : x.op = 4 ∨ x.op = 5 := (by first | exact .inl (UInt8.toNat_inj.1 (by have : (4 : UInt8).toNat = 4 := rfl; omega)) | exact .inr (UInt8.toNat_inj.1 (by have : (5 : UInt8).toNat = 5 := rfl; omega)))
   refine cIfT F rfl ?_
   refine wp_skip ?_
   refine hK23 _ _ ?_; clear hK23
   refine cIfT F rfl ?_
   refine cSeq (fun K25 hK25 => ?_)
   refine cReg ?_
   refine sFa (f := 1) (k := 1) Tryd.underlying50 rfl Tryd.sizeOf5 rfl rfl F rfl rfl rfl ?_;clear F a;intro a F
   refine sLd Tryd.isAgg5 F rfl rfl rfl (H.cell 1 rfl rfl) ?_;clear F a;intro a F
   refine sFa (f := 1) (k := 1) Tryd.underlying50 rfl Tryd.sizeOf5 rfl rfl F rfl rfl rfl ?_;clear F a;intro a F
   refine sSt H 0 Tryd.sizeOf5 F rfl rfl rfl rfl rfl rfl ?_
   clear H; intro w H
   refine sNil ?_
   refine hK25 _ _ ?_; clear hK25
   refine cSeq (fun K26 hK26 => ?_)
   refine cReg ?_
   refine sFa (f := 2) (k := 2) Tryd.underlying50 rfl Tryd.sizeOf5 rfl rfl F rfl rfl rfl ?_;clear F a;intro a F
   refine sLd Tryd.isAgg5 F rfl rfl rfl (H.cell 1 rfl rfl) ?_;clear F a;intro a F
   refine sFa (f := 2) (k := 2) Tryd.underlying50 rfl Tryd.sizeOf5 rfl rfl F rfl rfl rfl ?_;clear F a;intro a F
   refine sSt H 0 Tryd.sizeOf5 F rfl rfl rfl rfl rfl rfl ?_
   clear H; intro w H
   refine sNil ?_
   refine hK26 _ _ ?_; clear hK26
   refine cSeq (fun K27 hK27 => ?_)
   refine cReg ?_
   refine sFa (f := 3) (k := 3) Tryd.underlying50 rfl Tryd.sizeOf48 rfl rfl F rfl rfl rfl ?_;clear F a;intro a F
   refine sLr Tryd.underlying48 rfl ?si F rfl rfl rfl (H.range 1 rfl _ 2) ?_
   case si => exact info_size Tryd.sizeOf48
   clear F a; intro a F
   refine sFa (f := 3) (k := 3) Tryd.underlying50 rfl Tryd.sizeOf48 rfl rfl F rfl rfl rfl ?_;clear F a;intro a F
   refine sSr H 0 ?si F rfl rfl rfl ?s1 rfl rfl ?_
   case si => exact info_size Tryd.sizeOf48
   case s1 => first | rfl | (repeat (first | exact one_nil | (apply one_cons; · first | rfl | assumption | exact one_bif rfl rfl)))
   clear H; intro w H
   refine sNil ?_
   refine hK27 _ _ ?_; clear hK27
   refine cSeq (fun K28 hK28 => ?_)
   refine cReg ?_
   refine sLr Tryd.underlying50 rfl ?si F rfl rfl rfl (H.whole 1 rfl) ?_
   case si => exact info_size Tryd.sizeOf50
   clear F a; intro a F
   refine sLr Tryd.underlying50 rfl ?si F rfl rfl rfl (H.whole 0 rfl) ?_
   case si => exact info_size Tryd.sizeOf50
   clear F a; intro a F
   refine sBin F rfl rfl rfl rfl (bInsEq (x := x) (y := want4 x) rfl) ?_;clear F a;intro a F
   refine sMv F rfl rfl rfl ?_;clear F a;intro a F
   refine F.split 136 rfl ?_ ?_ <;> (clear F; intro h136 F)
   ·
    replace h136 := beqT h136
    replace h136 : (x == want4 x) = true := beq_iff_eq.2 h136
    refine sMv F rfl rfl rfl ?_;clear F a;intro a F
    refine sPk F rfl rfl rfl rfl ?_;clear F a;intro a F
    refine sMv F rfl rfl rfl ?_;clear F a;intro a F
    refine F.split 139 rfl ?_ ?_ <;> (clear F; intro h139 F)
    ·
     replace h139 := of_decide_eq_true h139
     refine sMv F rfl rfl rfl ?_;clear F a;intro a F
     refine sPk F rfl rfl rfl rfl ?_;clear F a;intro a F
     refine sMv F rfl rfl rfl ?_;clear F a;intro a F
     refine F.split 142 rfl ?_ ?_ <;> (clear F; intro h142 F)
     ·
      replace h142 := of_decide_eq_true h142
      refine sFa (f := 3) (k := 3) Tryd.underlying50 rfl Tryd.sizeOf48 rfl rfl F rfl rfl rfl ?_;clear F a;intro a F
      refine sLr Tryd.underlying48 rfl ?si F rfl rfl rfl (H.range 1 rfl _ 2) ?_
      case si => exact info_size Tryd.sizeOf48
      clear F a; intro a F
      refine sCall Tryd.call64 F rfl rfl rfl (rarg_any _ _ _) ?_
      rintro e w ⟨rfl, hb⟩
      replace H := H.grow hb; clear hb
      refine ⟨_, rfl, ?_⟩
      clear F a; intro a F
      refine sPk F rfl rfl rfl rfl ?_;clear F a;intro a F
      refine sAs F rfl rfl rfl ?_;clear F a;intro a F
      refine sNil ?_
      refine hK28 _ _ ?_; clear hK28
      refine wp_ret ?_
      simp only [Exit.inBlock, Exit.then]
      refine bRet Tryd.results34 F rfl ?_
      refine ⟨retB ?_, H.below⟩
      clear F H
      first
        | (rw [ins_1 ho]; simp [*]; done)
        | (rw [ins_2 ho]; simp [*]; done)
        | (rw [ins_3 ho]; simp [*]; done)
        | (rcases ho with ho | ho
           · rw [ins_4 ho]; simp [*]; done
           · rw [ins_5 ho]; simp [*]; done)
        | (rw [ins_6 ho]; simp [*]; done)
        | (rw [ins_7 ho]; simp [*]; done)
        | (rw [ins_8 ho]; simp [*]; done)
        | (rw [ins_0 (by omega)]; done)
     replace h142 := of_decide_eq_false h142
     refine sSk F rfl rfl ?_;clear F a;intro a F
     refine sSk F rfl rfl ?_;clear F a;intro a F
     refine sSk F rfl rfl ?_;clear F a;intro a F
     refine sPk F rfl rfl rfl rfl ?_;clear F a;intro a F
     refine sAs F rfl rfl rfl ?_;clear F a;intro a F
     refine sNil ?_
     refine hK28 _ _ ?_; clear hK28
     refine wp_ret ?_
     simp only [Exit.inBlock, Exit.then]
     refine bRet Tryd.results34 F rfl ?_
     refine ⟨retB ?_, H.below⟩
     clear F H
     first
       | (rw [ins_1 ho]; simp [*]; done)
       | (rw [ins_2 ho]; simp [*]; done)
       | (rw [ins_3 ho]; simp [*]; done)
       | (rcases ho with ho | ho
          · rw [ins_4 ho]; simp [*]; done
          · rw [ins_5 ho]; simp [*]; done)
       | (rw [ins_6 ho]; simp [*]; done)
       | (rw [ins_7 ho]; simp [*]; done)
       | (rw [ins_8 ho]; simp [*]; done)
       | (rw [ins_0 (by omega)]; done)
    replace h139 := of_decide_eq_false h139
    refine sSk F rfl rfl ?_;clear F a;intro a F
    refine sPk F rfl rfl rfl rfl ?_;clear F a;intro a F
    refine sMv F rfl rfl rfl ?_;clear F a;intro a F
    refine sSk F rfl rfl ?_;clear F a;intro a F
    refine sSk F rfl rfl ?_;clear F a;intro a F
    refine sSk F rfl rfl ?_;clear F a;intro a F
    refine sPk F rfl rfl rfl rfl ?_;clear F a;intro a F
    refine sAs F rfl rfl rfl ?_;clear F a;intro a F
    refine sNil ?_
    refine hK28 _ _ ?_; clear hK28
    refine wp_ret ?_
    simp only [Exit.inBlock, Exit.then]
    refine bRet Tryd.results34 F rfl ?_
    refine ⟨retB ?_, H.below⟩
    clear F H
    first
      | (rw [ins_1 ho]; simp [*]; done)
      | (rw [ins_2 ho]; simp [*]; done)
      | (rw [ins_3 ho]; simp [*]; done)
      | (rcases ho with ho | ho
         · rw [ins_4 ho]; simp [*]; done
         · rw [ins_5 ho]; simp [*]; done)
      | (rw [ins_6 ho]; simp [*]; done)
      | (rw [ins_7 ho]; simp [*]; done)
      | (rw [ins_8 ho]; simp [*]; done)
      | (rw [ins_0 (by omega)]; done)
   replace h136 := beqF h136
   replace h136 : (x == want4 x) = false := beq_false_of_ne h136
   refine sSk F rfl rfl ?_;clear F a;intro a F
   refine sPk F rfl rfl rfl rfl ?_;clear F a;intro a F
   refine sMv F rfl rfl rfl ?_;clear F a;intro a F
   refine sSk F rfl rfl ?_;clear F a;intro a F
   refine sPk F rfl rfl rfl rfl ?_;clear F a;intro a F
   refine sMv F rfl rfl rfl ?_;clear F a;intro a F
   refine sSk F rfl rfl ?_;clear F a;intro a F
   refine sSk F rfl rfl ?_;clear F a;intro a F
   refine sSk F rfl rfl ?_;clear F a;intro a F
   refine sPk F rfl rfl rfl rfl ?_;clear F a;intro a F
   refine sAs F rfl rfl rfl ?_;clear F a;intro a F
   refine sNil ?_
   refine hK28 _ _ ?_; clear hK28
   refine wp_ret ?_
   simp only [Exit.inBlock, Exit.then]
   refine bRet Tryd.results34 F rfl ?_
   refine ⟨retB ?_, H.below⟩
   clear F H
   first
     | (rw [ins_1 ho]; simp [*]; done)
     | (rw [ins_2 ho]; simp [*]; done)
     | (rw [ins_3 ho]; simp [*]; done)
     | (rcases ho with ho | ho
        · rw [ins_4 ho]; simp [*]; done
        · rw [ins_5 ho]; simp [*]; done)
     | (rw [ins_6 ho]; simp [*]; done)
     | (rw [ins_7 ho]; simp [*]; done)
     | (rw [ins_8 ho]; simp [*]; done)
     | (rw [ins_0 (by omega)]; done)
  replace h121 := beqF h121
  refine cIfF F rfl ?_
  refine cReg ?_
  refine sBin F rfl rfl rfl rfl bEql ?_;clear F a;intro a F
  refine sAs F rfl rfl rfl ?_;clear F a;intro a F
  refine sNil ?_
  refine hK23 _ _ ?_; clear hK23
  refine F.split 121 rfl ?_ ?_ <;> (clear F; intro h121 F)
  ·
   replace h121 := beqT h121
   have ho : x.op = 4 ∨ x.op = 5 := (by first | exact .inl (UInt8.toNat_inj.1 (by have : (4 : UInt8).toNat = 4 := rfl; omega)) | exact .inr (UInt8.toNat_inj.1 (by have : (5 : UInt8).toNat = 5 := rfl; omega)))
   refine cIfT F rfl ?_
   refine cSeq (fun K29 hK29 => ?_)
   refine cReg ?_
   refine sFa (f := 1) (k := 1) Tryd.underlying50 rfl Tryd.sizeOf5 rfl rfl F rfl rfl rfl ?_;clear F a;intro a F
   refine sLd Tryd.isAgg5 F rfl rfl rfl (H.cell 1 rfl rfl) ?_;clear F a;intro a F
   refine sFa (f := 1) (k := 1) Tryd.underlying50 rfl Tryd.sizeOf5 rfl rfl F rfl rfl rfl ?_;clear F a;intro a F
   refine sSt H 0 Tryd.sizeOf5 F rfl rfl rfl rfl rfl rfl ?_
   clear H; intro w H
   refine sNil ?_
   refine hK29 _ _ ?_; clear hK29
   refine cSeq (fun K30 hK30 => ?_)
   refine cReg ?_
   refine sFa (f := 2) (k := 2) Tryd.underlying50 rfl Tryd.sizeOf5 rfl rfl F rfl rfl rfl ?_;clear F a;intro a F
   refine sLd Tryd.isAgg5 F rfl rfl rfl (H.cell 1 rfl rfl) ?_;clear F a;intro a F
   refine sFa (f := 2) (k := 2) Tryd.underlying50 rfl Tryd.sizeOf5 rfl rfl F rfl rfl rfl ?_;clear F a;intro a F
   refine sSt H 0 Tryd.sizeOf5 F rfl rfl rfl rfl rfl rfl ?_
   clear H; intro w H
   refine sNil ?_
   refine hK30 _ _ ?_; clear hK30
   refine cSeq (fun K31 hK31 => ?_)
   refine cReg ?_
   refine sFa (f := 3) (k := 3) Tryd.underlying50 rfl Tryd.sizeOf48 rfl rfl F rfl rfl rfl ?_;clear F a;intro a F
   refine sLr Tryd.underlying48 rfl ?si F rfl rfl rfl (H.range 1 rfl _ 2) ?_
   case si => exact info_size Tryd.sizeOf48
   clear F a; intro a F
   refine sFa (f := 3) (k := 3) Tryd.underlying50 rfl Tryd.sizeOf48 rfl rfl F rfl rfl rfl ?_;clear F a;intro a F
   refine sSr H 0 ?si F rfl rfl rfl ?s1 rfl rfl ?_
   case si => exact info_size Tryd.sizeOf48
   case s1 => first | rfl | (repeat (first | exact one_nil | (apply one_cons; · first | rfl | assumption | exact one_bif rfl rfl)))
   clear H; intro w H
   refine sNil ?_
   refine hK31 _ _ ?_; clear hK31
   refine cSeq (fun K32 hK32 => ?_)
   refine cReg ?_
   refine sLr Tryd.underlying50 rfl ?si F rfl rfl rfl (H.whole 1 rfl) ?_
   case si => exact info_size Tryd.sizeOf50
   clear F a; intro a F
   refine sLr Tryd.underlying50 rfl ?si F rfl rfl rfl (H.whole 0 rfl) ?_
   case si => exact info_size Tryd.sizeOf50
   clear F a; intro a F
   refine sBin F rfl rfl rfl rfl (bInsEq (x := x) (y := want4 x) rfl) ?_;clear F a;intro a F
   refine sMv F rfl rfl rfl ?_;clear F a;intro a F
   refine F.split 136 rfl ?_ ?_ <;> (clear F; intro h136 F)
   ·
    replace h136 := beqT h136
    replace h136 : (x == want4 x) = true := beq_iff_eq.2 h136
    refine sMv F rfl rfl rfl ?_;clear F a;intro a F
    refine sPk F rfl rfl rfl rfl ?_;clear F a;intro a F
    refine sMv F rfl rfl rfl ?_;clear F a;intro a F
    refine F.split 139 rfl ?_ ?_ <;> (clear F; intro h139 F)
    ·
     replace h139 := of_decide_eq_true h139
     refine sMv F rfl rfl rfl ?_;clear F a;intro a F
     refine sPk F rfl rfl rfl rfl ?_;clear F a;intro a F
     refine sMv F rfl rfl rfl ?_;clear F a;intro a F
     refine F.split 142 rfl ?_ ?_ <;> (clear F; intro h142 F)
     ·
      replace h142 := of_decide_eq_true h142
      refine sFa (f := 3) (k := 3) Tryd.underlying50 rfl Tryd.sizeOf48 rfl rfl F rfl rfl rfl ?_;clear F a;intro a F
      refine sLr Tryd.underlying48 rfl ?si F rfl rfl rfl (H.range 1 rfl _ 2) ?_
      case si => exact info_size Tryd.sizeOf48
      clear F a; intro a F
      refine sCall Tryd.call64 F rfl rfl rfl (rarg_any _ _ _) ?_
      rintro e w ⟨rfl, hb⟩
      replace H := H.grow hb; clear hb
      refine ⟨_, rfl, ?_⟩
      clear F a; intro a F
      refine sPk F rfl rfl rfl rfl ?_;clear F a;intro a F
      refine sAs F rfl rfl rfl ?_;clear F a;intro a F
      refine sNil ?_
      refine hK32 _ _ ?_; clear hK32
      refine wp_ret ?_
      simp only [Exit.inBlock, Exit.then]
      refine bRet Tryd.results34 F rfl ?_
      refine ⟨retB ?_, H.below⟩
      clear F H
      first
        | (rw [ins_1 ho]; simp [*]; done)
        | (rw [ins_2 ho]; simp [*]; done)
        | (rw [ins_3 ho]; simp [*]; done)
        | (rcases ho with ho | ho
           · rw [ins_4 ho]; simp [*]; done
           · rw [ins_5 ho]; simp [*]; done)
        | (rw [ins_6 ho]; simp [*]; done)
        | (rw [ins_7 ho]; simp [*]; done)
        | (rw [ins_8 ho]; simp [*]; done)
        | (rw [ins_0 (by omega)]; done)
     replace h142 := of_decide_eq_false h142
     refine sSk F rfl rfl ?_;clear F a;intro a F
     refine sSk F rfl rfl ?_;clear F a;intro a F
     refine sSk F rfl rfl ?_;clear F a;intro a F
     refine sPk F rfl rfl rfl rfl ?_;clear F a;intro a F
     refine sAs F rfl rfl rfl ?_;clear F a;intro a F
     refine sNil ?_
     refine hK32 _ _ ?_; clear hK32
     refine wp_ret ?_
     simp only [Exit.inBlock, Exit.then]
     refine bRet Tryd.results34 F rfl ?_
     refine ⟨retB ?_, H.below⟩
     clear F H
     first
       | (rw [ins_1 ho]; simp [*]; done)
       | (rw [ins_2 ho]; simp [*]; done)
       | (rw [ins_3 ho]; simp [*]; done)
       | (rcases ho with ho | ho
          · rw [ins_4 ho]; simp [*]; done
          · rw [ins_5 ho]; simp [*]; done)
       | (rw [ins_6 ho]; simp [*]; done)
       | (rw [ins_7 ho]; simp [*]; done)
       | (rw [ins_8 ho]; simp [*]; done)
       | (rw [ins_0 (by omega)]; done)
    replace h139 := of_decide_eq_false h139
    refine sSk F rfl rfl ?_;clear F a;intro a F
    refine sPk F rfl rfl rfl rfl ?_;clear F a;intro a F
    refine sMv F rfl rfl rfl ?_;clear F a;intro a F
    refine sSk F rfl rfl ?_;clear F a;intro a F
    refine sSk F rfl rfl ?_;clear F a;intro a F
    refine sSk F rfl rfl ?_;clear F a;intro a F
    refine sPk F rfl rfl rfl rfl ?_;clear F a;intro a F
    refine sAs F rfl rfl rfl ?_;clear F a;intro a F
    refine sNil ?_
    refine hK32 _ _ ?_; clear hK32
    refine wp_ret ?_
    simp only [Exit.inBlock, Exit.then]
    refine bRet Tryd.results34 F rfl ?_
    refine ⟨retB ?_, H.below⟩
    clear F H
    first
      | (rw [ins_1 ho]; simp [*]; done)
      | (rw [ins_2 ho]; simp [*]; done)
      | (rw [ins_3 ho]; simp [*]; done)
      | (rcases ho with ho | ho
         · rw [ins_4 ho]; simp [*]; done
         · rw [ins_5 ho]; simp [*]; done)
      | (rw [ins_6 ho]; simp [*]; done)
      | (rw [ins_7 ho]; simp [*]; done)
      | (rw [ins_8 ho]; simp [*]; done)
      | (rw [ins_0 (by omega)]; done)
   replace h136 := beqF h136
   replace h136 : (x == want4 x) = false := beq_false_of_ne h136
   refine sSk F rfl rfl ?_;clear F a;intro a F
   refine sPk F rfl rfl rfl rfl ?_;clear F a;intro a F
   refine sMv F rfl rfl rfl ?_;clear F a;intro a F
   refine sSk F rfl rfl ?_;clear F a;intro a F
   refine sPk F rfl rfl rfl rfl ?_;clear F a;intro a F
   refine sMv F rfl rfl rfl ?_;clear F a;intro a F
   refine sSk F rfl rfl ?_;clear F a;intro a F
   refine sSk F rfl rfl ?_;clear F a;intro a F
   refine sSk F rfl rfl ?_;clear F a;intro a F
   refine sPk F rfl rfl rfl rfl ?_;clear F a;intro a F
   refine sAs F rfl rfl rfl ?_;clear F a;intro a F
   refine sNil ?_
   refine hK32 _ _ ?_; clear hK32
   refine wp_ret ?_
   simp only [Exit.inBlock, Exit.then]
   refine bRet Tryd.results34 F rfl ?_
   refine ⟨retB ?_, H.below⟩
   clear F H
   first
     | (rw [ins_1 ho]; simp [*]; done)
     | (rw [ins_2 ho]; simp [*]; done)
     | (rw [ins_3 ho]; simp [*]; done)
     | (rcases ho with ho | ho
        · rw [ins_4 ho]; simp [*]; done
        · rw [ins_5 ho]; simp [*]; done)
     | (rw [ins_6 ho]; simp [*]; done)
     | (rw [ins_7 ho]; simp [*]; done)
     | (rw [ins_8 ho]; simp [*]; done)
     | (rw [ins_0 (by omega)]; done)
  replace h121 := beqF h121
  refine cIfF F rfl ?_
  refine cSeq (fun K33 hK33 => ?_)
  refine cReg ?_
  refine sBin F rfl rfl rfl rfl bEql ?_;clear F a;intro a F
  refine sAs F rfl rfl rfl ?_;clear F a;intro a F
  refine sNil ?_
  refine hK33 _ _ ?_; clear hK33
  refine cIf F rfl (fun h147 => ?_) (fun h147 => ?_)
  ·
   replace h147 := beqT h147
   have ho : x.op = 6 := UInt8.toNat_inj.1 (by have : (6 : UInt8).toNat = 6 := rfl; omega)
   refine cSeq (fun K34 hK34 => ?_)
   refine cReg ?_
   refine sFa (f := 1) (k := 1) Tryd.underlying50 rfl Tryd.sizeOf5 rfl rfl F rfl rfl rfl ?_;clear F a;intro a F
   refine sLd Tryd.isAgg5 F rfl rfl rfl (H.cell 1 rfl rfl) ?_;clear F a;intro a F
   refine sFa (f := 1) (k := 1) Tryd.underlying50 rfl Tryd.sizeOf5 rfl rfl F rfl rfl rfl ?_;clear F a;intro a F
   refine sSt H 0 Tryd.sizeOf5 F rfl rfl rfl rfl rfl rfl ?_
   clear H; intro w H
   refine sNil ?_
   refine hK34 _ _ ?_; clear hK34
   refine cSeq (fun K35 hK35 => ?_)
   refine cReg ?_
   refine sFa (f := 2) (k := 2) Tryd.underlying50 rfl Tryd.sizeOf5 rfl rfl F rfl rfl rfl ?_;clear F a;intro a F
   refine sLd Tryd.isAgg5 F rfl rfl rfl (H.cell 1 rfl rfl) ?_;clear F a;intro a F
   refine sFa (f := 2) (k := 2) Tryd.underlying50 rfl Tryd.sizeOf5 rfl rfl F rfl rfl rfl ?_;clear F a;intro a F
   refine sSt H 0 Tryd.sizeOf5 F rfl rfl rfl rfl rfl rfl ?_
   clear H; intro w H
   refine sNil ?_
   refine hK35 _ _ ?_; clear hK35
   refine cSeq (fun K36 hK36 => ?_)
   refine cReg ?_
   refine sFa (f := 3) (k := 3) Tryd.underlying50 rfl Tryd.sizeOf48 rfl rfl F rfl rfl rfl ?_;clear F a;intro a F
   refine sLr Tryd.underlying48 rfl ?si F rfl rfl rfl (H.range 1 rfl _ 2) ?_
   case si => exact info_size Tryd.sizeOf48
   clear F a; intro a F
   refine sFa (f := 3) (k := 3) Tryd.underlying50 rfl Tryd.sizeOf48 rfl rfl F rfl rfl rfl ?_;clear F a;intro a F
   refine sSr H 0 ?si F rfl rfl rfl ?s1 rfl rfl ?_
   case si => exact info_size Tryd.sizeOf48
   case s1 => first | rfl | (repeat (first | exact one_nil | (apply one_cons; · first | rfl | assumption | exact one_bif rfl rfl)))
   clear H; intro w H
   refine sNil ?_
   refine hK36 _ _ ?_; clear hK36
   refine cSeq (fun K37 hK37 => ?_)
   refine cReg ?_
   refine sFa (f := 4) (k := 5) Tryd.underlying50 rfl Tryd.sizeOf48 rfl rfl F rfl rfl rfl ?_;clear F a;intro a F
   refine sLr Tryd.underlying48 rfl ?si F rfl rfl rfl (H.range 1 rfl _ 2) ?_
   case si => exact info_size Tryd.sizeOf48
   clear F a; intro a F
   refine sFa (f := 4) (k := 5) Tryd.underlying50 rfl Tryd.sizeOf48 rfl rfl F rfl rfl rfl ?_;clear F a;intro a F
   refine sSr H 0 ?si F rfl rfl rfl ?s1 rfl rfl ?_
   case si => exact info_size Tryd.sizeOf48
   case s1 => first | rfl | (repeat (first | exact one_nil | (apply one_cons; · first | rfl | assumption | exact one_bif rfl rfl)))
   clear H; intro w H
   refine sNil ?_
   refine hK37 _ _ ?_; clear hK37
   refine cSeq (fun K38 hK38 => ?_)
   refine cReg ?_
   refine sLr Tryd.underlying50 rfl ?si F rfl rfl rfl (H.whole 1 rfl) ?_
   case si => exact info_size Tryd.sizeOf50
   clear F a; intro a F
   refine sLr Tryd.underlying50 rfl ?si F rfl rfl rfl (H.whole 0 rfl) ?_
   case si => exact info_size Tryd.sizeOf50
   clear F a; intro a F
   refine sBin F rfl rfl rfl rfl (bInsEq (x := x) (y := want6 x) rfl) ?_;clear F a;intro a F
   refine sMv F rfl rfl rfl ?_;clear F a;intro a F
   refine F.split 164 rfl ?_ ?_ <;> (clear F; intro h164 F)
   ·
    replace h164 := beqT h164
    replace h164 : (x == want6 x) = true := beq_iff_eq.2 h164
    refine sMv F rfl rfl rfl ?_;clear F a;intro a F
    refine sPk F rfl rfl rfl rfl ?_;clear F a;intro a F
    refine sMv F rfl rfl rfl ?_;clear F a;intro a F
    refine F.split 167 rfl ?_ ?_ <;> (clear F; intro h167 F)
    ·
     replace h167 := of_decide_eq_true h167
     refine sMv F rfl rfl rfl ?_;clear F a;intro a F
     refine sPk F rfl rfl rfl rfl ?_;clear F a;intro a F
     refine sMv F rfl rfl rfl ?_;clear F a;intro a F
     refine F.split 170 rfl ?_ ?_ <;> (clear F; intro h170 F)
     ·
      replace h170 := of_decide_eq_true h170
      refine sFa (f := 3) (k := 3) Tryd.underlying50 rfl Tryd.sizeOf48 rfl rfl F rfl rfl rfl ?_;clear F a;intro a F
      refine sLr Tryd.underlying48 rfl ?si F rfl rfl rfl (H.range 1 rfl _ 2) ?_
      case si => exact info_size Tryd.sizeOf48
      clear F a; intro a F
      refine sCall Tryd.call64 F rfl rfl rfl (rarg_any _ _ _) ?_
      rintro e w ⟨rfl, hb⟩
      replace H := H.grow hb; clear hb
      refine ⟨_, rfl, ?_⟩
      clear F a; intro a F
      refine sPk F rfl rfl rfl rfl ?_;clear F a;intro a F
      refine sMv F rfl rfl rfl ?_;clear F a;intro a F
      refine F.split 175 rfl ?_ ?_ <;> (clear F; intro h175 F)
      ·
       refine sFa (f := 4) (k := 5) Tryd.underlying50 rfl Tryd.sizeOf48 rfl rfl F rfl rfl rfl ?_;clear F a;intro a F
       refine sLr Tryd.underlying48 rfl ?si F rfl rfl rfl (H.range 1 rfl _ 2) ?_
       case si => exact info_size Tryd.sizeOf48
       clear F a; intro a F
       refine sCall Tryd.call64 F rfl rfl rfl (rarg_any _ _ _) ?_
       rintro e w ⟨rfl, hb⟩
       replace H := H.grow hb; clear hb
       refine ⟨_, rfl, ?_⟩
       clear F a; intro a F
       refine sPk F rfl rfl rfl rfl ?_;clear F a;intro a F
       refine sAs F rfl rfl rfl ?_;clear F a;intro a F
       refine sNil ?_
       refine hK38 _ _ ?_; clear hK38
       refine wp_ret ?_
       simp only [Exit.inBlock, Exit.then]
       refine bRet Tryd.results34 F rfl ?_
       refine ⟨retB ?_, H.below⟩
       clear F H
       first
         | (rw [ins_1 ho]; simp [*]; done)
         | (rw [ins_2 ho]; simp [*]; done)
         | (rw [ins_3 ho]; simp [*]; done)
         | (rcases ho with ho | ho
            · rw [ins_4 ho]; simp [*]; done
            · rw [ins_5 ho]; simp [*]; done)
         | (rw [ins_6 ho]; simp [*]; done)
         | (rw [ins_7 ho]; simp [*]; done)
         | (rw [ins_8 ho]; simp [*]; done)
         | (rw [ins_0 (by omega)]; done)
      refine sSk F rfl rfl ?_;clear F a;intro a F
      refine sSk F rfl rfl ?_;clear F a;intro a F
      refine sSk F rfl rfl ?_;clear F a;intro a F
      refine sPk F rfl rfl rfl rfl ?_;clear F a;intro a F
      refine sAs F rfl rfl rfl ?_;clear F a;intro a F
      refine sNil ?_
      refine hK38 _ _ ?_; clear hK38
      refine wp_ret ?_
      simp only [Exit.inBlock, Exit.then]
      refine bRet Tryd.results34 F rfl ?_
      refine ⟨retB ?_, H.below⟩
      clear F H
      first
        | (rw [ins_1 ho]; simp [*]; done)
        | (rw [ins_2 ho]; simp [*]; done)
        | (rw [ins_3 ho]; simp [*]; done)
        | (rcases ho with ho | ho
           · rw [ins_4 ho]; simp [*]; done
           · rw [ins_5 ho]; simp [*]; done)
        | (rw [ins_6 ho]; simp [*]; done)
        | (rw [ins_7 ho]; simp [*]; done)
        | (rw [ins_8 ho]; simp [*]; done)
        | (rw [ins_0 (by omega)]; done)
     replace h170 := of_decide_eq_false h170
     refine sSk F rfl rfl ?_;clear F a;intro a F
     refine sSk F rfl rfl ?_;clear F a;intro a F
     refine sSk F rfl rfl ?_;clear F a;intro a F
     refine sPk F rfl rfl rfl rfl ?_;clear F a;intro a F
     refine sMv F rfl rfl rfl ?_;clear F a;intro a F
     refine sSk F rfl rfl ?_;clear F a;intro a F
     refine sSk F rfl rfl ?_;clear F a;intro a F
     refine sSk F rfl rfl ?_;clear F a;intro a F
     refine sPk F rfl rfl rfl rfl ?_;clear F a;intro a F
     refine sAs F rfl rfl rfl ?_;clear F a;intro a F
     refine sNil ?_
     refine hK38 _ _ ?_; clear hK38
     refine wp_ret ?_
     simp only [Exit.inBlock, Exit.then]
     refine bRet Tryd.results34 F rfl ?_
     refine ⟨retB ?_, H.below⟩
     clear F H
     first
       | (rw [ins_1 ho]; simp [*]; done)
       | (rw [ins_2 ho]; simp [*]; done)
       | (rw [ins_3 ho]; simp [*]; done)
       | (rcases ho with ho | ho
          · rw [ins_4 ho]; simp [*]; done
          · rw [ins_5 ho]; simp [*]; done)
       | (rw [ins_6 ho]; simp [*]; done)
       | (rw [ins_7 ho]; simp [*]; done)
       | (rw [ins_8 ho]; simp [*]; done)
       | (rw [ins_0 (by omega)]; done)
    replace h167 := of_decide_eq_false h167
    refine sSk F rfl rfl ?_;clear F a;intro a F
    refine sPk F rfl rfl rfl rfl ?_;clear F a;intro a F
    refine sMv F rfl rfl rfl ?_;clear F a;intro a F
    refine sSk F rfl rfl ?_;clear F a;intro a F
    refine sSk F rfl rfl ?_;clear F a;intro a F
    refine sSk F rfl rfl ?_;clear F a;intro a F
    refine sPk F rfl rfl rfl rfl ?_;clear F a;intro a F
    refine sMv F rfl rfl rfl ?_;clear F a;intro a F
    refine sSk F rfl rfl ?_;clear F a;intro a F
    refine sSk F rfl rfl ?_;clear F a;intro a F
    refine sSk F rfl rfl ?_;clear F a;intro a F
    refine sPk F rfl rfl rfl rfl ?_;clear F a;intro a F
    refine sAs F rfl rfl rfl ?_;clear F a;intro a F
    refine sNil ?_
    refine hK38 _ _ ?_; clear hK38
    refine wp_ret ?_
    simp only [Exit.inBlock, Exit.then]
    refine bRet Tryd.results34 F rfl ?_
    refine ⟨retB ?_, H.below⟩
    clear F H
    first
      | (rw [ins_1 ho]; simp [*]; done)
      | (rw [ins_2 ho]; simp [*]; done)
      | (rw [ins_3 ho]; simp [*]; done)
      | (rcases ho with ho | ho
         · rw [ins_4 ho]; simp [*]; done
         · rw [ins_5 ho]; simp [*]; done)
      | (rw [ins_6 ho]; simp [*]; done)
      | (rw [ins_7 ho]; simp [*]; done)
      | (rw [ins_8 ho]; simp [*]; done)
      | (rw [ins_0 (by omega)]; done)
   replace h164 := beqF h164
   replace h164 : (x == want6 x) = false := beq_false_of_ne h164
   refine sSk F rfl rfl ?_;clear F a;intro a F
   refine sPk F rfl rfl rfl rfl ?_;clear F a;intro a F
   refine sMv F rfl rfl rfl ?_;clear F a;intro a F
   refine sSk F rfl rfl ?_;clear F a;intro a F
   refine sPk F rfl rfl rfl rfl ?_;clear F a;intro a F
   refine sMv F rfl rfl rfl ?_;clear F a;intro a F
   refine sSk F rfl rfl ?_;clear F a;intro a F
   refine sSk F rfl rfl ?_;clear F a;intro a F
   refine sSk F rfl rfl ?_;clear F a;intro a F
   refine sPk F rfl rfl rfl rfl ?_;clear F a;intro a F
   refine sMv F rfl rfl rfl ?_;clear F a;intro a F
   refine sSk F rfl rfl ?_;clear F a;intro a F
   refine sSk F rfl rfl ?_;clear F a;intro a F
   refine sSk F rfl rfl ?_;clear F a;intro a F
   refine sPk F rfl rfl rfl rfl ?_;clear F a;intro a F
   refine sAs F rfl rfl rfl ?_;clear F a;intro a F
   refine sNil ?_
   refine hK38 _ _ ?_; clear hK38
   refine wp_ret ?_
   simp only [Exit.inBlock, Exit.then]
   refine bRet Tryd.results34 F rfl ?_
   refine ⟨retB ?_, H.below⟩
   clear F H
   first
     | (rw [ins_1 ho]; simp [*]; done)
     | (rw [ins_2 ho]; simp [*]; done)
     | (rw [ins_3 ho]; simp [*]; done)
     | (rcases ho with ho | ho
        · rw [ins_4 ho]; simp [*]; done
        · rw [ins_5 ho]; simp [*]; done)
     | (rw [ins_6 ho]; simp [*]; done)
     | (rw [ins_7 ho]; simp [*]; done)
     | (rw [ins_8 ho]; simp [*]; done)
     | (rw [ins_0 (by omega)]; done)
  replace h147 := beqF h147
  refine cSeq (fun K39 hK39 => ?_)
  refine cReg ?_
  refine sBin F rfl rfl rfl rfl bEql ?_;clear F a;intro a F
  refine sAs F rfl rfl rfl ?_;clear F a;intro a F
  refine sNil ?_
  refine hK39 _ _ ?_; clear hK39
  refine cIf F rfl (fun h180 => ?_) (fun h180 => ?_)
  ·
   replace h180 := beqT h180
   have ho : x.op = 7 := UInt8.toNat_inj.1 (by have : (7 : UInt8).toNat = 7 := rfl; omega)
   refine cSeq (fun K40 hK40 => ?_)
   refine cReg ?_
   refine sFa (f := 6) (k := 8) Tryd.underlying50 rfl Tryd.sizeOf5 rfl rfl F rfl rfl rfl ?_;clear F a;intro a F
   refine sLd Tryd.isAgg5 F rfl rfl rfl (H.cell 1 rfl rfl) ?_;clear F a;intro a F
   refine sFa (f := 6) (k := 8) Tryd.underlying50 rfl Tryd.sizeOf5 rfl rfl F rfl rfl rfl ?_;clear F a;intro a F
   refine sSt H 0 Tryd.sizeOf5 F rfl rfl rfl rfl rfl rfl ?_
   clear H; intro w H
   refine sNil ?_
   refine hK40 _ _ ?_; clear hK40
   refine cSeq (fun K41 hK41 => ?_)
   refine cReg ?_
   refine sLr Tryd.underlying50 rfl ?si F rfl rfl rfl (H.whole 1 rfl) ?_
   case si => exact info_size Tryd.sizeOf50
   clear F a; intro a F
   refine sLr Tryd.underlying50 rfl ?si F rfl rfl rfl (H.whole 0 rfl) ?_
   case si => exact info_size Tryd.sizeOf50
   clear F a; intro a F
   refine sBin F rfl rfl rfl rfl (bInsEq (x := x) (y := want7 x) rfl) ?_;clear F a;intro a F
   refine sMv F rfl rfl rfl ?_;clear F a;intro a F
   refine F.split 188 rfl ?_ ?_ <;> (clear F; intro h188 F)
   ·
    replace h188 := beqT h188
    replace h188 : (x == want7 x) = true := beq_iff_eq.2 h188
    refine sFa (f := 6) (k := 8) Tryd.underlying50 rfl Tryd.sizeOf5 rfl rfl F rfl rfl rfl ?_;clear F a;intro a F
    refine sLd Tryd.isAgg5 F rfl rfl rfl (H.cell 1 rfl rfl) ?_;clear F a;intro a F
    refine sBin F rfl rfl rfl rfl (bGeqB (y := 3)) ?_;clear F a;intro a F
    refine sPk F rfl rfl rfl rfl ?_;clear F a;intro a F
    refine sMv F rfl rfl rfl ?_;clear F a;intro a F
    refine F.split 193 rfl ?_ ?_ <;> (clear F; intro h193 F)
    ·
     replace h193 := of_decide_eq_true h193
     refine sFa (f := 6) (k := 8) Tryd.underlying50 rfl Tryd.sizeOf5 rfl rfl F rfl rfl rfl ?_;clear F a;intro a F
     refine sLd Tryd.isAgg5 F rfl rfl rfl (H.cell 1 rfl rfl) ?_;clear F a;intro a F
     refine sBin F rfl rfl rfl rfl (bLeqB (y := 5)) ?_;clear F a;intro a F
     refine sPk F rfl rfl rfl rfl ?_;clear F a;intro a F
     refine sAs F rfl rfl rfl ?_;clear F a;intro a F
     refine sNil ?_
     refine hK41 _ _ ?_; clear hK41
     refine wp_ret ?_
     simp only [Exit.inBlock, Exit.then]
     refine bRet Tryd.results34 F rfl ?_
     refine ⟨retB ?_, H.below⟩
     clear F H
     first
       | (rw [ins_1 ho]; simp [*]; done)
       | (rw [ins_2 ho]; simp [*]; done)
       | (rw [ins_3 ho]; simp [*]; done)
       | (rcases ho with ho | ho
          · rw [ins_4 ho]; simp [*]; done
          · rw [ins_5 ho]; simp [*]; done)
       | (rw [ins_6 ho]; simp [*]; done)
       | (rw [ins_7 ho]; simp [*]; done)
       | (rw [ins_8 ho]; simp [*]; done)
       | (rw [ins_0 (by omega)]; done)
    replace h193 := of_decide_eq_false h193
    refine sSk F rfl rfl ?_;clear F a;intro a F
    refine sSk F rfl rfl ?_;clear F a;intro a F
    refine sSk F rfl rfl ?_;clear F a;intro a F
    refine sPk F rfl rfl rfl rfl ?_;clear F a;intro a F
    refine sAs F rfl rfl rfl ?_;clear F a;intro a F
    refine sNil ?_
    refine hK41 _ _ ?_; clear hK41
    refine wp_ret ?_
    simp only [Exit.inBlock, Exit.then]
    refine bRet Tryd.results34 F rfl ?_
    refine ⟨retB ?_, H.below⟩
    clear F H
    first
      | (rw [ins_1 ho]; simp [*]; done)
      | (rw [ins_2 ho]; simp [*]; done)
      | (rw [ins_3 ho]; simp [*]; done)
      | (rcases ho with ho | ho
         · rw [ins_4 ho]; simp [*]; done
         · rw [ins_5 ho]; simp [*]; done)
      | (rw [ins_6 ho]; simp [*]; done)
      | (rw [ins_7 ho]; simp [*]; done)
      | (rw [ins_8 ho]; simp [*]; done)
      | (rw [ins_0 (by omega)]; done)
   replace h188 := beqF h188
   replace h188 : (x == want7 x) = false := beq_false_of_ne h188
   refine sSk F rfl rfl ?_;clear F a;intro a F
   refine sSk F rfl rfl ?_;clear F a;intro a F
   refine sSk F rfl rfl ?_;clear F a;intro a F
   refine sPk F rfl rfl rfl rfl ?_;clear F a;intro a F
   refine sMv F rfl rfl rfl ?_;clear F a;intro a F
   refine sSk F rfl rfl ?_;clear F a;intro a F
   refine sSk F rfl rfl ?_;clear F a;intro a F
   refine sSk F rfl rfl ?_;clear F a;intro a F
   refine sPk F rfl rfl rfl rfl ?_;clear F a;intro a F
   refine sAs F rfl rfl rfl ?_;clear F a;intro a F
   refine sNil ?_
   refine hK41 _ _ ?_; clear hK41
   refine wp_ret ?_
   simp only [Exit.inBlock, Exit.then]
   refine bRet Tryd.results34 F rfl ?_
   refine ⟨retB ?_, H.below⟩
   clear F H
   first
     | (rw [ins_1 ho]; simp [*]; done)
     | (rw [ins_2 ho]; simp [*]; done)
     | (rw [ins_3 ho]; simp [*]; done)
     | (rcases ho with ho | ho
        · rw [ins_4 ho]; simp [*]; done
        · rw [ins_5 ho]; simp [*]; done)
     | (rw [ins_6 ho]; simp [*]; done)
     | (rw [ins_7 ho]; simp [*]; done)
     | (rw [ins_8 ho]; simp [*]; done)
     | (rw [ins_0 (by omega)]; done)
  replace h180 := beqF h180
  refine cSeq (fun K42 hK42 => ?_)
  refine cReg ?_
  refine sBin F rfl rfl rfl rfl bEql ?_;clear F a;intro a F
  refine sAs F rfl rfl rfl ?_;clear F a;intro a F
  refine sNil ?_
  refine hK42 _ _ ?_; clear hK42
  refine cIf F rfl (fun h198 => ?_) (fun h198 => ?_)
  ·
   replace h198 := beqT h198
   have ho : x.op = 8 := UInt8.toNat_inj.1 (by have : (8 : UInt8).toNat = 8 := rfl; omega)
   refine cSeq (fun K43 hK43 => ?_)
   refine cReg ?_
   refine sFa (f := 3) (k := 3) Tryd.underlying50 rfl Tryd.sizeOf48 rfl rfl F rfl rfl rfl ?_;clear F a;intro a F
   refine sLr Tryd.underlying48 rfl ?si F rfl rfl rfl (H.range 1 rfl _ 2) ?_
   case si => exact info_size Tryd.sizeOf48
   clear F a; intro a F
   refine sFa (f := 3) (k := 3) Tryd.underlying50 rfl Tryd.sizeOf48 rfl rfl F rfl rfl rfl ?_;clear F a;intro a F
   refine sSr H 0 ?si F rfl rfl rfl ?s1 rfl rfl ?_
   case si => exact info_size Tryd.sizeOf48
   case s1 => first | rfl | (repeat (first | exact one_nil | (apply one_cons; · first | rfl | assumption | exact one_bif rfl rfl)))
   clear H; intro w H
   refine sNil ?_
   refine hK43 _ _ ?_; clear hK43
   refine cSeq (fun K44 hK44 => ?_)
   refine cReg ?_
   refine sFa (f := 4) (k := 5) Tryd.underlying50 rfl Tryd.sizeOf48 rfl rfl F rfl rfl rfl ?_;clear F a;intro a F
   refine sLr Tryd.underlying48 rfl ?si F rfl rfl rfl (H.range 1 rfl _ 2) ?_
   case si => exact info_size Tryd.sizeOf48
   clear F a; intro a F
   refine sFa (f := 4) (k := 5) Tryd.underlying50 rfl Tryd.sizeOf48 rfl rfl F rfl rfl rfl ?_;clear F a;intro a F
   refine sSr H 0 ?si F rfl rfl rfl ?s1 rfl rfl ?_
   case si => exact info_size Tryd.sizeOf48
   case s1 => first | rfl | (repeat (first | exact one_nil | (apply one_cons; · first | rfl | assumption | exact one_bif rfl rfl)))
   clear H; intro w H
   refine sNil ?_
   refine hK44 _ _ ?_; clear hK44
   refine cSeq (fun K45 hK45 => ?_)
   refine cReg ?_
   refine sFa (f := 5) (k := 7) Tryd.underlying50 rfl Tryd.sizeOf5 rfl rfl F rfl rfl rfl ?_;clear F a;intro a F
   refine sLd Tryd.isAgg5 F rfl rfl rfl (H.cell 1 rfl rfl) ?_;clear F a;intro a F
   refine sFa (f := 5) (k := 7) Tryd.underlying50 rfl Tryd.sizeOf5 rfl rfl F rfl rfl rfl ?_;clear F a;intro a F
   refine sSt H 0 Tryd.sizeOf5 F rfl rfl rfl rfl rfl rfl ?_
   clear H; intro w H
   refine sNil ?_
   refine hK45 _ _ ?_; clear hK45
   refine cSeq (fun K46 hK46 => ?_)
   refine cReg ?_
   refine sFa (f := 7) (k := 9) Tryd.underlying50 rfl Tryd.sizeOf5 rfl rfl F rfl rfl rfl ?_;clear F a;intro a F
   refine sLd Tryd.isAgg5 F rfl rfl rfl (H.cell 1 rfl rfl) ?_;clear F a;intro a F
   refine sFa (f := 7) (k := 9) Tryd.underlying50 rfl Tryd.sizeOf5 rfl rfl F rfl rfl rfl ?_;clear F a;intro a F
   refine sSt H 0 Tryd.sizeOf5 F rfl rfl rfl rfl rfl rfl ?_
   clear H; intro w H
   refine sNil ?_
   refine hK46 _ _ ?_; clear hK46
   refine cSeq (fun K47 hK47 => ?_)
   refine cReg ?_
   refine sLr Tryd.underlying50 rfl ?si F rfl rfl rfl (H.whole 1 rfl) ?_
   case si => exact info_size Tryd.sizeOf50
   clear F a; intro a F
   refine sLr Tryd.underlying50 rfl ?si F rfl rfl rfl (H.whole 0 rfl) ?_
   case si => exact info_size Tryd.sizeOf50
   clear F a; intro a F
   refine sBin F rfl rfl rfl rfl (bInsEq (x := x) (y := want8 x) rfl) ?_;clear F a;intro a F
   refine sMv F rfl rfl rfl ?_;clear F a;intro a F
   refine F.split 215 rfl ?_ ?_ <;> (clear F; intro h215 F)
   ·
    replace h215 := beqT h215
    replace h215 : (x == want8 x) = true := beq_iff_eq.2 h215
    refine sFa (f := 3) (k := 3) Tryd.underlying50 rfl Tryd.sizeOf48 rfl rfl F rfl rfl rfl ?_;clear F a;intro a F
    refine sLr Tryd.underlying48 rfl ?si F rfl rfl rfl (H.range 1 rfl _ 2) ?_
    case si => exact info_size Tryd.sizeOf48
    clear F a; intro a F
    refine sCall Tryd.call64 F rfl rfl rfl (rarg_any _ _ _) ?_
    rintro e w ⟨rfl, hb⟩
    replace H := H.grow hb; clear hb
    refine ⟨_, rfl, ?_⟩
    clear F a; intro a F
    refine sPk F rfl rfl rfl rfl ?_;clear F a;intro a F
    refine sMv F rfl rfl rfl ?_;clear F a;intro a F
    refine F.split 220 rfl ?_ ?_ <;> (clear F; intro h220 F)
    ·
     refine sFa (f := 4) (k := 5) Tryd.underlying50 rfl Tryd.sizeOf48 rfl rfl F rfl rfl rfl ?_;clear F a;intro a F
     refine sLr Tryd.underlying48 rfl ?si F rfl rfl rfl (H.range 1 rfl _ 2) ?_
     case si => exact info_size Tryd.sizeOf48
     clear F a; intro a F
     refine sCall Tryd.call64 F rfl rfl rfl (rarg_any _ _ _) ?_
     rintro e w ⟨rfl, hb⟩
     replace H := H.grow hb; clear hb
     refine ⟨_, rfl, ?_⟩
     clear F a; intro a F
     refine sPk F rfl rfl rfl rfl ?_;clear F a;intro a F
     refine sMv F rfl rfl rfl ?_;clear F a;intro a F
     refine F.split 225 rfl ?_ ?_ <;> (clear F; intro h225 F)
     ·
      refine sFa (f := 5) (k := 7) Tryd.underlying50 rfl Tryd.sizeOf5 rfl rfl F rfl rfl rfl ?_;clear F a;intro a F
      refine sLd Tryd.isAgg5 F rfl rfl rfl (H.cell 1 rfl rfl) ?_;clear F a;intro a F
      refine sBin F rfl rfl rfl rfl (bGeqB (y := 4)) ?_;clear F a;intro a F
      refine sPk F rfl rfl rfl rfl ?_;clear F a;intro a F
      refine sMv F rfl rfl rfl ?_;clear F a;intro a F
      refine F.split 230 rfl ?_ ?_ <;> (clear F; intro h230 F)
      ·
       replace h230 := of_decide_eq_true h230
       refine sFa (f := 5) (k := 7) Tryd.underlying50 rfl Tryd.sizeOf5 rfl rfl F rfl rfl rfl ?_;clear F a;intro a F
       refine sLd Tryd.isAgg5 F rfl rfl rfl (H.cell 1 rfl rfl) ?_;clear F a;intro a F
       refine sBin F rfl rfl rfl rfl (bLeqB (y := 6)) ?_;clear F a;intro a F
       refine sPk F rfl rfl rfl rfl ?_;clear F a;intro a F
       refine sMv F rfl rfl rfl ?_;clear F a;intro a F
       refine F.split 235 rfl ?_ ?_ <;> (clear F; intro h235 F)
       ·
        replace h235 := of_decide_eq_true h235
        refine sFa (f := 7) (k := 9) Tryd.underlying50 rfl Tryd.sizeOf5 rfl rfl F rfl rfl rfl ?_;clear F a;intro a F
        refine sLd Tryd.isAgg5 F rfl rfl rfl (H.cell 1 rfl rfl) ?_;clear F a;intro a F
        refine sBin F rfl rfl rfl rfl (bGeqB (y := 1)) ?_;clear F a;intro a F
        refine sPk F rfl rfl rfl rfl ?_;clear F a;intro a F
        refine sMv F rfl rfl rfl ?_;clear F a;intro a F
        refine F.split 240 rfl ?_ ?_ <;> (clear F; intro h240 F)
        ·
         replace h240 := of_decide_eq_true h240
         refine sFa (f := 7) (k := 9) Tryd.underlying50 rfl Tryd.sizeOf5 rfl rfl F rfl rfl rfl ?_;clear F a;intro a F
         refine sLd Tryd.isAgg5 F rfl rfl rfl (H.cell 1 rfl rfl) ?_;clear F a;intro a F
         refine sCv Tryd.underlying5 Tryd.underlying3 F rfl rfl rfl (wrapB _) ?_;clear F a;intro a F
         refine sMv F rfl rfl rfl ?_;clear F a;intro a F
         refine sBin F rfl rfl rfl rfl bLeq ?_;clear F a;intro a F
         refine sPk F rfl rfl rfl rfl ?_;clear F a;intro a F
         refine sAs F rfl rfl rfl ?_;clear F a;intro a F
         refine sNil ?_
         refine hK47 _ _ ?_; clear hK47
         refine wp_ret ?_
         simp only [Exit.inBlock, Exit.then]
         refine bRet Tryd.results34 F rfl ?_
         refine ⟨retB ?_, H.below⟩
         clear F H
         first
           | (rw [ins_1 ho]; simp [*]; done)
           | (rw [ins_2 ho]; simp [*]; done)
           | (rw [ins_3 ho]; simp [*]; done)
           | (rcases ho with ho | ho
              · rw [ins_4 ho]; simp [*]; done
              · rw [ins_5 ho]; simp [*]; done)
           | (rw [ins_6 ho]; simp [*]; done)
           | (rw [ins_7 ho]; simp [*]; done)
           | (rw [ins_8 ho]; simp [*]; done)
           | (rw [ins_0 (by omega)]; done)
        replace h240 := of_decide_eq_false h240
        refine sSk F rfl rfl ?_;clear F a;intro a F
        refine sSk F rfl rfl ?_;clear F a;intro a F
        refine sSk F rfl rfl ?_;clear F a;intro a F
        refine sSk F rfl rfl ?_;clear F a;intro a F
        refine sSk F rfl rfl ?_;clear F a;intro a F
        refine sPk F rfl rfl rfl rfl ?_;clear F a;intro a F
        refine sAs F rfl rfl rfl ?_;clear F a;intro a F
        refine sNil ?_
        refine hK47 _ _ ?_; clear hK47
        refine wp_ret ?_
        simp only [Exit.inBlock, Exit.then]
        refine bRet Tryd.results34 F rfl ?_
        refine ⟨retB ?_, H.below⟩
        clear F H
        first
          | (rw [ins_1 ho]; simp [*]; done)
          | (rw [ins_2 ho]; simp [*]; done)
          | (rw [ins_3 ho]; simp [*]; done)
          | (rcases ho with ho | ho
             · rw [ins_4 ho]; simp [*]; done
             · rw [ins_5 ho]; simp [*]; done)
          | (rw [ins_6 ho]; simp [*]; done)
          | (rw [ins_7 ho]; simp [*]; done)
          | (rw [ins_8 ho]; simp [*]; done)
          | (rw [ins_0 (by omega)]; done)
       replace h235 := of_decide_eq_false h235
       refine sSk F rfl rfl ?_;clear F a;intro a F
       refine sSk F rfl rfl ?_;clear F a;intro a F
       refine sSk F rfl rfl ?_;clear F a;intro a F
       refine sPk F rfl rfl rfl rfl ?_;clear F a;intro a F
       refine sMv F rfl rfl rfl ?_;clear F a;intro a F
       refine sSk F rfl rfl ?_;clear F a;intro a F
       refine sSk F rfl rfl ?_;clear F a;intro a F
       refine sSk F rfl rfl ?_;clear F a;intro a F
       refine sSk F rfl rfl ?_;clear F a;intro a F
       refine sSk F rfl rfl ?_;clear F a;intro a F
       refine sPk F rfl rfl rfl rfl ?_;clear F a;intro a F
       refine sAs F rfl rfl rfl ?_;clear F a;intro a F
       refine sNil ?_
       refine hK47 _ _ ?_; clear hK47
       refine wp_ret ?_
       simp only [Exit.inBlock, Exit.then]
       refine bRet Tryd.results34 F rfl ?_
       refine ⟨retB ?_, H.below⟩
       clear F H
       first
         | (rw [ins_1 ho]; simp [*]; done)
         | (rw [ins_2 ho]; simp [*]; done)
         | (rw [ins_3 ho]; simp [*]; done)
         | (rcases ho with ho | ho
            · rw [ins_4 ho]; simp [*]; done
            · rw [ins_5 ho]; simp [*]; done)
         | (rw [ins_6 ho]; simp [*]; done)
         | (rw [ins_7 ho]; simp [*]; done)
         | (rw [ins_8 ho]; simp [*]; done)
         | (rw [ins_0 (by omega)]; done)
      replace h230 := of_decide_eq_false h230
      refine sSk F rfl rfl ?_;clear F a;intro a F
      refine sSk F rfl rfl ?_;clear F a;intro a F
      refine sSk F rfl rfl ?_;clear F a;intro a F
      refine sPk F rfl rfl rfl rfl ?_;clear F a;intro a F
      refine sMv F rfl rfl rfl ?_;clear F a;intro a F
      refine sSk F rfl rfl ?_;clear F a;intro a F
      refine sSk F rfl rfl ?_;clear F a;intro a F
      refine sSk F rfl rfl ?_;clear F a;intro a F
      refine sPk F rfl rfl rfl rfl ?_;clear F a;intro a F
      refine sMv F rfl rfl rfl ?_;clear F a;intro a F
      refine sSk F rfl rfl ?_;clear F a;intro a F
      refine sSk F rfl rfl ?_;clear F a;intro a F
      refine sSk F rfl rfl ?_;clear F a;intro a F
      refine sSk F rfl rfl ?_;clear F a;intro a F
      refine sSk F rfl rfl ?_;clear F a;intro a F
      refine sPk F rfl rfl rfl rfl ?_;clear F a;intro a F
      refine sAs F rfl rfl rfl ?_;clear F a;intro a F
      refine sNil ?_
      refine hK47 _ _ ?_; clear hK47
      refine wp_ret ?_
      simp only [Exit.inBlock, Exit.then]
      refine bRet Tryd.results34 F rfl ?_
      refine ⟨retB ?_, H.below⟩
      clear F H
      first
        | (rw [ins_1 ho]; simp [*]; done)
        | (rw [ins_2 ho]; simp [*]; done)
        | (rw [ins_3 ho]; simp [*]; done)
        | (rcases ho with ho | ho
           · rw [ins_4 ho]; simp [*]; done
           · rw [ins_5 ho]; simp [*]; done)
        | (rw [ins_6 ho]; simp [*]; done)
        | (rw [ins_7 ho]; simp [*]; done)
        | (rw [ins_8 ho]; simp [*]; done)
        | (rw [ins_0 (by omega)]; done)
     refine sSk F rfl rfl ?_;clear F a;intro a F
     refine sSk F rfl rfl ?_;clear F a;intro a F
     refine sSk F rfl rfl ?_;clear F a;intro a F
     refine sPk F rfl rfl rfl rfl ?_;clear F a;intro a F
     refine sMv F rfl rfl rfl ?_;clear F a;intro a F
     refine sSk F rfl rfl ?_;clear F a;intro a F
     refine sSk F rfl rfl ?_;clear F a;intro a F
     refine sSk F rfl rfl ?_;clear F a;intro a F
     refine sPk F rfl rfl rfl rfl ?_;clear F a;intro a F
     refine sMv F rfl rfl rfl ?_;clear F a;intro a F
     refine sSk F rfl rfl ?_;clear F a;intro a F
     refine sSk F rfl rfl ?_;clear F a;intro a F
     refine sSk F rfl rfl ?_;clear F a;intro a F
     refine sPk F rfl rfl rfl rfl ?_;clear F a;intro a F
     refine sMv F rfl rfl rfl ?_;clear F a;intro a F
     refine sSk F rfl rfl ?_;clear F a;intro a F
     refine sSk F rfl rfl ?_;clear F a;intro a F
     refine sSk F rfl rfl ?_;clear F a;intro a F
     refine sSk F rfl rfl ?_;clear F a;intro a F
     refine sSk F rfl rfl ?_;clear F a;intro a F
     refine sPk F rfl rfl rfl rfl ?_;clear F a;intro a F
     refine sAs F rfl rfl rfl ?_;clear F a;intro a F
     refine sNil ?_
     refine hK47 _ _ ?_; clear hK47
     refine wp_ret ?_
     simp only [Exit.inBlock, Exit.then]
     refine bRet Tryd.results34 F rfl ?_
     refine ⟨retB ?_, H.below⟩
     clear F H
     first
       | (rw [ins_1 ho]; simp [*]; done)
       | (rw [ins_2 ho]; simp [*]; done)
       | (rw [ins_3 ho]; simp [*]; done)
       | (rcases ho with ho | ho
          · rw [ins_4 ho]; simp [*]; done
          · rw [ins_5 ho]; simp [*]; done)
       | (rw [ins_6 ho]; simp [*]; done)
       | (rw [ins_7 ho]; simp [*]; done)
       | (rw [ins_8 ho]; simp [*]; done)
       | (rw [ins_0 (by omega)]; done)
    refine sSk F rfl rfl ?_;clear F a;intro a F
    refine sSk F rfl rfl ?_;clear F a;intro a F
    refine sSk F rfl rfl ?_;clear F a;intro a F
    refine sPk F rfl rfl rfl rfl ?_;clear F a;intro a F
    refine sMv F rfl rfl rfl ?_;clear F a;intro a F
    refine sSk F rfl rfl ?_;clear F a;intro a F
    refine sSk F rfl rfl ?_;clear F a;intro a F
    refine sSk F rfl rfl ?_;clear F a;intro a F
    refine sPk F rfl rfl rfl rfl ?_;clear F a;intro a F
    refine sMv F rfl rfl rfl ?_;clear F a;intro a F
    refine sSk F rfl rfl ?_;clear F a;intro a F
    refine sSk F rfl rfl ?_;clear F a;intro a F
    refine sSk F rfl rfl ?_;clear F a;intro a F
    refine sPk F rfl rfl rfl rfl ?_;clear F a;intro a F
    refine sMv F rfl rfl rfl ?_;clear F a;intro a F
    refine sSk F rfl rfl ?_;clear F a;intro a F
    refine sSk F rfl rfl ?_;clear F a;intro a F
    refine sSk F rfl rfl ?_;clear F a;intro a F
    refine sPk F rfl rfl rfl rfl ?_;clear F a;intro a F
    refine sMv F rfl rfl rfl ?_;clear F a;intro a F
    refine sSk F rfl rfl ?_;clear F a;intro a F
    refine sSk F rfl rfl ?_;clear F a;intro a F
    refine sSk F rfl rfl ?_;clear F a;intro a F
    refine sSk F rfl rfl ?_;clear F a;intro a F
    refine sSk F rfl rfl ?_;clear F a;intro a F
    refine sPk F rfl rfl rfl rfl ?_;clear F a;intro a F
    refine sAs F rfl rfl rfl ?_;clear F a;intro a F
    refine sNil ?_
    refine hK47 _ _ ?_; clear hK47
    refine wp_ret ?_
    simp only [Exit.inBlock, Exit.then]
    refine bRet Tryd.results34 F rfl ?_
    refine ⟨retB ?_, H.below⟩
    clear F H
    first
      | (rw [ins_1 ho]; simp [*]; done)
      | (rw [ins_2 ho]; simp [*]; done)
      | (rw [ins_3 ho]; simp [*]; done)
      | (rcases ho with ho | ho
         · rw [ins_4 ho]; simp [*]; done
         · rw [ins_5 ho]; simp [*]; done)
      | (rw [ins_6 ho]; simp [*]; done)
      | (rw [ins_7 ho]; simp [*]; done)
      | (rw [ins_8 ho]; simp [*]; done)
      | (rw [ins_0 (by omega)]; done)
   replace h215 := beqF h215
   replace h215 : (x == want8 x) = false := beq_false_of_ne h215
   refine sSk F rfl rfl ?_;clear F a;intro a F
   refine sSk F rfl rfl ?_;clear F a;intro a F
   refine sSk F rfl rfl ?_;clear F a;intro a F
   refine sPk F rfl rfl rfl rfl ?_;clear F a;intro a F
   refine sMv F rfl rfl rfl ?_;clear F a;intro a F
   refine sSk F rfl rfl ?_;clear F a;intro a F
   refine sSk F rfl rfl ?_;clear F a;intro a F
   refine sSk F rfl rfl ?_;clear F a;intro a F
   refine sPk F rfl rfl rfl rfl ?_;clear F a;intro a F
   refine sMv F rfl rfl rfl ?_;clear F a;intro a F
   refine sSk F rfl rfl ?_;clear F a;intro a F
   refine sSk F rfl rfl ?_;clear F a;intro a F
   refine sSk F rfl rfl ?_;clear F a;intro a F
   refine sPk F rfl rfl rfl rfl ?_;clear F a;intro a F
   refine sMv F rfl rfl rfl ?_;clear F a;intro a F
   refine sSk F rfl rfl ?_;clear F a;intro a F
   refine sSk F rfl rfl ?_;clear F a;intro a F
   refine sSk F rfl rfl ?_;clear F a;intro a F
   refine sPk F rfl rfl rfl rfl ?_;clear F a;intro a F
   refine sMv F rfl rfl rfl ?_;clear F a;intro a F
   refine sSk F rfl rfl ?_;clear F a;intro a F
   refine sSk F rfl rfl ?_;clear F a;intro a F
   refine sSk F rfl rfl ?_;clear F a;intro a F
   refine sPk F rfl rfl rfl rfl ?_;clear F a;intro a F
   refine sMv F rfl rfl rfl ?_;clear F a;intro a F
   refine sSk F rfl rfl ?_;clear F a;intro a F
   refine sSk F rfl rfl ?_;clear F a;intro a F
   refine sSk F rfl rfl ?_;clear F a;intro a F
   refine sSk F rfl rfl ?_;clear F a;intro a F
   refine sSk F rfl rfl ?_;clear F a;intro a F
   refine sPk F rfl rfl rfl rfl ?_;clear F a;intro a F
   refine sAs F rfl rfl rfl ?_;clear F a;intro a F
   refine sNil ?_
   refine hK47 _ _ ?_; clear hK47
   refine wp_ret ?_
   simp only [Exit.inBlock, Exit.then]
   refine bRet Tryd.results34 F rfl ?_
   refine ⟨retB ?_, H.below⟩
   clear F H
   first
     | (rw [ins_1 ho]; simp [*]; done)
     | (rw [ins_2 ho]; simp [*]; done)
     | (rw [ins_3 ho]; simp [*]; done)
     | (rcases ho with ho | ho
        · rw [ins_4 ho]; simp [*]; done
        · rw [ins_5 ho]; simp [*]; done)
     | (rw [ins_6 ho]; simp [*]; done)
     | (rw [ins_7 ho]; simp [*]; done)
     | (rw [ins_8 ho]; simp [*]; done)
     | (rw [ins_0 (by omega)]; done)
  replace h198 := beqF h198
  refine wp_skip ?_
  refine hK5 _ _ ?_; clear hK5
  refine cSeq (fun K48 hK48 => ?_)
  refine cReg ?_
  refine sAs F rfl rfl rfl ?_;clear F a;intro a F
  refine sNil ?_
  refine hK48 _ _ ?_; clear hK48
  refine wp_ret ?_
  refine bRet Tryd.results34 F rfl ?_
  refine ⟨retB ?_, H.below⟩
  clear F H
  first
    | (rw [ins_1 ho]; simp [*]; done)
    | (rw [ins_2 ho]; simp [*]; done)
    | (rw [ins_3 ho]; simp [*]; done)
    | (rcases ho with ho | ho
       · rw [ins_4 ho]; simp [*]; done
       · rw [ins_5 ho]; simp [*]; done)
    | (rw [ins_6 ho]; simp [*]; done)
    | (rw [ins_7 ho]; simp [*]; done)
    | (rw [ins_8 ho]; simp [*]; done)
    | (rw [ins_0 (by omega)]; done)
theorem rthread_any (A : Option Addr) (C : Nat) (l : List Ins) (locs : Int) (w0 : World) (hR : RowsAt w0 A 10 (l.map Ins.cells)) (hl : l.length ≤ 9223372036854775807) :
    Calls Tryd.prog 11 #[.slice A l.length C, .int .i64 locs] w0 fun e w' => e = .returned (.bool (threadOk locs l)) ∧ Below w0.heap.size w0 w' := by
  have H := Own.start w0 none
  refine enterF Tryd.func11 rfl Tryd.ntmps11 rfl (fun a F => ?_)
  refine cSeq (fun K1 hK1 => ?_)
  refine cReg ?_
  refine sAs F rfl rfl rfl ?_;clear F a;intro a F
  refine sNil ?_
  refine hK1 _ _ ?_; clear hK1
  refine cSeq (fun K2 hK2 => ?_)
  refine cSeq (fun K3 hK3 => ?_)
  refine cReg ?_
  refine sAs F rfl rfl rfl ?_;clear F a;intro a F
  refine sNil ?_
  refine hK3 _ _ ?_; clear hK3
  refine wp_block ?_
  refine cLoopR [0, 1] (fun m ups w => ∃ j : Nat, m = l.length - j ∧ ups = [(5, .int .i64 (j : Int))] ∧ j ≤ l.length ∧ insesOk locs l.length 0 l = insesOk locs l.length j (l.drop j) ∧ Own w0 none w []) F (l.length) [(5, .int .i64 ((0 : Nat) : Int))] (by repeat (first | exact SubR.nil | (apply SubR.cons; · rfl))) ?_ ?_ ?_
  · exact ⟨0, rfl, rfl, by omega, rfl, H⟩
  · repeat (first | exact trivial | refine Le.cons rfl ?_)
  clear F
  clear H
  intro m ups a w hI F
  obtain ⟨j, rfl, rfl, hj, ht, H⟩ := hI
  refine cSeq (fun K4 hK4 => ?_)
  refine cSeq (fun K5 hK5 => ?_)
  refine cReg ?_
  refine sMv F rfl rfl rfl ?_;clear F a;intro a F
  refine sMv F rfl rfl rfl ?_;clear F a;intro a F
  refine sLen Tryd.underlying22 F rfl rfl rfl ?_;clear F a;intro a F
  refine sBin F rfl rfl rfl rfl bLss ?_;clear F a;intro a F
  refine sNil ?_
  refine hK5 _ _ ?_; clear hK5
  refine cIf F rfl (fun h9 => ?_) (fun h9 => ?_)
  ·
   replace h9 := of_decide_eq_true h9
   have hjl : j < l.length := by omega
   obtain ⟨x, hx⟩ : ∃ x, l[j]? = some x := ⟨_, List.getElem?_eq_getElem hjl⟩
   obtain ⟨b, off, rfl, hI2⟩ := hR j x.cells (by rw [List.getElem?_map, hx]; rfl)
   have hd : l.drop j = x :: l.drop (j + 1) := by
     obtain ⟨_, rfl⟩ := List.getElem?_eq_some_iff.1 hx
     exact List.drop_eq_getElem_cons hjl
   refine wp_skip ?_
   refine hK4 _ _ ?_; clear hK4
   refine cSeq (fun K6 hK6 => ?_)
   refine wp_block ?_
   refine cSeq (fun K7 hK7 => ?_)
   refine cReg ?_
   refine sMv F rfl rfl rfl ?_;clear F a;intro a F
   refine sMv F rfl rfl rfl ?_;clear F a;intro a F
   refine sIx Tryd.underlying22 Tryd.sizeOf50 F rfl rfl rfl rfl ?_ ?_
   focus (first | omega | decide | (simp; omega))
   clear F a; intro a F
   refine sLr Tryd.underlying50 rfl ?si F rfl rfl rfl (H.argR hI2) ?_
   case si => exact info_size Tryd.sizeOf50
   clear F a; intro a F
   refine sMv F rfl rfl rfl ?_;clear F a;intro a F
   refine sMv F rfl rfl rfl ?_;clear F a;intro a F
   refine sLen Tryd.underlying22 F rfl rfl rfl ?_;clear F a;intro a F
   refine sBin F rfl rfl rfl rfl (bSubI ?_) ?_
   focus omega
   clear F a; intro a F
   refine sMv F rfl rfl rfl ?_;clear F a;intro a F
   refine sBin F rfl rfl rfl rfl (bSubI ?_) ?_
   focus omega
   clear F a; intro a F
   refine sCall Tryd.call34 F rfl rfl rfl (rins_any x locs _ _) ?_
   rintro e w ⟨rfl, hb⟩
   replace H := H.grow hb; clear hb
   refine ⟨_, rfl, ?_⟩
   clear F a; intro a F
   refine sNot F rfl rfl rfl ?_;clear F a;intro a F
   refine sNil ?_
   refine hK7 _ _ ?_; clear hK7
   refine cIf F rfl (fun h23 => ?_) (fun h23 => ?_)
   ·
    replace h23 := notT h23
    refine cSeq (fun K8 hK8 => ?_)
    refine cReg ?_
    refine sAs F rfl rfl rfl ?_;clear F a;intro a F
    refine sNil ?_
    refine hK8 _ _ ?_; clear hK8
    refine wp_ret ?_
    simp only [Exit.inBlock, Exit.then]
    refine bRet Tryd.results11 F rfl ?_
    first
      | exact ⟨retB (by rw [threadOk, ht, hd, insesOk, h23, Bool.false_and, Bool.and_false]), H.below⟩
      | exact ⟨retB (by rw [threadOk, ht, List.drop_eq_nil_of_le (by omega), insesOk, Bool.and_true, Bool.eq_iff_iff]; simp; try omega), H.below⟩
   replace h23 := notF h23
   refine wp_skip ?_
   refine hK6 _ _ ?_; clear hK6
   refine cReg ?_
   refine sMv F rfl rfl rfl ?_;clear F a;intro a F
   refine sBin F rfl rfl rfl rfl (bAddN (j := 1) ?_) ?_
   focus omega
   clear F a; intro a F
   refine sAs F rfl rfl rfl ?_;clear F a;intro a F
   refine sNil ?_
   exact ⟨_, by omega, _, ⟨j + 1, rfl, rfl, by omega, by rw [ht, hd, insesOk, h23, Bool.true_and], H⟩, F.to (by repeat (first | exact trivial | refine Le.cons rfl ?_))⟩
  replace h9 := of_decide_eq_false h9
  refine wp_exit ?_
  refine hK2 _ _ ?_; clear hK2
  refine cSeq (fun K9 hK9 => ?_)
  refine cReg ?_
  refine sMv F rfl rfl rfl ?_;clear F a;intro a F
  refine sLen Tryd.underlying22 F rfl rfl rfl ?_;clear F a;intro a F
  refine sBin F rfl rfl rfl rfl bLeq ?_;clear F a;intro a F
  refine sAs F rfl rfl rfl ?_;clear F a;intro a F
  refine sNil ?_
  refine hK9 _ _ ?_; clear hK9
  refine wp_ret ?_
  refine bRet Tryd.results11 F rfl ?_
  first
    | exact ⟨retB (by rw [threadOk, ht, hd, insesOk, h23, Bool.false_and, Bool.and_false]), H.below⟩
    | exact ⟨retB (by rw [threadOk, ht, List.drop_eq_nil_of_le (by omega), insesOk, Bool.and_true, Bool.eq_iff_iff]; simp; try omega), H.below⟩
end Go.Proofs.YtmfdpnjgljlkbaaDoor
