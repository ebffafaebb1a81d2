/-
  WALK2. Layer 13's reference: Worth, With, fits, moved, Local, Has, Right. Conditions: the program lies in memory.
-/
import Derived.Test.YtfemniboggnbiaaDoorRfC
import Derived.Test.YtfemniboggnbiaaDoorAtK
set_option linter.unusedSimpArgs false
set_option linter.unusedVariables false
namespace Go.Proofs.YtfemniboggnbiaaDoor
open Go.RowKit
set_option maxRecDepth 100000

theorem rworth_any (r : Bool) (n : UInt8) (s : By) (w0 : World) : Calls Tryd.prog 22 #[.agg #[.bool r, b8 n], .agg (bs 8 s).toArray] w0 fun e w' => e = .returned (b8 (worthP r n s)) ∧ Below w0.heap.size w0 w' := by
  have H := Own.start w0 none
  refine enterF Tryd.func22 rfl Tryd.ntmps22 rfl (fun a F => ?_)
  refine cSeq (fun K1 hK1 => ?_)
  refine cReg ?_
  refine sBx H F rfl rfl rfl ?_
  clear F a H; intro b2 a w F H
  refine sBxB H F rfl rfl rfl ?_
  clear F a H; intro b3 a w F H
  refine sAs F rfl rfl rfl ?_
  clear F a; intro a F
  refine sNil ?_
  refine hK1 _ _ ?_; clear hK1
  refine cSeq (fun K2 hK2 => ?_)
  refine cSeq (fun K3 hK3 => ?_)
  refine cReg ?_
  refine sFa (f := 0) (k := 0) Tryd.underlying50 rfl Tryd.sizeOf4 rfl rfl F rfl rfl rfl ?_
  clear F a; intro a F
  refine sLd Tryd.isAgg4 F rfl rfl rfl (H.cell 1 rfl rfl) ?_
  clear F a; intro a F
  refine sNot F rfl rfl rfl ?_
  clear F a; intro a F
  refine sNil ?_
  refine hK3 _ _ ?_; clear hK3
  refine cIf F rfl (fun h7 => ?_) (fun h7 => ?_)
  ·
   replace h7 := notT h7
   refine cSeq (fun K4 hK4 => ?_)
   refine cReg ?_
   refine sFa (f := 1) (k := 1) Tryd.underlying50 rfl Tryd.sizeOf5 rfl rfl F rfl rfl rfl ?_
   clear F a; intro a F
   refine sLd Tryd.isAgg5 F rfl rfl rfl (H.cell 1 rfl rfl) ?_
   clear F a; intro a F
   refine sAs F rfl rfl rfl ?_
   clear F a; intro a F
   refine sNil ?_
   refine hK4 _ _ ?_; clear hK4
   refine wp_ret ?_
   simp only [Exit.then]
   refine bRet Tryd.results22 F rfl ?_
   first
     | exact ⟨ret8 (by rw [worthP, h7]; rfl), H.below⟩
     | exact ⟨ret8 (a := 0) (by rw [worthP, h7, if_pos rfl, if_neg hn8]), H.below⟩
     | exact ⟨ret8 (by rw [worthP, h7, if_pos rfl, if_pos hn8]), H.below⟩
     | exact ⟨ret8 (by rw [worthP, h7, if_pos rfl, if_pos hn8]; simp), H.below⟩
     | (trace_state; done)
  ·
   replace h7 := notF h7
   refine wp_skip ?_
   refine hK2 _ _ ?_; clear hK2
   refine cSeq (fun K5 hK5 => ?_)
   refine cSeq (fun K6 hK6 => ?_)
   refine cReg ?_
   refine sFa (f := 1) (k := 1) Tryd.underlying50 rfl Tryd.sizeOf5 rfl rfl F rfl rfl rfl ?_
   clear F a; intro a F
   refine sLd Tryd.isAgg5 F rfl rfl rfl (H.cell 1 rfl rfl) ?_
   clear F a; intro a F
   refine sBin F rfl rfl rfl rfl (bGtrB (y := 7)) ?_
   clear F a; intro a F
   refine sNil ?_
   refine hK6 _ _ ?_; clear hK6
   refine cIf F rfl (fun h12 => ?_) (fun h12 => ?_)
   ·
    replace h12 := of_decide_eq_true h12
    have hn8 : ¬ n.toNat < 8 := (by have := UInt8.lt_iff_toNat_lt.1 h12; have e : (7 : UInt8).toNat = 7 := rfl; omega)
    refine cSeq (fun K7 hK7 => ?_)
    refine cReg ?_
    refine sAs F rfl rfl rfl ?_
    clear F a; intro a F
    refine sNil ?_
    refine hK7 _ _ ?_; clear hK7
    refine wp_ret ?_
    simp only [Exit.then]
    refine bRet Tryd.results22 F rfl ?_
    first
      | exact ⟨ret8 (by rw [worthP, h7]; rfl), H.below⟩
      | exact ⟨ret8 (a := 0) (by rw [worthP, h7, if_pos rfl, if_neg hn8]), H.below⟩
      | exact ⟨ret8 (by rw [worthP, h7, if_pos rfl, if_pos hn8]), H.below⟩
      | exact ⟨ret8 (by rw [worthP, h7, if_pos rfl, if_pos hn8]; simp), H.below⟩
      | (trace_state; done)
   ·
    replace h12 := of_decide_eq_false h12
    have hn8 : n.toNat < 8 := (by have := UInt8.not_lt.1 h12; rw [UInt8.le_iff_toNat_le] at this; have e : (7 : UInt8).toNat = 7 := rfl; omega)
    refine wp_skip ?_
    refine hK5 _ _ ?_; clear hK5
    refine cSeq (fun K8 hK8 => ?_)
    refine cReg ?_
    refine sFa (f := 1) (k := 1) Tryd.underlying50 rfl Tryd.sizeOf5 rfl rfl F rfl rfl rfl ?_
    clear F a; intro a F
    refine sLd Tryd.isAgg5 F rfl rfl rfl (H.cell 1 rfl rfl) ?_
    clear F a; intro a F
    refine sIaZ1 Tryd.underlying30 Tryd.sizeOf5 F rfl rfl rfl rfl ?_ ?_
    focus (first | omega | decide | (simp; omega))
    clear F a; intro a F
    refine sLd Tryd.isAgg5 F rfl rfl rfl (H.cellB 0 rfl (by omega)) ?_
    clear F a; intro a F
    refine sAs F rfl rfl rfl ?_
    clear F a; intro a F
    refine sNil ?_
    refine hK8 _ _ ?_; clear hK8
    refine wp_ret ?_
    refine bRet Tryd.results22 F rfl ?_
    first
      | exact ⟨ret8 (by rw [worthP, h7]; rfl), H.below⟩
      | exact ⟨ret8 (a := 0) (by rw [worthP, h7, if_pos rfl, if_neg hn8]), H.below⟩
      | exact ⟨ret8 (by rw [worthP, h7, if_pos rfl, if_pos hn8]), H.below⟩
      | exact ⟨ret8 (by rw [worthP, h7, if_pos rfl, if_pos hn8]; simp), H.below⟩
      | (trace_state; done)
theorem rmoved_any (fn a b : UInt8) (w0 : World) : Calls Tryd.prog 41 #[b8 fn, b8 a, b8 b] w0 fun e w' => e = .returned (b8 (movedP fn a b)) ∧ Below w0.heap.size w0 w' := by
  have H := Own.start w0 none
  refine enterF Tryd.func41 rfl Tryd.ntmps41 rfl (fun a F => ?_)
  refine cSeq (fun K1 hK1 => ?_)
  refine cReg ?_
  refine sAs F rfl rfl rfl ?_
  clear F a; intro a F
  refine sNil ?_
  refine hK1 _ _ ?_; clear hK1
  refine cSeq (fun K2 hK2 => ?_)
  refine cSeq (fun K3 hK3 => ?_)
  refine cReg ?_
  refine sMv F rfl rfl rfl ?_
  clear F a; intro a F
  refine sBin F rfl rfl rfl rfl (bEqlB (y := 1)) ?_
  clear F a; intro a F
  refine sNil ?_
  refine hK3 _ _ ?_; clear hK3
  refine cIf F rfl (fun h8 => ?_) (fun h8 => ?_)
  ·
   replace h8 := beqT h8
   refine cSeq (fun K4 hK4 => ?_)
   refine cReg ?_
   refine sMv F rfl rfl rfl ?_
   clear F a; intro a F
   refine sMv F rfl rfl rfl ?_
   clear F a; intro a F
   refine sBin F rfl rfl rfl rfl (bAddB) ?_
   clear F a; intro a F
   refine sAs F rfl rfl rfl ?_
   clear F a; intro a F
   refine sNil ?_
   refine hK4 _ _ ?_; clear hK4
   refine wp_ret ?_
   simp only [Exit.then]
   refine bRet Tryd.results41 F rfl ?_
   exact ⟨by first | exact ret8 (by simp_all [movedP]) | exact ret8 (a := 0) (by simp_all [movedP]), H.below⟩
  ·
   replace h8 := beqF h8
   refine wp_skip ?_
   refine hK2 _ _ ?_; clear hK2
   refine cSeq (fun K5 hK5 => ?_)
   refine cSeq (fun K6 hK6 => ?_)
   refine cReg ?_
   refine sMv F rfl rfl rfl ?_
   clear F a; intro a F
   refine sBin F rfl rfl rfl rfl (bEqlB (y := 2)) ?_
   clear F a; intro a F
   refine sNil ?_
   refine hK6 _ _ ?_; clear hK6
   refine cIf F rfl (fun h13 => ?_) (fun h13 => ?_)
   ·
    replace h13 := beqT h13
    refine cSeq (fun K7 hK7 => ?_)
    refine cReg ?_
    refine sMv F rfl rfl rfl ?_
    clear F a; intro a F
    refine sMv F rfl rfl rfl ?_
    clear F a; intro a F
    refine sBin F rfl rfl rfl rfl (bSubB) ?_
    clear F a; intro a F
    refine sAs F rfl rfl rfl ?_
    clear F a; intro a F
    refine sNil ?_
    refine hK7 _ _ ?_; clear hK7
    refine wp_ret ?_
    simp only [Exit.then]
    refine bRet Tryd.results41 F rfl ?_
    exact ⟨by first | exact ret8 (by simp_all [movedP]) | exact ret8 (a := 0) (by simp_all [movedP]), H.below⟩
   ·
    replace h13 := beqF h13
    refine wp_skip ?_
    refine hK5 _ _ ?_; clear hK5
    refine cSeq (fun K8 hK8 => ?_)
    refine cSeq (fun K9 hK9 => ?_)
    refine cReg ?_
    refine sMv F rfl rfl rfl ?_
    clear F a; intro a F
    refine sBin F rfl rfl rfl rfl (bEqlB (y := 3)) ?_
    clear F a; intro a F
    refine sNil ?_
    refine hK9 _ _ ?_; clear hK9
    refine cIf F rfl (fun h18 => ?_) (fun h18 => ?_)
    ·
     replace h18 := beqT h18
     refine cSeq (fun K10 hK10 => ?_)
     refine cReg ?_
     refine sMv F rfl rfl rfl ?_
     clear F a; intro a F
     refine sMv F rfl rfl rfl ?_
     clear F a; intro a F
     refine sBin F rfl rfl rfl rfl (bXorB) ?_
     clear F a; intro a F
     refine sAs F rfl rfl rfl ?_
     clear F a; intro a F
     refine sNil ?_
     refine hK10 _ _ ?_; clear hK10
     refine wp_ret ?_
     simp only [Exit.then]
     refine bRet Tryd.results41 F rfl ?_
     exact ⟨by first | exact ret8 (by simp_all [movedP]) | exact ret8 (a := 0) (by simp_all [movedP]), H.below⟩
    ·
     replace h18 := beqF h18
     refine wp_skip ?_
     refine hK8 _ _ ?_; clear hK8
     refine cSeq (fun K11 hK11 => ?_)
     refine cReg ?_
     refine sAs F rfl rfl rfl ?_
     clear F a; intro a F
     refine sNil ?_
     refine hK11 _ _ ?_; clear hK11
     refine wp_ret ?_
     refine bRet Tryd.results41 F rfl ?_
     exact ⟨by first | exact ret8 (by simp_all [movedP]) | exact ret8 (a := 0) (by simp_all [movedP]), H.below⟩
theorem rfits_any (fn a b : UInt8) (w0 : World) : Calls Tryd.prog 42 #[b8 fn, b8 a, b8 b] w0 fun e w' => e = .returned (.bool (skipsP fn a b)) ∧ Below w0.heap.size w0 w' := by
  have H := Own.start w0 none
  refine enterF Tryd.func42 rfl Tryd.ntmps42 rfl (fun a F => ?_)
  refine cSeq (fun K1 hK1 => ?_)
  refine cReg ?_
  refine sAs F rfl rfl rfl ?_
  clear F a; intro a F
  refine sNil ?_
  refine hK1 _ _ ?_; clear hK1
  refine cSeq (fun K2 hK2 => ?_)
  refine cSeq (fun K3 hK3 => ?_)
  refine cReg ?_
  refine sMv F rfl rfl rfl ?_
  clear F a; intro a F
  refine sBin F rfl rfl rfl rfl (bEqlB (y := 4)) ?_
  clear F a; intro a F
  refine sNil ?_
  refine hK3 _ _ ?_; clear hK3
  refine cIf F rfl (fun h8 => ?_) (fun h8 => ?_)
  ·
   replace h8 := beqT h8
   refine cSeq (fun K4 hK4 => ?_)
   refine cReg ?_
   refine sMv F rfl rfl rfl ?_
   clear F a; intro a F
   refine sMv F rfl rfl rfl ?_
   clear F a; intro a F
   refine sBin F rfl rfl rfl rfl bEqlB ?_
   clear F a; intro a F
   refine sAs F rfl rfl rfl ?_
   clear F a; intro a F
   refine sNil ?_
   refine hK4 _ _ ?_; clear hK4
   refine wp_ret ?_
   simp only [Exit.then]
   refine bRet Tryd.results42 F rfl ?_
   exact ⟨retB (by simp_all [skipsP]), H.below⟩
  ·
   replace h8 := beqF h8
   refine wp_skip ?_
   refine hK2 _ _ ?_; clear hK2
   refine cSeq (fun K5 hK5 => ?_)
   refine cSeq (fun K6 hK6 => ?_)
   refine cReg ?_
   refine sMv F rfl rfl rfl ?_
   clear F a; intro a F
   refine sBin F rfl rfl rfl rfl (bEqlB (y := 5)) ?_
   clear F a; intro a F
   refine sNil ?_
   refine hK6 _ _ ?_; clear hK6
   refine cIf F rfl (fun h13 => ?_) (fun h13 => ?_)
   ·
    replace h13 := beqT h13
    refine cSeq (fun K7 hK7 => ?_)
    refine cReg ?_
    refine sMv F rfl rfl rfl ?_
    clear F a; intro a F
    refine sMv F rfl rfl rfl ?_
    clear F a; intro a F
    refine sBin F rfl rfl rfl rfl bNeqB ?_
    clear F a; intro a F
    refine sAs F rfl rfl rfl ?_
    clear F a; intro a F
    refine sNil ?_
    refine hK7 _ _ ?_; clear hK7
    refine wp_ret ?_
    simp only [Exit.then]
    refine bRet Tryd.results42 F rfl ?_
    exact ⟨retB (by simp_all [skipsP]), H.below⟩
   ·
    replace h13 := beqF h13
    refine wp_skip ?_
    refine hK5 _ _ ?_; clear hK5
    refine cSeq (fun K8 hK8 => ?_)
    refine cReg ?_
    refine sMv F rfl rfl rfl ?_
    clear F a; intro a F
    refine sBin F rfl rfl rfl rfl (bEqlB (y := 6)) ?_
    clear F a; intro a F
    refine sMv F rfl rfl rfl ?_
    clear F a; intro a F
    refine F.split 19 rfl ?_ ?_ <;> (clear F; intro h19 F)
    ·
     replace h19 := beqT h19
     refine sMv F rfl rfl rfl ?_
     clear F a; intro a F
     refine sMv F rfl rfl rfl ?_
     clear F a; intro a F
     refine sBin F rfl rfl rfl rfl bLssB ?_
     clear F a; intro a F
     refine sPk F rfl rfl rfl rfl ?_
     clear F a; intro a F
     refine sAs F rfl rfl rfl ?_
     clear F a; intro a F
     refine sNil ?_
     refine hK8 _ _ ?_; clear hK8
     refine wp_ret ?_
     refine bRet Tryd.results42 F rfl ?_
     exact ⟨retB (by simp_all [skipsP]), H.below⟩
    ·
     replace h19 := beqF h19
     refine sSk F rfl rfl ?_
     clear F a; intro a F
     refine sSk F rfl rfl ?_
     clear F a; intro a F
     refine sSk F rfl rfl ?_
     clear F a; intro a F
     refine sPk F rfl rfl rfl rfl ?_
     clear F a; intro a F
     refine sAs F rfl rfl rfl ?_
     clear F a; intro a F
     refine sNil ?_
     refine hK8 _ _ ?_; clear hK8
     refine wp_ret ?_
     refine bRet Tryd.results42 F rfl ?_
     exact ⟨retB (by simp_all [skipsP]), H.below⟩
/-- A register's new value, registers alone. -/
def regsP (t : By) (dst v : UInt8) : By := if dst.toNat < 8 then put t dst.toNat v else t
theorem rwith_any (t : By) (dst v : UInt8) (w0 : World) : Calls Tryd.prog 40 #[.agg (bs 8 t).toArray, b8 dst, b8 v] w0 fun e w' => e = .returned (.agg (bs 8 (regsP t dst v)).toArray) ∧ Below w0.heap.size w0 w' := by
  have H := Own.start w0 none
  refine enterF Tryd.func40 rfl Tryd.ntmps40 rfl (fun a F => ?_)
  refine cSeq (fun K1 hK1 => ?_)
  refine cReg ?_
  refine sBxB H F rfl rfl rfl ?_
  clear F a H; intro b3 a w F H
  refine sAlB H zB30 F rfl rfl ?_
  clear F a H; intro b6 a w F H
  refine sNil ?_
  refine hK1 _ _ ?_; clear hK1
  refine cSeq (fun K2 hK2 => ?_)
  refine cSeq (fun K3 hK3 => ?_)
  refine cReg ?_
  refine sMv F rfl rfl rfl ?_
  clear F a; intro a F
  refine sBin F rfl rfl rfl rfl (bLeqB (y := 7)) ?_
  clear F a; intro a F
  refine sNil ?_
  refine hK3 _ _ ?_; clear hK3
  refine cIf F rfl (fun h8 => ?_) (fun h8 => ?_)
  ·
   replace h8 := of_decide_eq_true h8
   have hd8 : dst.toNat < 8 := (by have := UInt8.le_iff_toNat_le.1 h8; have e : (7 : UInt8).toNat = 7 := rfl; omega)
   refine cReg ?_
   refine sMv F rfl rfl rfl ?_
   clear F a; intro a F
   refine sMv F rfl rfl rfl ?_
   clear F a; intro a F
   refine sIaZ1 Tryd.underlying30 Tryd.sizeOf5 F rfl rfl rfl rfl ?_ ?_
   focus (first | omega | decide | (simp; omega))
   clear F a; intro a F
   refine sStB H 1 Tryd.sizeOf5 F rfl rfl rfl rfl (by omega) ?_
   clear H; intro w H
   refine sNil ?_
   refine hK2 _ _ ?_; clear hK2
   refine cSeq (fun K4 hK4 => ?_)
   refine cReg ?_
   refine sLrB Tryd.underlying30 rfl Tryd.sizeOf30 F rfl rfl rfl (H.whole 1 rfl) ?_
   clear F a; intro a F
   refine sSrB H 0 Tryd.sizeOf30 F rfl rfl rfl rfl (by omega) ?_
   clear H; intro w H
   rw [lay_all] at H
   refine sNil ?_
   refine hK4 _ _ ?_; clear hK4
   refine wp_ret ?_
   refine bRetB Tryd.results40 F rfl Tryd.underlying30 rfl Tryd.sizeOf30 H 0 rfl ?_
   refine ⟨?_, H.below⟩
   clear F H
   first
     | (rw [regsP, if_pos hd8]; done)
     | (rw [regsP, if_neg hd8])
     | (trace_state; done)
  ·
   replace h8 := of_decide_eq_false h8
   have hd8 : ¬ dst.toNat < 8 := (by intro hq; apply h8; rw [UInt8.le_iff_toNat_le]; have e : (7 : UInt8).toNat = 7 := rfl; omega)
   refine wp_skip ?_
   refine hK2 _ _ ?_; clear hK2
   refine cSeq (fun K5 hK5 => ?_)
   refine cReg ?_
   refine sLrB Tryd.underlying30 rfl Tryd.sizeOf30 F rfl rfl rfl (H.whole 1 rfl) ?_
   clear F a; intro a F
   refine sSrB H 0 Tryd.sizeOf30 F rfl rfl rfl rfl (by omega) ?_
   clear H; intro w H
   rw [lay_all] at H
   refine sNil ?_
   refine hK5 _ _ ?_; clear hK5
   refine wp_ret ?_
   refine bRetB Tryd.results40 F rfl Tryd.underlying30 rfl Tryd.sizeOf30 H 0 rfl ?_
   refine ⟨?_, H.below⟩
   clear F H
   first
     | (rw [regsP, if_pos hd8]; done)
     | (rw [regsP, if_neg hd8])
     | (trace_state; done)
theorem lay_regs {t : By} {dst v : UInt8} : ∀ i, i < 9 → lay t 1 8 (regsP (cut t 1) dst v) i = withP t dst v i := fun i hi => by
  unfold lay regsP withP
  by_cases hd : dst.toNat < 8
  · rw [if_pos hd, if_pos hd]
    by_cases h1 : 1 ≤ i ∧ i < 1 + 8
    · rw [if_pos h1]
      unfold put cut
      by_cases h2 : i - 1 = dst.toNat
      · rw [if_pos h2, if_pos (by omega)]
      · rw [if_neg h2, if_neg (by omega)]; congr 1; omega
    · rw [if_neg h1]; unfold put; rw [if_neg (by omega)]
  · rw [if_neg hd, if_neg hd]
    split
    · unfold cut; congr 1; omega
    · rfl
theorem rlocal_any (x : Ins) (t : By) (w0 : World) :
    Calls Tryd.prog 20 #[.agg x.cells.toArray, .agg (bs 9 t).toArray] w0 fun e w' => e = .returned (.tuple #[.agg (bs 9 (localP x t)).toArray, .bool (isLocal x)]) ∧ Below w0.heap.size w0 w' := by
  have H := Own.start w0 none
  refine enterF Tryd.func20 rfl Tryd.ntmps20 rfl (fun a F => ?_)
  refine cSeq (fun K1 hK1 => ?_)
  refine cReg ?_
  refine sBx H F rfl rfl rfl ?_
  clear F a H; intro b2 a w F H
  refine sBxB H F rfl rfl rfl ?_
  clear F a H; intro b3 a w F H
  refine sAlB H zB32 F rfl rfl ?_
  clear F a H; intro b4 a w F H
  refine sAs F rfl rfl rfl ?_
  clear F a; intro a F
  refine sNil ?_
  refine hK1 _ _ ?_; clear hK1
  refine cSeq (fun K2 hK2 => ?_)
  refine cReg ?_
  refine sFa (f := 3) (k := 3) Tryd.underlying52 rfl Tryd.sizeOf50 rfl rfl F rfl rfl rfl ?_
  clear F a; intro a F
  refine sLr Tryd.underlying50 rfl ?si F rfl rfl rfl (H.range 2 rfl _ 2) ?_
  case si => exact info_size Tryd.sizeOf50
  clear F a; intro a F
  refine sFa (f := 1) (k := 1) Tryd.underlying32 rfl Tryd.sizeOf30 rfl rfl F rfl rfl rfl ?_
  clear F a; intro a F
  refine sLrB Tryd.underlying30 rfl Tryd.sizeOf30 F rfl rfl rfl (H.rangeB 1 _ 8 rfl (by omega)) ?_
  clear F a; intro a F
  refine sCall Tryd.call22 F rfl rfl rfl (rworth_any x.aR x.aN (cut t 1) _) ?_
  rintro e w ⟨rfl, hb⟩
  replace H := H.grow hb; clear hb
  refine ⟨_, rfl, ?_⟩
  clear F a; intro a F
  refine sAs F rfl rfl rfl ?_
  clear F a; intro a F
  refine sNil ?_
  refine hK2 _ _ ?_; clear hK2
  refine cSeq (fun K3 hK3 => ?_)
  refine cReg ?_
  refine sFa (f := 4) (k := 5) Tryd.underlying52 rfl Tryd.sizeOf50 rfl rfl F rfl rfl rfl ?_
  clear F a; intro a F
  refine sLr Tryd.underlying50 rfl ?si F rfl rfl rfl (H.range 2 rfl _ 2) ?_
  case si => exact info_size Tryd.sizeOf50
  clear F a; intro a F
  refine sFa (f := 1) (k := 1) Tryd.underlying32 rfl Tryd.sizeOf30 rfl rfl F rfl rfl rfl ?_
  clear F a; intro a F
  refine sLrB Tryd.underlying30 rfl Tryd.sizeOf30 F rfl rfl rfl (H.rangeB 1 _ 8 rfl (by omega)) ?_
  clear F a; intro a F
  refine sCall Tryd.call22 F rfl rfl rfl (rworth_any x.bR x.bN (cut t 1) _) ?_
  rintro e w ⟨rfl, hb⟩
  replace H := H.grow hb; clear hb
  refine ⟨_, rfl, ?_⟩
  clear F a; intro a F
  refine sAs F rfl rfl rfl ?_
  clear F a; intro a F
  refine sNil ?_
  refine hK3 _ _ ?_; clear hK3
  refine cSeq (fun K4 hK4 => ?_)
  refine cSeq (fun K5 hK5 => ?_)
  refine cReg ?_
  refine sFa (f := 0) (k := 0) Tryd.underlying52 rfl Tryd.sizeOf5 rfl rfl F rfl rfl rfl ?_
  clear F a; intro a F
  refine sLd Tryd.isAgg5 F rfl rfl rfl (H.cell 2 rfl rfl) ?_
  clear F a; intro a F
  refine sBin F rfl rfl rfl rfl (bEqlB (y := 3)) ?_
  clear F a; intro a F
  refine sNil ?_
  refine hK5 _ _ ?_; clear hK5
  refine cIf F rfl (fun h20 => ?_) (fun h20 => ?_)
  ·
   replace h20 := beqT h20
   refine cSeq (fun K6 hK6 => ?_)
   refine cRegRO (by kernel_rfl) H ?_
   replace H := H.drew
   refine eTakeF (k := 0) (i := 0) rfl (by kernel_rfl) F rfl rfl rfl (fun w => rFa (f := 1) (k := 1) Tryd.underlying32 rfl Tryd.sizeOf30 rfl rfl F rfl) (H.sel [0, 1, 2] rfl rfl) (fun _ _ _ h => h) ?_
   clear F a; intro a F
   refine eTake (k := 1) (i := 1) rfl (by kernel_rfl) F rfl rfl rfl rfl (fun w H => rLrB Tryd.underlying30 rfl Tryd.sizeOf30 F rfl (H.rangeB 1 _ 8 rfl (by omega))) (H.sel [0, 1, 2] rfl rfl) (fun _ _ _ h => h) ?_
   clear F a; intro a F
   refine eTakeF (k := 2) (i := 2) rfl (by kernel_rfl) F rfl rfl rfl (fun w => rFa (f := 1) (k := 1) Tryd.underlying52 rfl Tryd.sizeOf5 rfl rfl F rfl) (H.sel [0, 1, 2] rfl rfl) (fun _ _ _ h => h) ?_
   clear F a; intro a F
   refine eTake (k := 3) (i := 3) rfl (by kernel_rfl) F rfl rfl rfl rfl (fun w H => rLd Tryd.isAgg5 F rfl (H.cell 2 rfl rfl)) (H.sel [0, 1, 2] rfl rfl) (fun _ _ _ h => h) ?_
   clear F a; intro a F
   refine eTakeF (k := 4) (i := 4) rfl (by kernel_rfl) F rfl rfl rfl (fun w => rFa (f := 5) (k := 7) Tryd.underlying52 rfl Tryd.sizeOf5 rfl rfl F rfl) (H.sel [0, 1, 2] rfl rfl) (fun _ _ _ h => h) ?_
   clear F a; intro a F
   refine eTake (k := 5) (i := 5) rfl (by kernel_rfl) F rfl rfl rfl rfl (fun w H => rLd Tryd.isAgg5 F rfl (H.cell 2 rfl rfl)) (H.sel [0, 1, 2] rfl rfl) (fun _ _ _ h => h) ?_
   clear F a; intro a F
   refine eTakeF (k := 6) (i := 6) rfl (by kernel_rfl) F rfl rfl rfl (fun w => rMv F rfl) (H.sel [0, 1, 2] rfl rfl) (fun _ _ _ h => h) ?_
   clear F a; intro a F
   refine eTakeF (k := 7) (i := 7) rfl (by kernel_rfl) F rfl rfl rfl (fun w => rMv F rfl) (H.sel [0, 1, 2] rfl rfl) (fun _ _ _ h => h) ?_
   clear F a; intro a F
   refine eOne (k := 8) (i := 8) rfl (by kernel_rfl) F rfl (oCall Tryd.call41 F rfl rfl (rmoved_any x.fn _ _ _) ?_)
   rintro e w ⟨rfl, hb⟩
   replace H := H.grow hb; clear hb
   refine ⟨_, rfl, ?_⟩
   clear F a; intro a F
   refine eKeep (H.sel [0, 1, 2] rfl rfl) ?_
   refine eOne (k := 9) (i := 9) rfl (by kernel_rfl) F rfl (oCall Tryd.call40 F rfl rfl (rwith_any (cut t 1) x.dst _ _) ?_)
   rintro e w ⟨rfl, hb⟩
   replace H := H.grow hb; clear hb
   refine ⟨_, rfl, ?_⟩
   clear F a; intro a F
   refine ePartO (by kernel_rfl) H ?_
   refine eTakeF (k := 10) (i := 10) rfl (by kernel_rfl) F rfl rfl rfl (fun w => rFa (f := 1) (k := 1) Tryd.underlying32 rfl Tryd.sizeOf30 rfl rfl F rfl) (H.sel [0, 1, 2] rfl rfl) (fun _ _ _ h => h) ?_
   clear F a; intro a F
   refine eOne (k := 11) (i := 11) rfl (by kernel_rfl) F rfl (oSrB H 1 Tryd.sizeOf30 F rfl rfl rfl (by omega) ?_)
   clear H; intro w H
   refine ePartO (by kernel_rfl) H ?_
   refine eNil (k := 12) (by kernel_rfl) ?_
   refine hK6 _ _ ?_; clear hK6
   refine cSeq (fun K7 hK7 => ?_)
   refine cReg ?_
   refine sFa (f := 0) (k := 0) Tryd.underlying32 rfl Tryd.sizeOf5 rfl rfl F rfl rfl rfl ?_
   clear F a; intro a F
   refine sLd Tryd.isAgg5 F rfl rfl rfl (H.cellB 1 rfl (by omega)) ?_
   clear F a; intro a F
   refine sBin F rfl rfl rfl rfl (bAddB (y := 1)) ?_
   clear F a; intro a F
   refine sFa (f := 0) (k := 0) Tryd.underlying32 rfl Tryd.sizeOf5 rfl rfl F rfl rfl rfl ?_
   clear F a; intro a F
   refine sStB H 1 Tryd.sizeOf5 F rfl rfl rfl rfl (by omega) ?_
   clear H; intro w H
   refine sNil ?_
   refine hK7 _ _ ?_; clear hK7
   refine cSeq (fun K8 hK8 => ?_)
   refine cReg ?_
   refine sLrB Tryd.underlying32 rfl Tryd.sizeOf32 F rfl rfl rfl (H.whole 1 rfl) ?_
   clear F a; intro a F
   refine sSrB H 0 Tryd.sizeOf32 F rfl rfl rfl rfl (by omega) ?_
   clear H; intro w H
   rw [lay_all] at H
   refine sAs F rfl rfl rfl ?_
   clear F a; intro a F
   refine sNil ?_
   refine hK8 _ _ ?_; clear hK8
   refine wp_ret ?_
   simp only [Exit.then]
   refine bRetB1 Tryd.results20 F rfl rfl Tryd.underlying32 rfl Tryd.sizeOf32 H 0 rfl ?_
   refine ⟨?_, H.below⟩
   clear F H
   first
     | (have e1 : isLocal x = true := by simp [isLocal, *]
        rw [e1]; refine retBs fun i hi => ?_
        have hl := lay_regs (t := t) (dst := x.dst) (v := movedP x.fn (valA x t) (valB x t))
        rw [localP, if_pos h20]
        by_cases h0 : i = 0
        · subst h0
          simp [put, lay]
        · simp only [put, if_neg h0]
          exact hl i hi)
     | (have e1 : isLocal x = true := by simp [isLocal, *]
        rw [e1]; refine retBs fun i _ => ?_; by_cases hi : i = 0 <;> simp [localP, withP, valA, valB, put, hi, *])
     | (have e1 : isLocal x = false := by simp [isLocal, *]
        rw [e1]; refine retBs fun i _ => ?_; by_cases hi : i = 0 <;> simp [localP, withP, valA, valB, put, hi, *])
  ·
   replace h20 := beqF h20
   refine wp_skip ?_
   refine hK4 _ _ ?_; clear hK4
   refine cSeq (fun K9 hK9 => ?_)
   refine cSeq (fun K10 hK10 => ?_)
   refine cReg ?_
   refine sFa (f := 0) (k := 0) Tryd.underlying52 rfl Tryd.sizeOf5 rfl rfl F rfl rfl rfl ?_
   clear F a; intro a F
   refine sLd Tryd.isAgg5 F rfl rfl rfl (H.cell 2 rfl rfl) ?_
   clear F a; intro a F
   refine sBin F rfl rfl rfl rfl (bEqlB (y := 8)) ?_
   clear F a; intro a F
   refine sNil ?_
   refine hK10 _ _ ?_; clear hK10
   refine cIf F rfl (fun h39 => ?_) (fun h39 => ?_)
   ·
    replace h39 := beqT h39
    refine cSeq (fun K11 hK11 => ?_)
    refine cSeq (fun K12 hK12 => ?_)
    refine cReg ?_
    refine sFa (f := 5) (k := 7) Tryd.underlying52 rfl Tryd.sizeOf5 rfl rfl F rfl rfl rfl ?_
    clear F a; intro a F
    refine sLd Tryd.isAgg5 F rfl rfl rfl (H.cell 2 rfl rfl) ?_
    clear F a; intro a F
    refine sMv F rfl rfl rfl ?_
    clear F a; intro a F
    refine sMv F rfl rfl rfl ?_
    clear F a; intro a F
    refine sCall Tryd.call42 F rfl rfl rfl (rfits_any x.fn _ _ _) ?_
    rintro e w ⟨rfl, hb⟩
    replace H := H.grow hb; clear hb
    refine ⟨_, rfl, ?_⟩
    clear F a; intro a F
    refine sNil ?_
    refine hK12 _ _ ?_; clear hK12
    refine cIf F rfl (fun h44 => ?_) (fun h44 => ?_)
    ·
     refine cReg ?_
     refine sFa (f := 0) (k := 0) Tryd.underlying32 rfl Tryd.sizeOf5 rfl rfl F rfl rfl rfl ?_
     clear F a; intro a F
     refine sLd Tryd.isAgg5 F rfl rfl rfl (H.cellB 1 rfl (by omega)) ?_
     clear F a; intro a F
     refine sFa (f := 7) (k := 9) Tryd.underlying52 rfl Tryd.sizeOf5 rfl rfl F rfl rfl rfl ?_
     clear F a; intro a F
     refine sLd Tryd.isAgg5 F rfl rfl rfl (H.cell 2 rfl rfl) ?_
     clear F a; intro a F
     refine sBin F rfl rfl rfl rfl (bAddB) ?_
     clear F a; intro a F
     refine sFa (f := 0) (k := 0) Tryd.underlying32 rfl Tryd.sizeOf5 rfl rfl F rfl rfl rfl ?_
     clear F a; intro a F
     refine sStB H 1 Tryd.sizeOf5 F rfl rfl rfl rfl (by omega) ?_
     clear H; intro w H
     refine sNil ?_
     refine hK11 _ _ ?_; clear hK11
     refine cSeq (fun K13 hK13 => ?_)
     refine cReg ?_
     refine sFa (f := 0) (k := 0) Tryd.underlying32 rfl Tryd.sizeOf5 rfl rfl F rfl rfl rfl ?_
     clear F a; intro a F
     refine sLd Tryd.isAgg5 F rfl rfl rfl (H.cellB 1 rfl (by omega)) ?_
     clear F a; intro a F
     refine sBin F rfl rfl rfl rfl (bAddB (y := 1)) ?_
     clear F a; intro a F
     refine sFa (f := 0) (k := 0) Tryd.underlying32 rfl Tryd.sizeOf5 rfl rfl F rfl rfl rfl ?_
     clear F a; intro a F
     refine sStB H 1 Tryd.sizeOf5 F rfl rfl rfl rfl (by omega) ?_
     clear H; intro w H
     refine sNil ?_
     refine hK13 _ _ ?_; clear hK13
     refine cSeq (fun K14 hK14 => ?_)
     refine cReg ?_
     refine sLrB Tryd.underlying32 rfl Tryd.sizeOf32 F rfl rfl rfl (H.whole 1 rfl) ?_
     clear F a; intro a F
     refine sSrB H 0 Tryd.sizeOf32 F rfl rfl rfl rfl (by omega) ?_
     clear H; intro w H
     rw [lay_all] at H
     refine sAs F rfl rfl rfl ?_
     clear F a; intro a F
     refine sNil ?_
     refine hK14 _ _ ?_; clear hK14
     refine wp_ret ?_
     simp only [Exit.then]
     refine bRetB1 Tryd.results20 F rfl rfl Tryd.underlying32 rfl Tryd.sizeOf32 H 0 rfl ?_
     refine ⟨?_, H.below⟩
     clear F H
     first
       | (have e1 : isLocal x = true := by simp [isLocal, *]
          rw [e1]; refine retBs fun i hi => ?_
          have hl := lay_regs (t := t) (dst := x.dst) (v := movedP x.fn (valA x t) (valB x t))
          rw [localP, if_pos h20]
          by_cases h0 : i = 0
          · subst h0
            simp [put, lay]
          · simp only [put, if_neg h0]
            exact hl i hi)
       | (have e1 : isLocal x = true := by simp [isLocal, *]
          rw [e1]; refine retBs fun i _ => ?_; by_cases hi : i = 0 <;> simp [localP, withP, valA, valB, put, hi, *])
       | (have e1 : isLocal x = false := by simp [isLocal, *]
          rw [e1]; refine retBs fun i _ => ?_; by_cases hi : i = 0 <;> simp [localP, withP, valA, valB, put, hi, *])
    ·
     refine wp_skip ?_
     refine hK11 _ _ ?_; clear hK11
     refine cSeq (fun K15 hK15 => ?_)
     refine cReg ?_
     refine sFa (f := 0) (k := 0) Tryd.underlying32 rfl Tryd.sizeOf5 rfl rfl F rfl rfl rfl ?_
     clear F a; intro a F
     refine sLd Tryd.isAgg5 F rfl rfl rfl (H.cellB 1 rfl (by omega)) ?_
     clear F a; intro a F
     refine sBin F rfl rfl rfl rfl (bAddB (y := 1)) ?_
     clear F a; intro a F
     refine sFa (f := 0) (k := 0) Tryd.underlying32 rfl Tryd.sizeOf5 rfl rfl F rfl rfl rfl ?_
     clear F a; intro a F
     refine sStB H 1 Tryd.sizeOf5 F rfl rfl rfl rfl (by omega) ?_
     clear H; intro w H
     refine sNil ?_
     refine hK15 _ _ ?_; clear hK15
     refine cSeq (fun K16 hK16 => ?_)
     refine cReg ?_
     refine sLrB Tryd.underlying32 rfl Tryd.sizeOf32 F rfl rfl rfl (H.whole 1 rfl) ?_
     clear F a; intro a F
     refine sSrB H 0 Tryd.sizeOf32 F rfl rfl rfl rfl (by omega) ?_
     clear H; intro w H
     rw [lay_all] at H
     refine sAs F rfl rfl rfl ?_
     clear F a; intro a F
     refine sNil ?_
     refine hK16 _ _ ?_; clear hK16
     refine wp_ret ?_
     simp only [Exit.then]
     refine bRetB1 Tryd.results20 F rfl rfl Tryd.underlying32 rfl Tryd.sizeOf32 H 0 rfl ?_
     refine ⟨?_, H.below⟩
     clear F H
     first
       | (have e1 : isLocal x = true := by simp [isLocal, *]
          rw [e1]; refine retBs fun i hi => ?_
          have hl := lay_regs (t := t) (dst := x.dst) (v := movedP x.fn (valA x t) (valB x t))
          rw [localP, if_pos h20]
          by_cases h0 : i = 0
          · subst h0
            simp [put, lay]
          · simp only [put, if_neg h0]
            exact hl i hi)
       | (have e1 : isLocal x = true := by simp [isLocal, *]
          rw [e1]; refine retBs fun i _ => ?_; by_cases hi : i = 0 <;> simp [localP, withP, valA, valB, put, hi, *])
       | (have e1 : isLocal x = false := by simp [isLocal, *]
          rw [e1]; refine retBs fun i _ => ?_; by_cases hi : i = 0 <;> simp [localP, withP, valA, valB, put, hi, *])
   ·
    replace h39 := beqF h39
    refine wp_skip ?_
    refine hK9 _ _ ?_; clear hK9
    refine cSeq (fun K17 hK17 => ?_)
    refine cSeq (fun K18 hK18 => ?_)
    refine cReg ?_
    refine sFa (f := 0) (k := 0) Tryd.underlying52 rfl Tryd.sizeOf5 rfl rfl F rfl rfl rfl ?_
    clear F a; intro a F
    refine sLd Tryd.isAgg5 F rfl rfl rfl (H.cell 2 rfl rfl) ?_
    clear F a; intro a F
    refine sBin F rfl rfl rfl rfl (bEqlB (y := 7)) ?_
    clear F a; intro a F
    refine sNil ?_
    refine hK18 _ _ ?_; clear hK18
    refine cIf F rfl (fun h58 => ?_) (fun h58 => ?_)
    ·
     replace h58 := beqT h58
     refine cSeq (fun K19 hK19 => ?_)
     refine cReg ?_
     refine sFa (f := 0) (k := 0) Tryd.underlying32 rfl Tryd.sizeOf5 rfl rfl F rfl rfl rfl ?_
     clear F a; intro a F
     refine sLd Tryd.isAgg5 F rfl rfl rfl (H.cellB 1 rfl (by omega)) ?_
     clear F a; intro a F
     refine sBin F rfl rfl rfl rfl (bAddB (y := 1)) ?_
     clear F a; intro a F
     refine sFa (f := 0) (k := 0) Tryd.underlying32 rfl Tryd.sizeOf5 rfl rfl F rfl rfl rfl ?_
     clear F a; intro a F
     refine sStB H 1 Tryd.sizeOf5 F rfl rfl rfl rfl (by omega) ?_
     clear H; intro w H
     refine sNil ?_
     refine hK19 _ _ ?_; clear hK19
     refine cSeq (fun K20 hK20 => ?_)
     refine cReg ?_
     refine sLrB Tryd.underlying32 rfl Tryd.sizeOf32 F rfl rfl rfl (H.whole 1 rfl) ?_
     clear F a; intro a F
     refine sSrB H 0 Tryd.sizeOf32 F rfl rfl rfl rfl (by omega) ?_
     clear H; intro w H
     rw [lay_all] at H
     refine sAs F rfl rfl rfl ?_
     clear F a; intro a F
     refine sNil ?_
     refine hK20 _ _ ?_; clear hK20
     refine wp_ret ?_
     simp only [Exit.then]
     refine bRetB1 Tryd.results20 F rfl rfl Tryd.underlying32 rfl Tryd.sizeOf32 H 0 rfl ?_
     refine ⟨?_, H.below⟩
     clear F H
     first
       | (have e1 : isLocal x = true := by simp [isLocal, *]
          rw [e1]; refine retBs fun i hi => ?_
          have hl := lay_regs (t := t) (dst := x.dst) (v := movedP x.fn (valA x t) (valB x t))
          rw [localP, if_pos h20]
          by_cases h0 : i = 0
          · subst h0
            simp [put, lay]
          · simp only [put, if_neg h0]
            exact hl i hi)
       | (have e1 : isLocal x = true := by simp [isLocal, *]
          rw [e1]; refine retBs fun i _ => ?_; by_cases hi : i = 0 <;> simp [localP, withP, valA, valB, put, hi, *])
       | (have e1 : isLocal x = false := by simp [isLocal, *]
          rw [e1]; refine retBs fun i _ => ?_; by_cases hi : i = 0 <;> simp [localP, withP, valA, valB, put, hi, *])
    ·
     replace h58 := beqF h58
     refine wp_skip ?_
     refine hK17 _ _ ?_; clear hK17
     refine cSeq (fun K21 hK21 => ?_)
     refine cReg ?_
     refine sLrB Tryd.underlying32 rfl Tryd.sizeOf32 F rfl rfl rfl (H.whole 1 rfl) ?_
     clear F a; intro a F
     refine sSrB H 0 Tryd.sizeOf32 F rfl rfl rfl rfl (by omega) ?_
     clear H; intro w H
     rw [lay_all] at H
     refine sAs F rfl rfl rfl ?_
     clear F a; intro a F
     refine sNil ?_
     refine hK21 _ _ ?_; clear hK21
     refine wp_ret ?_
     refine bRetB1 Tryd.results20 F rfl rfl Tryd.underlying32 rfl Tryd.sizeOf32 H 0 rfl ?_
     refine ⟨?_, H.below⟩
     clear F H
     first
       | (have e1 : isLocal x = true := by simp [isLocal, *]
          rw [e1]; refine retBs fun i hi => ?_
          have hl := lay_regs (t := t) (dst := x.dst) (v := movedP x.fn (valA x t) (valB x t))
          rw [localP, if_pos h20]
          by_cases h0 : i = 0
          · subst h0
            simp [put, lay]
          · simp only [put, if_neg h0]
            exact hl i hi)
       | (have e1 : isLocal x = true := by simp [isLocal, *]
          rw [e1]; refine retBs fun i _ => ?_; by_cases hi : i = 0 <;> simp [localP, withP, valA, valB, put, hi, *])
       | (have e1 : isLocal x = false := by simp [isLocal, *]
          rw [e1]; refine retBs fun i _ => ?_; by_cases hi : i = 0 <;> simp [localP, withP, valA, valB, put, hi, *])
theorem rhas_any (x : Ins) (t : By) (had : UInt8) (w0 : World) :
    Calls Tryd.prog 44 #[.agg x.cells.toArray, .agg (bs 8 (cut t 1)).toArray, b8 had] w0 fun e w' => e = .returned (b8 (hasP x t had)) ∧ Below w0.heap.size w0 w' := by
  have H := Own.start w0 none
  refine enterF Tryd.func44 rfl Tryd.ntmps44 rfl (fun a F => ?_)
  refine cSeq (fun K1 hK1 => ?_)
  refine cReg ?_
  refine sBx H F rfl rfl rfl ?_
  clear F a H; intro b3 a w F H
  refine sBxB H F rfl rfl rfl ?_
  clear F a H; intro b4 a w F H
  refine sAs F rfl rfl rfl ?_
  clear F a; intro a F
  refine sNil ?_
  refine hK1 _ _ ?_; clear hK1
  refine cSeq (fun K2 hK2 => ?_)
  refine cReg ?_
  refine sFa (f := 3) (k := 3) Tryd.underlying52 rfl Tryd.sizeOf50 rfl rfl F rfl rfl rfl ?_
  clear F a; intro a F
  refine sLr Tryd.underlying50 rfl ?si F rfl rfl rfl (H.range 1 rfl _ 2) ?_
  case si => exact info_size Tryd.sizeOf50
  clear F a; intro a F
  refine sLrB Tryd.underlying30 rfl Tryd.sizeOf30 F rfl rfl rfl (H.whole 0 rfl) ?_
  clear F a; intro a F
  refine sCall Tryd.call22 F rfl rfl rfl (rworth_any x.aR x.aN (cut t 1) _) ?_
  rintro e w ⟨rfl, hb⟩
  replace H := H.grow hb; clear hb
  refine ⟨_, rfl, ?_⟩
  clear F a; intro a F
  refine sAs F rfl rfl rfl ?_
  clear F a; intro a F
  refine sNil ?_
  refine hK2 _ _ ?_; clear hK2
  refine cSeq (fun K3 hK3 => ?_)
  refine cSeq (fun K4 hK4 => ?_)
  refine cReg ?_
  refine sFa (f := 0) (k := 0) Tryd.underlying52 rfl Tryd.sizeOf5 rfl rfl F rfl rfl rfl ?_
  clear F a; intro a F
  refine sLd Tryd.isAgg5 F rfl rfl rfl (H.cell 1 rfl rfl) ?_
  clear F a; intro a F
  refine sNil ?_
  refine hK4 _ _ ?_; clear hK4
  refine wp_block ?_
  refine cSeq (fun K5 hK5 => ?_)
  refine cSeq (fun K6 hK6 => ?_)
  refine cReg ?_
  refine sBin F rfl rfl rfl rfl (bEqlB (y := 2)) ?_
  clear F a; intro a F
  refine sAs F rfl rfl rfl ?_
  clear F a; intro a F
  refine sNil ?_
  refine hK6 _ _ ?_; clear hK6
  refine F.split 14 rfl ?_ ?_ <;> (clear F; intro h14 F)
  ·
   replace h14 := beqT h14
   refine cIfT F rfl ?_
   refine wp_skip ?_
   refine hK5 _ _ ?_; clear hK5
   refine cIfT F rfl ?_
   refine cSeq (fun K7 hK7 => ?_)
   refine cReg ?_
   refine sMv F rfl rfl rfl ?_
   clear F a; intro a F
   refine sAs F rfl rfl rfl ?_
   clear F a; intro a F
   refine sNil ?_
   refine hK7 _ _ ?_; clear hK7
   refine wp_ret ?_
   simp only [Exit.inBlock, Exit.then]
   refine bRet Tryd.results44 F rfl ?_
   exact ⟨ret8 (by clear F H; simp_all [hasP, valA, valB]), H.below⟩
  ·
   replace h14 := beqF h14
   refine cIfF F rfl ?_
   refine cReg ?_
   refine sBin F rfl rfl rfl rfl (bEqlB (y := 4)) ?_
   clear F a; intro a F
   refine sAs F rfl rfl rfl ?_
   clear F a; intro a F
   refine sNil ?_
   refine hK5 _ _ ?_; clear hK5
   refine F.split 14 rfl ?_ ?_ <;> (clear F; intro h14 F)
   ·
    replace h14 := beqT h14
    refine cIfT F rfl ?_
    refine cSeq (fun K8 hK8 => ?_)
    refine cReg ?_
    refine sMv F rfl rfl rfl ?_
    clear F a; intro a F
    refine sAs F rfl rfl rfl ?_
    clear F a; intro a F
    refine sNil ?_
    refine hK8 _ _ ?_; clear hK8
    refine wp_ret ?_
    simp only [Exit.inBlock, Exit.then]
    refine bRet Tryd.results44 F rfl ?_
    exact ⟨ret8 (by clear F H; simp_all [hasP, valA, valB]), H.below⟩
   ·
    replace h14 := beqF h14
    refine cIfF F rfl ?_
    refine cSeq (fun K9 hK9 => ?_)
    refine cReg ?_
    refine sBin F rfl rfl rfl rfl (bEqlB (y := 5)) ?_
    clear F a; intro a F
    refine sAs F rfl rfl rfl ?_
    clear F a; intro a F
    refine sNil ?_
    refine hK9 _ _ ?_; clear hK9
    refine cIf F rfl (fun h18 => ?_) (fun h18 => ?_)
    ·
     replace h18 := beqT h18
     refine cSeq (fun K10 hK10 => ?_)
     refine cReg ?_
     refine sMv F rfl rfl rfl ?_
     clear F a; intro a F
     refine sMv F rfl rfl rfl ?_
     clear F a; intro a F
     refine sBin F rfl rfl rfl rfl (bAddB) ?_
     clear F a; intro a F
     refine sAs F rfl rfl rfl ?_
     clear F a; intro a F
     refine sNil ?_
     refine hK10 _ _ ?_; clear hK10
     refine wp_ret ?_
     simp only [Exit.inBlock, Exit.then]
     refine bRet Tryd.results44 F rfl ?_
     exact ⟨ret8 (by clear F H; simp_all [hasP, valA, valB]), H.below⟩
    ·
     replace h18 := beqF h18
     refine cSeq (fun K11 hK11 => ?_)
     refine cReg ?_
     refine sBin F rfl rfl rfl rfl (bEqlB (y := 6)) ?_
     clear F a; intro a F
     refine sAs F rfl rfl rfl ?_
     clear F a; intro a F
     refine sNil ?_
     refine hK11 _ _ ?_; clear hK11
     refine cIf F rfl (fun h23 => ?_) (fun h23 => ?_)
     ·
      replace h23 := beqT h23
      refine cSeq (fun K12 hK12 => ?_)
      refine cReg ?_
      refine sMv F rfl rfl rfl ?_
      clear F a; intro a F
      refine sMv F rfl rfl rfl ?_
      clear F a; intro a F
      refine sBin F rfl rfl rfl rfl bEqlB ?_
      clear F a; intro a F
      refine sNil ?_
      refine hK12 _ _ ?_; clear hK12
      refine cIf F rfl (fun h27 => ?_) (fun h27 => ?_)
      ·
       replace h27 := beqT h27
       refine cSeq (fun K13 hK13 => ?_)
       refine cReg ?_
       refine sFa (f := 4) (k := 5) Tryd.underlying52 rfl Tryd.sizeOf50 rfl rfl F rfl rfl rfl ?_
       clear F a; intro a F
       refine sLr Tryd.underlying50 rfl ?si F rfl rfl rfl (H.range 1 rfl _ 2) ?_
       case si => exact info_size Tryd.sizeOf50
       clear F a; intro a F
       refine sLrB Tryd.underlying30 rfl Tryd.sizeOf30 F rfl rfl rfl (H.whole 0 rfl) ?_
       clear F a; intro a F
       refine sCall Tryd.call22 F rfl rfl rfl (rworth_any x.bR x.bN (cut t 1) _) ?_
       rintro e w ⟨rfl, hb⟩
       replace H := H.grow hb; clear hb
       refine ⟨_, rfl, ?_⟩
       clear F a; intro a F
       refine sAs F rfl rfl rfl ?_
       clear F a; intro a F
       refine sNil ?_
       refine hK13 _ _ ?_; clear hK13
       refine wp_ret ?_
       simp only [Exit.inBlock, Exit.then]
       refine bRet Tryd.results44 F rfl ?_
       exact ⟨ret8 (by clear F H; simp_all [hasP, valA, valB]), H.below⟩
      ·
       replace h27 := beqF h27
       refine wp_skip ?_
       refine hK3 _ _ ?_; clear hK3
       refine cSeq (fun K14 hK14 => ?_)
       refine cReg ?_
       refine sMv F rfl rfl rfl ?_
       clear F a; intro a F
       refine sAs F rfl rfl rfl ?_
       clear F a; intro a F
       refine sNil ?_
       refine hK14 _ _ ?_; clear hK14
       refine wp_ret ?_
       refine bRet Tryd.results44 F rfl ?_
       exact ⟨ret8 (by clear F H; simp_all [hasP, valA, valB]), H.below⟩
     ·
      replace h23 := beqF h23
      refine wp_skip ?_
      refine hK3 _ _ ?_; clear hK3
      refine cSeq (fun K15 hK15 => ?_)
      refine cReg ?_
      refine sMv F rfl rfl rfl ?_
      clear F a; intro a F
      refine sAs F rfl rfl rfl ?_
      clear F a; intro a F
      refine sNil ?_
      refine hK15 _ _ ?_; clear hK15
      refine wp_ret ?_
      refine bRet Tryd.results44 F rfl ?_
      exact ⟨ret8 (by clear F H; simp_all [hasP, valA, valB]), H.below⟩
end Go.Proofs.YtfemniboggnbiaaDoor
