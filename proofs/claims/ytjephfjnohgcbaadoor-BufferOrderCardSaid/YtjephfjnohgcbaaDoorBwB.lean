/-
  WALK2. The laws of chapter 14: plays, awake. Conditions: block 0 holds the table of needs.
-/
import Derived.Test.YtjephfjnohgcbaaDoorBwA
set_option linter.unusedSimpArgs false
set_option linter.unusedVariables false
namespace Go.Proofs.YtjephfjnohgcbaaDoor
open Go.RowKit
set_option maxRecDepth 100000

def playsM (picks : List UInt8) (a b : UInt8) (order : List Int) : Bool :=
  playEM sbP 2 == 0 && playFM sbP 2 picks 0 == a && playFM sbP 2 picks 8 == b && playFM sbP 2 picks 32 == 1 && playFM sbP 2 picks 33 == 1 && decide (playOM sbP 2 picks = ofP order)
theorem playsM_any (PA : Option Addr) (PC : Nat) (picks : List UInt8) (a b : UInt8) (OA : Option Addr) (OC : Nat) (order : List Int) (w0 : World) (hN : NeedsAt w0) (hB : BytesAt w0 PA picks) (hBn : picks.length ≤ 9223372036854775807) (hO : RowsAt w0 OA 1 (intZ order)) (hOn : order.length ≤ 1000) (hb : ∀ n ∈ order, -1000 ≤ n ∧ n ≤ 1000) :
    Calls Tryd.prog 32 #[.slice PA picks.length PC, Go.Proofs.YtjephfjnohgcbaaDoor.b8 a, Go.Proofs.YtjephfjnohgcbaaDoor.b8 b, .slice OA order.length OC] w0 fun e w' => e = .returned (.bool (playsM picks a b order)) ∧ Below w0.heap.size w0 w' := by
  have H := Own.start w0 none
  refine enterF Tryd.func32 rfl Tryd.ntmps32 rfl (fun a F => ?_)
  refine cSeq (fun K1 hK1 => ?_)
  refine cReg ?_
  refine sAs F rfl rfl rfl ?_;clear F a;intro a F
  refine sNil ?_
  refine hK1 _ _ ?_; clear hK1
  refine cSeq (fun K2 hK2 => ?_)
  refine cReg ?_
  refine sCall Tryd.call30 F rfl rfl rfl (buffering_any _) ?_
  rintro e w ⟨b1, b2, b3, b4, b5, rfl, H2⟩
  replace H := H.join H2; clear H2
  refine ⟨_, rfl, ?_⟩
  clear F a; intro a F
  refine sMv F rfl rfl rfl ?_;clear F a;intro a F
  refine sCall Tryd.call17 F rfl rfl rfl (playM_any _ sbP _ (sb_prog (H.sel [0, 1, 2, 3, 4] rfl rfl)) (hN.own H) 2 PA PC picks (RowsAt.own hB H) hBn) ?_
  rintro e w ⟨A, c, rfl, H2⟩
  replace H := H.join H2; clear H2
  refine ⟨_, rfl, ?_⟩
  clear F a; intro a F
  refine sMv F rfl rfl rfl ?_;clear F a;intro a F
  refine sExt F rfl rfl rfl rfl ?_;clear F a;intro a F
  refine sExt F rfl rfl rfl rfl ?_;clear F a;intro a F
  refine sExt F rfl rfl rfl rfl ?_;clear F a;intro a F
  refine sAlB H zB64 F rfl rfl ?_
  clear F a H; intro b9 a w F H
  refine sSrB H 0 Tryd.sizeOf64 F rfl rfl rfl rfl (by omega) ?_
  clear H; intro w H
  rw [lay_all] at H
  refine sAs F rfl rfl rfl ?_;clear F a;intro a F
  refine sAs F rfl rfl rfl ?_;clear F a;intro a F
  refine sNil ?_
  refine hK2 _ _ ?_; clear hK2
  refine cSeq (fun K3 hK3 => ?_)
  refine cReg ?_
  refine sMv F rfl rfl rfl ?_;clear F a;intro a F
  refine sBin F rfl rfl rfl rfl bEql ?_;clear F a;intro a F
  refine sMv F rfl rfl rfl ?_;clear F a;intro a F
  refine F.split 21 rfl ?_ ?_ <;> (clear F; intro h21 F)
  ·
   replace h21 := beqT h21
   refine sFa (f := 0) (k := 0) Tryd.underlying64 rfl Tryd.sizeOf62 rfl rfl F rfl rfl rfl ?_;clear F a;intro a F
   refine sIa (j := 0) Tryd.underlying62 Tryd.sizeOf30 F rfl rfl rfl rfl ?_ ?_
   focus (first | omega | decide | (simp; omega))
   clear F a; intro a F
   refine sIa (j := 0) Tryd.underlying30 Tryd.sizeOf5 F rfl rfl rfl rfl ?_ ?_
   focus (first | omega | decide | (simp; omega))
   clear F a; intro a F
   refine sLd Tryd.isAgg5 F rfl rfl rfl (H.cellB 0 rfl (by omega)) ?_;clear F a;intro a F
   refine sMv F rfl rfl rfl ?_;clear F a;intro a F
   refine sBin F rfl rfl rfl rfl bEqlB ?_;clear F a;intro a F
   refine sPk F rfl rfl rfl rfl ?_;clear F a;intro a F
   refine sMv F rfl rfl rfl ?_;clear F a;intro a F
   refine F.split 29 rfl ?_ ?_ <;> (clear F; intro h29 F)
   ·
    replace h29 := beqT h29
    refine sFa (f := 0) (k := 0) Tryd.underlying64 rfl Tryd.sizeOf62 rfl rfl F rfl rfl rfl ?_;clear F a;intro a F
    refine sIa (j := 1) Tryd.underlying62 Tryd.sizeOf30 F rfl rfl rfl rfl ?_ ?_
    focus (first | omega | decide | (simp; omega))
    clear F a; intro a F
    refine sIa (j := 0) Tryd.underlying30 Tryd.sizeOf5 F rfl rfl rfl rfl ?_ ?_
    focus (first | omega | decide | (simp; omega))
    clear F a; intro a F
    refine sLd Tryd.isAgg5 F rfl rfl rfl (H.cellB 0 rfl (by omega)) ?_;clear F a;intro a F
    refine sMv F rfl rfl rfl ?_;clear F a;intro a F
    refine sBin F rfl rfl rfl rfl bEqlB ?_;clear F a;intro a F
    refine sPk F rfl rfl rfl rfl ?_;clear F a;intro a F
    refine sMv F rfl rfl rfl ?_;clear F a;intro a F
    refine F.split 37 rfl ?_ ?_ <;> (clear F; intro h37 F)
    ·
     replace h37 := beqT h37
     refine sFa (f := 1) (k := 32) Tryd.underlying64 rfl Tryd.sizeOf34 rfl rfl F rfl rfl rfl ?_;clear F a;intro a F
     refine sIa (j := 0) Tryd.underlying34 Tryd.sizeOf5 F rfl rfl rfl rfl ?_ ?_
     focus (first | omega | decide | (simp; omega))
     clear F a; intro a F
     refine sLd Tryd.isAgg5 F rfl rfl rfl (H.cellB 0 rfl (by omega)) ?_;clear F a;intro a F
     refine sBin F rfl rfl rfl rfl (bEqlB (y := 1)) ?_;clear F a;intro a F
     refine sPk F rfl rfl rfl rfl ?_;clear F a;intro a F
     refine sMv F rfl rfl rfl ?_;clear F a;intro a F
     refine F.split 43 rfl ?_ ?_ <;> (clear F; intro h43 F)
     ·
      replace h43 := beqT h43
      refine sFa (f := 1) (k := 32) Tryd.underlying64 rfl Tryd.sizeOf34 rfl rfl F rfl rfl rfl ?_;clear F a;intro a F
      refine sIa (j := 1) Tryd.underlying34 Tryd.sizeOf5 F rfl rfl rfl rfl ?_ ?_
      focus (first | omega | decide | (simp; omega))
      clear F a; intro a F
      refine sLd Tryd.isAgg5 F rfl rfl rfl (H.cellB 0 rfl (by omega)) ?_;clear F a;intro a F
      refine sBin F rfl rfl rfl rfl (bEqlB (y := 1)) ?_;clear F a;intro a F
      refine sPk F rfl rfl rfl rfl ?_;clear F a;intro a F
      refine sMv F rfl rfl rfl ?_;clear F a;intro a F
      refine F.split 49 rfl ?_ ?_ <;> (clear F; intro h49 F)
      ·
       replace h49 := beqT h49
       refine sMv F rfl rfl rfl ?_;clear F a;intro a F
       refine sMv F rfl rfl rfl ?_;clear F a;intro a F
       refine sCall Tryd.call31 F rfl rfl rfl (of_any OA OC order _ (hO.own H) hOn hb) ?_
       rintro e w ⟨B, c', rfl, H2⟩
       replace H := H.join H2; clear H2
       refine ⟨_, rfl, ?_⟩
       clear F a; intro a F
       refine sCall Tryd.call27 F rfl rfl rfl (passes_any A B c c' (playOM sbP 2 picks) (ofP order) _ (H.rowsAt 2 rfl (rowX _) (by decide)) (H.rowsAt 0 rfl (rowX _) (by decide)) (by have := (H.rwsLen 2 rfl).2; simp only [maxLen] at this; omega) (by have := (H.rwsLen 0 rfl).2; simp only [maxLen] at this; omega)) ?_
       rintro e w ⟨rfl, hb⟩
       replace H := H.grow hb; clear hb
       refine ⟨_, rfl, ?_⟩
       clear F a; intro a F
       refine sPk F rfl rfl rfl rfl ?_;clear F a;intro a F
       refine sAs F rfl rfl rfl ?_;clear F a;intro a F
       refine sNil ?_
       refine hK3 _ _ ?_; clear hK3
       refine wp_ret ?_
       refine bRet Tryd.results32 F rfl ?_
       refine ⟨retB ?_, H.below⟩
       clear F H
       simp [playsM, *]
      ·
       replace h49 := beqF h49
       refine sSk F rfl rfl ?_;clear F a;intro a F
       refine sSk F rfl rfl ?_;clear F a;intro a F
       refine sSk F rfl rfl ?_;clear F a;intro a F
       refine sSk F rfl rfl ?_;clear F a;intro a F
       refine sPk F rfl rfl rfl rfl ?_;clear F a;intro a F
       refine sAs F rfl rfl rfl ?_;clear F a;intro a F
       refine sNil ?_
       refine hK3 _ _ ?_; clear hK3
       refine wp_ret ?_
       refine bRet Tryd.results32 F rfl ?_
       refine ⟨retB ?_, H.below⟩
       clear F H
       simp [playsM, *]
     ·
      replace h43 := beqF h43
      refine sSk F rfl rfl ?_;clear F a;intro a F
      refine sSk F rfl rfl ?_;clear F a;intro a F
      refine sSk F rfl rfl ?_;clear F a;intro a F
      refine sSk F rfl rfl ?_;clear F a;intro a F
      refine sPk F rfl rfl rfl rfl ?_;clear F a;intro a F
      refine sMv F rfl rfl rfl ?_;clear F a;intro a F
      refine sSk F rfl rfl ?_;clear F a;intro a F
      refine sSk F rfl rfl ?_;clear F a;intro a F
      refine sSk F rfl rfl ?_;clear F a;intro a F
      refine sSk F rfl rfl ?_;clear F a;intro a F
      refine sPk F rfl rfl rfl rfl ?_;clear F a;intro a F
      refine sAs F rfl rfl rfl ?_;clear F a;intro a F
      refine sNil ?_
      refine hK3 _ _ ?_; clear hK3
      refine wp_ret ?_
      refine bRet Tryd.results32 F rfl ?_
      refine ⟨retB ?_, H.below⟩
      clear F H
      simp [playsM, *]
    ·
     replace h37 := beqF h37
     refine sSk F rfl rfl ?_;clear F a;intro a F
     refine sSk F rfl rfl ?_;clear F a;intro a F
     refine sSk F rfl rfl ?_;clear F a;intro a F
     refine sSk F rfl rfl ?_;clear F a;intro a F
     refine sPk F rfl rfl rfl rfl ?_;clear F a;intro a F
     refine sMv F rfl rfl rfl ?_;clear F a;intro a F
     refine sSk F rfl rfl ?_;clear F a;intro a F
     refine sSk F rfl rfl ?_;clear F a;intro a F
     refine sSk F rfl rfl ?_;clear F a;intro a F
     refine sSk F rfl rfl ?_;clear F a;intro a F
     refine sPk F rfl rfl rfl rfl ?_;clear F a;intro a F
     refine sMv F rfl rfl rfl ?_;clear F a;intro a F
     refine sSk F rfl rfl ?_;clear F a;intro a F
     refine sSk F rfl rfl ?_;clear F a;intro a F
     refine sSk F rfl rfl ?_;clear F a;intro a F
     refine sSk F rfl rfl ?_;clear F a;intro a F
     refine sPk F rfl rfl rfl rfl ?_;clear F a;intro a F
     refine sAs F rfl rfl rfl ?_;clear F a;intro a F
     refine sNil ?_
     refine hK3 _ _ ?_; clear hK3
     refine wp_ret ?_
     refine bRet Tryd.results32 F rfl ?_
     refine ⟨retB ?_, H.below⟩
     clear F H
     simp [playsM, *]
   ·
    replace h29 := beqF h29
    refine sSk F rfl rfl ?_;clear F a;intro a F
    refine sSk F rfl rfl ?_;clear F a;intro a F
    refine sSk F rfl rfl ?_;clear F a;intro a F
    refine sSk F rfl rfl ?_;clear F a;intro a F
    refine sSk F rfl rfl ?_;clear F a;intro a F
    refine sSk F rfl rfl ?_;clear F a;intro a F
    refine sPk F rfl rfl rfl rfl ?_;clear F a;intro a F
    refine sMv F rfl rfl rfl ?_;clear F a;intro a F
    refine sSk F rfl rfl ?_;clear F a;intro a F
    refine sSk F rfl rfl ?_;clear F a;intro a F
    refine sSk F rfl rfl ?_;clear F a;intro a F
    refine sSk F rfl rfl ?_;clear F a;intro a F
    refine sPk F rfl rfl rfl rfl ?_;clear F a;intro a F
    refine sMv F rfl rfl rfl ?_;clear F a;intro a F
    refine sSk F rfl rfl ?_;clear F a;intro a F
    refine sSk F rfl rfl ?_;clear F a;intro a F
    refine sSk F rfl rfl ?_;clear F a;intro a F
    refine sSk F rfl rfl ?_;clear F a;intro a F
    refine sPk F rfl rfl rfl rfl ?_;clear F a;intro a F
    refine sMv F rfl rfl rfl ?_;clear F a;intro a F
    refine sSk F rfl rfl ?_;clear F a;intro a F
    refine sSk F rfl rfl ?_;clear F a;intro a F
    refine sSk F rfl rfl ?_;clear F a;intro a F
    refine sSk F rfl rfl ?_;clear F a;intro a F
    refine sPk F rfl rfl rfl rfl ?_;clear F a;intro a F
    refine sAs F rfl rfl rfl ?_;clear F a;intro a F
    refine sNil ?_
    refine hK3 _ _ ?_; clear hK3
    refine wp_ret ?_
    refine bRet Tryd.results32 F rfl ?_
    refine ⟨retB ?_, H.below⟩
    clear F H
    simp [playsM, *]
  ·
   replace h21 := beqF h21
   refine sSk F rfl rfl ?_;clear F a;intro a F
   refine sSk F rfl rfl ?_;clear F a;intro a F
   refine sSk F rfl rfl ?_;clear F a;intro a F
   refine sSk F rfl rfl ?_;clear F a;intro a F
   refine sSk F rfl rfl ?_;clear F a;intro a F
   refine sSk F rfl rfl ?_;clear F a;intro a F
   refine sPk F rfl rfl rfl rfl ?_;clear F a;intro a F
   refine sMv F rfl rfl rfl ?_;clear F a;intro a F
   refine sSk F rfl rfl ?_;clear F a;intro a F
   refine sSk F rfl rfl ?_;clear F a;intro a F
   refine sSk F rfl rfl ?_;clear F a;intro a F
   refine sSk F rfl rfl ?_;clear F a;intro a F
   refine sSk F rfl rfl ?_;clear F a;intro a F
   refine sSk F rfl rfl ?_;clear F a;intro a F
   refine sPk F rfl rfl rfl rfl ?_;clear F a;intro a F
   refine sMv F rfl rfl rfl ?_;clear F a;intro a F
   refine sSk F rfl rfl ?_;clear F a;intro a F
   refine sSk F rfl rfl ?_;clear F a;intro a F
   refine sSk F rfl rfl ?_;clear F a;intro a F
   refine sSk F rfl rfl ?_;clear F a;intro a F
   refine sPk F rfl rfl rfl rfl ?_;clear F a;intro a F
   refine sMv F rfl rfl rfl ?_;clear F a;intro a F
   refine sSk F rfl rfl ?_;clear F a;intro a F
   refine sSk F rfl rfl ?_;clear F a;intro a F
   refine sSk F rfl rfl ?_;clear F a;intro a F
   refine sSk F rfl rfl ?_;clear F a;intro a F
   refine sPk F rfl rfl rfl rfl ?_;clear F a;intro a F
   refine sMv F rfl rfl rfl ?_;clear F a;intro a F
   refine sSk F rfl rfl ?_;clear F a;intro a F
   refine sSk F rfl rfl ?_;clear F a;intro a F
   refine sSk F rfl rfl ?_;clear F a;intro a F
   refine sSk F rfl rfl ?_;clear F a;intro a F
   refine sPk F rfl rfl rfl rfl ?_;clear F a;intro a F
   refine sAs F rfl rfl rfl ?_;clear F a;intro a F
   refine sNil ?_
   refine hK3 _ _ ?_; clear hK3
   refine wp_ret ?_
   refine bRet Tryd.results32 F rfl ?_
   refine ⟨retB ?_, H.below⟩
   clear F H
   simp [playsM, *]
def sbZ : By := moveSM sbP 2 (startS sbP) ⟨0, false, 0⟩
set_option maxHeartbeats 8000000 in
theorem awake14_any (w0 : World) (hN : NeedsAt w0) :
    Calls Tryd.prog 12 #[] w0 fun e w' => e = .returned (.bool true) ∧ Below w0.heap.size w0 w' := by
  have H := Own.start w0 none
  refine enterF Tryd.func12 rfl Tryd.ntmps12 rfl (fun a F => ?_)
  refine cSeq (fun K1 hK1 => ?_)
  refine cReg ?_
  refine sAs F rfl rfl rfl ?_;clear F a;intro a F
  refine sNil ?_
  refine hK1 _ _ ?_; clear hK1
  refine cSeq (fun K2 hK2 => ?_)
  refine cReg ?_
  refine sCall Tryd.call30 F rfl rfl rfl (buffering_any _) ?_
  rintro e w ⟨x1, x2, x3, x4, x5, rfl, H2⟩
  replace H := H.join H2; clear H2
  refine ⟨_, rfl, ?_⟩
  clear F a; intro a F
  refine sAl H Tryd.zeroValue29 F rfl rfl ?_
  clear F a H; intro b1 a w F H
  refine sSr H 0 ?si F rfl rfl rfl ?s1 rfl rfl ?_
  case si => exact info_size Tryd.sizeOf29
  case s1 => first | rfl | (repeat (first | exact one_nil | (apply one_cons; · first | rfl | assumption | exact one_bif rfl rfl)))
  clear H; intro w H
  refine sNil ?_
  refine hK2 _ _ ?_; clear hK2
  refine cSeq (fun K3 hK3 => ?_)
  refine cReg ?_
  refine sLr Tryd.underlying29 rfl ?si F rfl rfl rfl (H.whole 0 rfl) ?_
  case si => exact info_size Tryd.sizeOf29
  clear F a; intro a F
  refine sCall Tryd.call18 F rfl rfl rfl (start_any _ sbP _ (sb_prog (H.sel [1, 2, 3, 4, 5] rfl rfl)) (hN.own H)) ?_
  rintro e w ⟨rfl, hb⟩
  replace H := H.grow hb; clear hb
  refine ⟨_, rfl, ?_⟩
  clear F a; intro a F
  refine sMv F rfl rfl rfl ?_;clear F a;intro a F
  refine sExt F rfl rfl rfl rfl ?_;clear F a;intro a F
  refine sExt F rfl rfl rfl rfl ?_;clear F a;intro a F
  refine sAlB H zB41 F rfl rfl ?_
  clear F a H; intro b2 a w F H
  refine sSrB H 0 Tryd.sizeOf41 F rfl rfl rfl rfl (by omega) ?_
  clear H; intro w H
  rw [lay_all] at H
  refine sAs F rfl rfl rfl ?_;clear F a;intro a F
  refine sNil ?_
  refine hK3 _ _ ?_; clear hK3
  refine cSeq (fun K4 hK4 => ?_)
  refine cReg ?_
  refine sLr Tryd.underlying29 rfl ?si F rfl rfl rfl (H.whole 1 rfl) ?_
  case si => exact info_size Tryd.sizeOf29
  clear F a; intro a F
  refine sLrB Tryd.underlying41 rfl Tryd.sizeOf41 F rfl rfl rfl (H.whole 0 rfl) ?_;clear F a;intro a F
  refine sCall Tryd.call10 F rfl rfl rfl (movesR_any _ sbP _ (sb_prog (H.sel [2, 3, 4, 5, 6] rfl rfl)) (hN.own H) 2 (startS sbP)) ?_
  rintro e w ⟨A, c, rfl, H2⟩
  replace H := H.join H2; clear H2
  refine ⟨_, rfl, ?_⟩
  clear F a; intro a F
  refine sAs F rfl rfl rfl ?_;clear F a;intro a F
  refine sNil ?_
  refine hK4 _ _ ?_; clear hK4
  refine cSeq (fun K5 hK5 => ?_)
  refine cReg ?_
  refine sLr Tryd.underlying29 rfl ?si F rfl rfl rfl (H.whole 2 rfl) ?_
  case si => exact info_size Tryd.sizeOf29
  clear F a; intro a F
  refine sLrB Tryd.underlying41 rfl Tryd.sizeOf41 F rfl rfl rfl (H.whole 1 rfl) ?_;clear F a;intro a F
  refine sBd (places := [(0, 1), (1, 1), (2, 1)]) Tryd.zeroValue50 Tryd.underlying50 (by kernel_rfl) F rfl rfl rfl rfl ?_;clear F a;intro a F
  refine sCall Tryd.call13 F rfl rfl rfl (moveM_any _ sbP _ (sb_prog (H.sel [3, 4, 5, 6, 7] rfl rfl)) (hN.own H) 2 (startS sbP) ⟨0, false, 0⟩) ?_
  rintro e w ⟨rfl, hb⟩
  replace H := H.grow hb; clear hb
  refine ⟨_, rfl, ?_⟩
  clear F a; intro a F
  refine sMv F rfl rfl rfl ?_;clear F a;intro a F
  refine sExt F rfl rfl rfl rfl ?_;clear F a;intro a F
  refine sExt F rfl rfl rfl rfl ?_;clear F a;intro a F
  refine sAlB H zB41 F rfl rfl ?_
  clear F a H; intro b5 a w F H
  refine sSrB H 0 Tryd.sizeOf41 F rfl rfl rfl rfl (by omega) ?_
  clear H; intro w H
  rw [lay_all] at H
  refine sAs F rfl rfl rfl ?_;clear F a;intro a F
  refine sNil ?_
  refine hK5 _ _ ?_; clear hK5
  refine cSeq (fun K6 hK6 => ?_)
  refine cReg ?_
  refine sLr Tryd.underlying29 rfl ?si F rfl rfl rfl (H.whole 3 rfl) ?_
  case si => exact info_size Tryd.sizeOf29
  clear F a; intro a F
  refine sLrB Tryd.underlying41 rfl Tryd.sizeOf41 F rfl rfl rfl (H.whole 2 rfl) ?_;clear F a;intro a F
  refine sBd (places := [(0, 1), (1, 1), (2, 1)]) Tryd.zeroValue50 Tryd.underlying50 (by kernel_rfl) F rfl rfl rfl rfl ?_;clear F a;intro a F
  refine sCall Tryd.call13 F rfl rfl rfl (moveM_any _ sbP _ (sb_prog (H.sel [4, 5, 6, 7, 8] rfl rfl)) (hN.own H) 4 (startS sbP) ⟨0, false, 0⟩) ?_
  rintro e w ⟨rfl, hb⟩
  replace H := H.grow hb; clear hb
  refine ⟨_, rfl, ?_⟩
  clear F a; intro a F
  refine sMv F rfl rfl rfl ?_;clear F a;intro a F
  refine sExt F rfl rfl rfl rfl ?_;clear F a;intro a F
  refine sExt F rfl rfl rfl rfl ?_;clear F a;intro a F
  refine sAlB H zB41 F rfl rfl ?_
  clear F a H; intro b7 a w F H
  refine sSrB H 0 Tryd.sizeOf41 F rfl rfl rfl rfl (by omega) ?_
  clear H; intro w H
  rw [lay_all] at H
  refine sAs F rfl rfl rfl ?_;clear F a;intro a F
  refine sNil ?_
  refine hK6 _ _ ?_; clear hK6
  refine cSeq (fun K7 hK7 => ?_)
  refine cReg ?_
  refine sMv F rfl rfl rfl ?_;clear F a;intro a F
  refine sBin F rfl rfl rfl rfl bEql ?_;clear F a;intro a F
  refine sMv F rfl rfl rfl ?_;clear F a;intro a F
  refine F.split 34 rfl ?_ ?_ <;> (clear F; intro h34 F)
  ·
   replace h34 := beqT h34
   refine sMv F rfl rfl rfl ?_;clear F a;intro a F
   refine sBin F rfl rfl rfl rfl bEql ?_;clear F a;intro a F
   refine sPk F rfl rfl rfl rfl ?_;clear F a;intro a F
   refine sMv F rfl rfl rfl ?_;clear F a;intro a F
   refine F.split 38 rfl ?_ ?_ <;> (clear F; intro h38 F)
   ·
    replace h38 := beqT h38
    refine sMv F rfl rfl rfl ?_;clear F a;intro a F
    refine sBs H Tryd.underlying79 Tryd.sizeOf3 Tryd.zeroValue3 rfl F rfl rfl rfl rfl rfl ?_
    clear F a H; intro b40 a w F H
    refine sCall Tryd.call31 F rfl rfl rfl (of_any _ 2 [0, 1] _ (RowsAt.ofRange (sz := 1) (rows := intZ [0, 1]) (H.whole 0 rfl) (intZ_one _)) (by decide) (by decide)) ?_
    rintro e w ⟨B, c', rfl, H2⟩
    replace H := H.join H2; clear H2
    refine ⟨_, rfl, ?_⟩
    clear F a; intro a F
    refine sCall Tryd.call27 F rfl rfl rfl (passes_any A B c c' (movesR sbP 2 (startS sbP)) (ofP [0, 1]) _ (H.rowsAt 4 rfl (rowX _) (by decide)) (H.rowsAt 0 rfl (rowX _) (by decide)) (by have := (H.rwsLen 4 rfl).2; simp only [maxLen] at this; omega) (by decide)) ?_
    rintro e w ⟨rfl, hb⟩
    replace H := H.grow hb; clear hb
    refine ⟨_, rfl, ?_⟩
    clear F a; intro a F
    refine sPk F rfl rfl rfl rfl ?_;clear F a;intro a F
    refine sMv F rfl rfl rfl ?_;clear F a;intro a F
    refine F.split 44 rfl ?_ ?_ <;> (clear F; intro h44 F)
    ·
     refine sLr Tryd.underlying29 rfl ?si F rfl rfl rfl (H.whole 6 rfl) ?_
     case si => exact info_size Tryd.sizeOf29
     clear F a; intro a F
     refine sLrB Tryd.underlying41 rfl Tryd.sizeOf41 F rfl rfl rfl (H.whole 3 rfl) ?_;clear F a;intro a F
     refine sCall Tryd.call10 F rfl rfl rfl (movesR_any _ sbP _ (sb_prog (H.sel [7, 8, 9, 10, 11] rfl rfl)) (hN.own H) 2 (moveSM sbP 2 (startS sbP) ⟨0, false, 0⟩)) ?_
     rintro e w ⟨A3, c3, rfl, H2⟩
     replace H := H.join H2; clear H2
     refine ⟨_, rfl, ?_⟩
     clear F a; intro a F
     refine sBs H Tryd.underlying79 Tryd.sizeOf3 Tryd.zeroValue3 rfl F rfl rfl rfl rfl rfl ?_
     clear F a H; intro b48 a w F H
     refine sCall Tryd.call31 F rfl rfl rfl (of_any _ 3 [0, -1, 1] _ (RowsAt.ofRange (sz := 1) (rows := intZ [0, -1, 1]) (H.whole 0 rfl) (intZ_one _)) (by decide) (by decide)) ?_
     rintro e w ⟨B4, c4, rfl, H2⟩
     replace H := H.join H2; clear H2
     refine ⟨_, rfl, ?_⟩
     clear F a; intro a F
     refine sCall Tryd.call27 F rfl rfl rfl (passes_any A3 B4 c3 c4 (movesR sbP 2 (moveSM sbP 2 (startS sbP) ⟨0, false, 0⟩)) (ofP [0, -1, 1]) _ (H.rowsAt 2 rfl (rowX _) (by decide)) (H.rowsAt 0 rfl (rowX _) (by decide)) (by have := (H.rwsLen 2 rfl).2; simp only [maxLen] at this; omega) (by decide)) ?_
     rintro e w ⟨rfl, hb⟩
     replace H := H.grow hb; clear hb
     refine ⟨_, rfl, ?_⟩
     clear F a; intro a F
     refine sPk F rfl rfl rfl rfl ?_;clear F a;intro a F
     refine sMv F rfl rfl rfl ?_;clear F a;intro a F
     refine F.split 52 rfl ?_ ?_ <;> (clear F; intro h52 F)
     ·
      refine sFa (f := 1) (k := 36) Tryd.underlying41 rfl Tryd.sizeOf34 rfl rfl F rfl rfl rfl ?_;clear F a;intro a F
      refine sIa (j := 0) Tryd.underlying34 Tryd.sizeOf5 F rfl rfl rfl rfl ?_ ?_
      focus (first | omega | decide | (simp; omega))
      clear F a; intro a F
      refine sLd Tryd.isAgg5 F rfl rfl rfl (H.cellB 6 rfl (by omega)) ?_;clear F a;intro a F
      refine sBin F rfl rfl rfl rfl (bEqlB (y := 0)) ?_;clear F a;intro a F
      refine sPk F rfl rfl rfl rfl ?_;clear F a;intro a F
      refine sMv F rfl rfl rfl ?_;clear F a;intro a F
      refine F.split 58 rfl ?_ ?_ <;> (clear F; intro h58 F)
      ·
       replace h58 := beqT h58
       refine sLrB Tryd.underlying41 rfl Tryd.sizeOf41 F rfl rfl rfl (H.whole 6 rfl) ?_;clear F a;intro a F
       refine sCall Tryd.call15 F rfl rfl rfl (seen_any _ 0 0 _ (by decide) (by decide)) ?_
       rintro e w ⟨rfl, hb⟩
       replace H := H.grow hb; clear hb
       refine ⟨_, rfl, ?_⟩
       clear F a; intro a F
       refine sBin F rfl rfl rfl rfl (bEqlB (y := 1)) ?_;clear F a;intro a F
       refine sPk F rfl rfl rfl rfl ?_;clear F a;intro a F
       refine sMv F rfl rfl rfl ?_;clear F a;intro a F
       refine F.split 63 rfl ?_ ?_ <;> (clear F; intro h63 F)
       ·
        replace h63 := beqT h63
        refine sLrB Tryd.underlying41 rfl Tryd.sizeOf41 F rfl rfl rfl (H.whole 6 rfl) ?_;clear F a;intro a F
        refine sCall Tryd.call15 F rfl rfl rfl (seen_any _ 1 0 _ (by decide) (by decide)) ?_
        rintro e w ⟨rfl, hb⟩
        replace H := H.grow hb; clear hb
        refine ⟨_, rfl, ?_⟩
        clear F a; intro a F
        refine sBin F rfl rfl rfl rfl (bEqlB (y := 0)) ?_;clear F a;intro a F
        refine sPk F rfl rfl rfl rfl ?_;clear F a;intro a F
        refine sMv F rfl rfl rfl ?_;clear F a;intro a F
        refine F.split 68 rfl ?_ ?_ <;> (clear F; intro h68 F)
        ·
         replace h68 := beqT h68
         refine sBs H Tryd.underlying79 Tryd.sizeOf3 Tryd.zeroValue3 rfl F rfl rfl rfl rfl rfl ?_
         clear F a H; intro b69 a w F H
         refine sCall Tryd.call32 F rfl rfl rfl (playsM_any none 0 [] 0 1 _ 6 [0, 0, -1, 1, 1, -2] _ (hN.own H) (fun j cs h => by simp at h) (by decide) (RowsAt.ofRange (sz := 1) (rows := intZ [0, 0, -1, 1, 1, -2]) (H.whole 0 rfl) (intZ_one _)) (by decide) (by decide)) ?_
         rintro e w ⟨rfl, hb⟩
         replace H := H.grow hb; clear hb
         refine ⟨_, rfl, ?_⟩
         clear F a; intro a F
         refine sPk F rfl rfl rfl rfl ?_;clear F a;intro a F
         refine sMv F rfl rfl rfl ?_;clear F a;intro a F
         refine F.split 72 rfl ?_ ?_ <;> (clear F; intro h72 F)
         ·
          refine sBs H Tryd.underlying23 Tryd.sizeOf5 Tryd.zeroValue5 rfl F rfl rfl rfl rfl rfl ?_
          clear F a H; intro b73 a w F H
          refine sBs H Tryd.underlying79 Tryd.sizeOf3 Tryd.zeroValue3 rfl F rfl rfl rfl rfl rfl ?_
          clear F a H; intro b74 a w F H
          refine sCall Tryd.call32 F rfl rfl rfl (playsM_any _ 4 [0, 2, 0, 1] 0 0 _ 6 [0, 1, 0, 1, -1, -2] _ (hN.own H) (RowsAt.ofRange (sz := 1) (rows := [[Go.Proofs.YtjephfjnohgcbaaDoor.b8 0], [Go.Proofs.YtjephfjnohgcbaaDoor.b8 2], [Go.Proofs.YtjephfjnohgcbaaDoor.b8 0], [Go.Proofs.YtjephfjnohgcbaaDoor.b8 1]]) (H.whole 1 rfl) (by simp)) (by decide) (RowsAt.ofRange (sz := 1) (rows := intZ [0, 1, 0, 1, -1, -2]) (H.whole 0 rfl) (intZ_one _)) (by decide) (by decide)) ?_
          rintro e w ⟨rfl, hb⟩
          replace H := H.grow hb; clear hb
          refine ⟨_, rfl, ?_⟩
          clear F a; intro a F
          refine sPk F rfl rfl rfl rfl ?_;clear F a;intro a F
          refine sAs F rfl rfl rfl ?_;clear F a;intro a F
          refine sNil ?_
          refine hK7 _ _ ?_; clear hK7
          refine wp_ret ?_
          refine bRet Tryd.results12 F rfl ?_
          exact ⟨retB (by kernel_rfl), H.below⟩
         ·
          exact notEq (by kernel_rfl) h72
        ·
         replace h68 := beqF h68
         exact absurd (by kernel_rfl) h68
       ·
        replace h63 := beqF h63
        exact absurd (by kernel_rfl) h63
      ·
       replace h58 := beqF h58
       exact absurd (by kernel_rfl) h58
     ·
      exact notEq (by kernel_rfl) h52
    ·
     exact notEq (by kernel_rfl) h44
   ·
    replace h38 := beqF h38
    exact absurd (by kernel_rfl) h38
  ·
   replace h34 := beqF h34
   exact absurd (by kernel_rfl) h34
end Go.Proofs.YtjephfjnohgcbaaDoor
