/-
  WALK2. Chapter 06: PrintUnlike answers true. Conditions: the arguments lie in memory, names no longer than memory bears; the laid table of powers of ten.
-/
import Derived.Test.YtkchaoajegkadaaGreatDoorJn20
import Derived.Test.YtkchaoajegkadaaGreatDoorJn21
import Derived.Test.YtkchaoajegkadaaGreatDoorKtH
set_option linter.unusedSimpArgs false
set_option linter.unusedVariables false
namespace Go.Proofs.YtkchaoajegkadaaGreatDoor
open Go.Proofs.Tryz
open Go.RowKit
set_option maxRecDepth 100000
theorem same_boolE {s t : ByteArray} {sb : Bool} {X : Prop} (h1 : s = t ↔ X) (h2 : sb = true ↔ X) : (s.toList == t.toList) = sb := by
  rw [Bool.eq_iff_iff, h2, ← h1, beq_iff_eq]
  exact ⟨eq_of_toList, fun e => by rw [e]⟩
theorem line_same {locs : List ByteArray} {x y : Ins} {s t : ByteArray} (h : LineAns locs x s 0) (k : LineAns locs y t 0) : s = t ↔ x = y := by
  rcases h with ⟨_, _, h⟩ | ⟨_, _, _, h⟩ | ⟨h1, h2, h3, _⟩
  · cases h
  · cases h
  rcases k with ⟨_, _, k⟩ | ⟨_, _, _, k⟩ | ⟨k1, k2, k3, _⟩
  · cases k
  · cases k
  constructor
  · intro e
    rw [h3, k3] at e;rw [e] at h2
    exact Sum.inr.inj (h2.symm.trans k2)
  · rintro rfl
    rw [h3, k3]
theorem cond_same {locs : List ByteArray} {x y : Cnd} {s t : ByteArray} (h : CondAns locs x s 0) (k : CondAns locs y t 0) : s = t ↔ x = y := by
  rcases h with ⟨_, _, h⟩ | ⟨_, _, _, h⟩ | ⟨h1, h2, h3, _⟩
  · cases h
  · cases h
  rcases k with ⟨_, _, k⟩ | ⟨_, _, _, k⟩ | ⟨k1, k2, k3, _⟩
  · cases k
  · cases k
  constructor
  · intro e
    rw [h3, k3] at e;rw [e] at h2
    exact Sum.inr.inj (h2.symm.trans k2)
  · rintro rfl
    rw [h3, k3]
theorem ceq_iff {u v : Ins} : ceq u.cells v.cells = true ↔ u = v := ⟨ceq_ins, fun e => by rw [e, ceqI]⟩
theorem bEqI2 {x y : Operand} {u v : Ins} : BinR Tryz.prog .eql 44 x y (.agg u.cells.toArray) (.agg v.cells.toArray) (.bool (ceq u.cells v.cells)) :=
  bEqT (x' := x) (y' := y) eTI (by kernel_rfl) (by decide) (fitsI u) (fitsI v)
set_option maxHeartbeats 8000000 in
theorem printUnlike_any {w0 : World} (x1 y1 : Ins) {cs1 cs2 : List Value} {c1 c2 : Cnd} {g1 g2 : Nat} {locs : List ByteArray} {LA : Option Addr} {LC : Nat} (hc1 : CapAt w0 g1 cs1 c1) (hc2 : CapAt w0 g2 cs2 c2) (hN : StrsAt w0 LA locs) (hl : locs.length ≤ 9223372036854775807) (hs : ∀ s ∈ locs, s.size ≤ 140737488351232) (hT : TenAt w0) :
    Calls Tryz.prog 5 #[.agg x1.cells.toArray, .agg y1.cells.toArray, .agg cs1.toArray, .agg cs2.toArray, .slice LA locs.length LC] w0 fun e w' => e = .returned (.bool true) ∧ Below w0.heap.size w0 w' := by
  have hd1 := hc1
  have hd2 := hc2
  obtain ⟨a1, a2, a3, a4, a5, a6, a7, rfl⟩ := condShape hc1.at
  obtain ⟨e1, e2, e3, e4, e5, e6, e7, rfl⟩ := condShape hc2.at
  have H := Own.start w0 none
  refine enterF func5 rfl ntmps5 rfl (fun a F => ?_);refine cSR fun K1 hK1=>?_;refine sBx H F rfl rfl rfl ?_;clear F a H; intro b5 a w F H;refine sBx H F rfl rfl rfl ?_;clear F a H; intro b6 a w F H;refine sBx H F rfl rfl rfl ?_;clear F a H; intro b7 a w F H;refine sBx H F rfl rfl rfl ?_;clear F a H; intro b8 a w F H;refine sAs F rfl rfl rfl (qNK hK1 ?_);clear hK1;clear F a;intro a F;refine cSeq (fun K2 hK2 => ?_);refine cSR fun K3 hK3=>?_;refine sCall call7 F rfl rfl rfl (awake6_any _ (hT.below H.below)) ?_;rintro e w ⟨rfl, hb⟩;replace H := H.grow hb; clear hb;refine ⟨_, rfl, ?_⟩;clear F a; intro a F;refine sNot F rfl rfl rfl (qNK hK3 ?_);clear hK3;clear F a;intro a F
  refine cIf F rfl (fun h20 => ?_) (fun h20 => ?_)
  ·
   replace h20 := notT h20
   cases h20
  replace h20 := notF h20;refine wp_skip (hK2 _ _ ?_);clear hK2;refine cSeq (fun K4 hK4 => ?_);refine cSR fun K5 hK5=>?_
  refine sLr underlying27 rfl ?si F rfl rfl rfl (H.whole 1 rfl) ?_
  case si => exact info_size sizeOf27
  clear F a; intro a F;refine sCall call13 F rfl rfl rfl (sizeCond_any g1 400 _ c1 _ (hd1.own H) (by omega) (by omega)) ?_;rintro e w ⟨n22, rfl, _, _, hb⟩;replace H := H.grow hb; clear hb;refine ⟨_, rfl, ?_⟩;clear F a; intro a F;refine sBin F rfl rfl rfl rfl bGeq (qMv rfl rfl rfl ?_);clear F a;intro a F
  refine F.split 24 rfl ?_ ?_ <;> (clear F; intro h24 F)
  ·
   replace h24 := of_decide_eq_true h24;refine sSk F rfl rfl (qSk rfl rfl (qSk rfl rfl (qPk rfl rfl rfl rfl (qMv rfl rfl rfl (qSk rfl rfl (qSk rfl rfl (qSk rfl rfl (qPk rfl rfl rfl rfl (qMv rfl rfl rfl (qSk rfl rfl (qSk rfl rfl (qSk rfl rfl (qPk rfl rfl rfl rfl (qNK hK5 ?_))))))))))))));clear hK5;clear F a;intro a F;refine cIfT F rfl ?_;refine cSR fun K6 hK6=>sAs F rfl rfl rfl (qNK hK6 ?_);clear hK6;clear F a;intro a F;refine wp_ret ?_;simp only [Exit.then];refine bRet results5 F rfl ?_
   first
   | exact ⟨rfl, H.below⟩
   | (have z54 : n54 = 0 := by first | exact h80 | simpa using h80 | assumption
      have z60 : n60 = 0 := by first | exact h84 | simpa using h84 | assumption
      have hz : (s54.toList == s60.toList) = s90 := same_boolE (cond_same (z54 ▸ h54) (z60 ▸ h60)) h90
      exact ⟨by rw [hz, beq_self_eq_true], H.below⟩)
  replace h24 := of_decide_eq_false h24
  refine sLr underlying27 rfl ?si F rfl rfl rfl (H.whole 0 rfl) ?_
  case si => exact info_size sizeOf27
  clear F a; intro a F;refine sCall call13 F rfl rfl rfl (sizeCond_any g2 400 _ c2 _ (hd2.own H) (by omega) (by omega)) ?_;rintro e w ⟨n26, rfl, _, _, hb⟩;replace H := H.grow hb; clear hb;refine ⟨_, rfl, ?_⟩;clear F a; intro a F;refine sBin F rfl rfl rfl rfl bGeq (qPk rfl rfl rfl rfl (qMv rfl rfl rfl ?_));clear F a;intro a F
  refine F.split 29 rfl ?_ ?_ <;> (clear F; intro h29 F)
  ·
   replace h29 := of_decide_eq_true h29;refine sSk F rfl rfl (qSk rfl rfl (qSk rfl rfl (qPk rfl rfl rfl rfl (qMv rfl rfl rfl (qSk rfl rfl (qSk rfl rfl (qSk rfl rfl (qPk rfl rfl rfl rfl (qNK hK5 ?_)))))))));clear hK5;clear F a;intro a F;refine cIfT F rfl ?_;refine cSR fun K7 hK7=>sAs F rfl rfl rfl (qNK hK7 ?_);clear hK7;clear F a;intro a F;refine wp_ret ?_;simp only [Exit.then];refine bRet results5 F rfl ?_
   first
   | exact ⟨rfl, H.below⟩
   | (have z54 : n54 = 0 := by first | exact h80 | simpa using h80 | assumption
      have z60 : n60 = 0 := by first | exact h84 | simpa using h84 | assumption
      have hz : (s54.toList == s60.toList) = s90 := same_boolE (cond_same (z54 ▸ h54) (z60 ▸ h60)) h90
      exact ⟨by rw [hz, beq_self_eq_true], H.below⟩)
  replace h29 := of_decide_eq_false h29;refine sMv F rfl rfl rfl (qLen underlying22 rfl rfl rfl (qBin rfl rfl rfl rfl bGtr (qPk rfl rfl rfl rfl (qMv rfl rfl rfl ?_))));clear F a;intro a F
  refine F.split 34 rfl ?_ ?_ <;> (clear F; intro h34 F)
  ·
   replace h34 := of_decide_eq_true h34;refine sSk F rfl rfl (qSk rfl rfl (qSk rfl rfl (qPk rfl rfl rfl rfl (qNK hK5 ?_))));clear hK5;clear F a;intro a F;refine cIfT F rfl ?_;refine cSR fun K8 hK8=>sAs F rfl rfl rfl (qNK hK8 ?_);clear hK8;clear F a;intro a F;refine wp_ret ?_;simp only [Exit.then];refine bRet results5 F rfl ?_
   first
   | exact ⟨rfl, H.below⟩
   | (have z54 : n54 = 0 := by first | exact h80 | simpa using h80 | assumption
      have z60 : n60 = 0 := by first | exact h84 | simpa using h84 | assumption
      have hz : (s54.toList == s60.toList) = s90 := same_boolE (cond_same (z54 ▸ h54) (z60 ▸ h60)) h90
      exact ⟨by rw [hz, beq_self_eq_true], H.below⟩)
  replace h34 := of_decide_eq_false h34;refine sMv F rfl rfl rfl ?_;clear F a;intro a F;refine sCall call9 F rfl rfl rfl (size6_any LA LC locs _ (RowsAt.own hN H) hl) ?_;rintro e w ⟨r36, rfl, hb⟩;replace H := H.grow hb; clear hb;refine ⟨_, rfl, ?_⟩;clear F a; intro a F;refine sBin F rfl rfl rfl rfl bGtr (qPk rfl rfl rfl rfl (qNK hK5 ?_));clear hK5;clear F a;intro a F
  refine cIf F rfl (fun h38 => ?_) (fun h38 => ?_)
  ·
   replace h38 := of_decide_eq_true h38;refine cSR fun K9 hK9=>sAs F rfl rfl rfl (qNK hK9 ?_);clear hK9;clear F a;intro a F;refine wp_ret ?_;simp only [Exit.then];refine bRet results5 F rfl ?_
   first
   | exact ⟨rfl, H.below⟩
   | (have z54 : n54 = 0 := by first | exact h80 | simpa using h80 | assumption
      have z60 : n60 = 0 := by first | exact h84 | simpa using h84 | assumption
      have hz : (s54.toList == s60.toList) = s90 := same_boolE (cond_same (z54 ▸ h54) (z60 ▸ h60)) h90
      exact ⟨by rw [hz, beq_self_eq_true], H.below⟩)
  replace h38 := of_decide_eq_false h38;refine wp_skip (hK4 _ _ (cSR fun K10 hK10=>?_));clear hK4
  refine sLr underlying44 rfl ?si F rfl rfl rfl (H.whole 3 rfl) ?_
  case si => exact info_size sizeOf44
  clear F a; intro a F;refine sMv F rfl rfl rfl ?_;clear F a;intro a F;refine sCall call14 F rfl rfl rfl (linePr_any x1 (RowsAt.own hN H) (by omega) hs (hT.below H.below)) ?_;rintro e w ⟨⟨s42, n42, rfl, h42⟩, hb⟩;replace H := H.grow hb; clear hb;refine ⟨_, rfl, ?_⟩;clear F a; intro a F;refine sMv F rfl rfl rfl (qExt rfl rfl rfl rfl (qExt rfl rfl rfl rfl (qAs rfl rfl rfl (qAs rfl rfl rfl (qNK hK10 (qSR fun K11 hK11=>?_))))));clear hK10;clear F a;intro a F
  refine sLr underlying44 rfl ?si F rfl rfl rfl (H.whole 2 rfl) ?_
  case si => exact info_size sizeOf44
  clear F a; intro a F;refine sMv F rfl rfl rfl ?_;clear F a;intro a F;refine sCall call14 F rfl rfl rfl (linePr_any y1 (RowsAt.own hN H) (by omega) hs (hT.below H.below)) ?_;rintro e w ⟨⟨s48, n48, rfl, h48⟩, hb⟩;replace H := H.grow hb; clear hb;refine ⟨_, rfl, ?_⟩;clear F a; intro a F;refine sMv F rfl rfl rfl (qExt rfl rfl rfl rfl (qExt rfl rfl rfl rfl (qAs rfl rfl rfl (qAs rfl rfl rfl (qNK hK11 (qSR fun K12 hK12=>?_))))));clear hK11;clear F a;intro a F
  refine sLr underlying27 rfl ?si F rfl rfl rfl (H.whole 1 rfl) ?_
  case si => exact info_size sizeOf27
  clear F a; intro a F;refine sMv F rfl rfl rfl ?_;clear F a;intro a F;refine sCall call15 F rfl rfl rfl (condPr_any (CondAt.grown H.grown rfl _ _ _ hd1.at) (RowsAt.own hN H) (by omega) hs (hT.below H.below)) ?_;rintro e w ⟨⟨s54, n54, rfl, h54⟩, hb⟩;replace H := H.grow hb; clear hb;refine ⟨_, rfl, ?_⟩;clear F a; intro a F;refine sMv F rfl rfl rfl (qExt rfl rfl rfl rfl (qExt rfl rfl rfl rfl (qAs rfl rfl rfl (qAs rfl rfl rfl (qNK hK12 (qSR fun K13 hK13=>?_))))));clear hK12;clear F a;intro a F
  refine sLr underlying27 rfl ?si F rfl rfl rfl (H.whole 0 rfl) ?_
  case si => exact info_size sizeOf27
  clear F a; intro a F;refine sMv F rfl rfl rfl ?_;clear F a;intro a F;refine sCall call15 F rfl rfl rfl (condPr_any (CondAt.grown H.grown rfl _ _ _ hd2.at) (RowsAt.own hN H) (by omega) hs (hT.below H.below)) ?_;rintro e w ⟨⟨s60, n60, rfl, h60⟩, hb⟩;replace H := H.grow hb; clear hb;refine ⟨_, rfl, ?_⟩;clear F a; intro a F;refine sMv F rfl rfl rfl (qExt rfl rfl rfl rfl (qExt rfl rfl rfl rfl (qAs rfl rfl rfl (qAs rfl rfl rfl (qNK hK13 ?_)))));clear hK13;clear F a;intro a F;refine cSeq (fun K14 hK14 => ?_);refine cSR fun K15 hK15=>sMv F rfl rfl rfl (qBin rfl rfl rfl rfl bEql (qMv rfl rfl rfl ?_));clear F a;intro a F
  refine F.split 65 rfl ?_ ?_ <;> (clear F; intro h65 F)
  ·
   replace h65 := beqT h65
   have z1 : n42 = 0 := h65
   refine sMv F rfl rfl rfl (qBin rfl rfl rfl rfl bEql (qPk rfl rfl rfl rfl (qMv rfl rfl rfl ?_)));clear F a;intro a F
   refine F.split 69 rfl ?_ ?_ <;> (clear F; intro h69 F)
   ·
    replace h69 := beqT h69
    have hsame := line_same (z1 ▸ h42) ((show n48 = 0 by first | exact h69 | simpa using h69) ▸ h48)
    refine sMv F rfl rfl rfl (qMv rfl rfl rfl (qBin rfl rfl rfl rfl bStrEq ?_));clear F a;intro a F
    refine sLr underlying44 rfl ?si F rfl rfl rfl (H.whole 3 rfl) ?_
    case si => exact info_size sizeOf44
    clear F a; intro a F
    refine sLr underlying44 rfl ?si F rfl rfl rfl (H.whole 2 rfl) ?_
    case si => exact info_size sizeOf44
    clear F a; intro a F;refine sBin F rfl rfl rfl rfl bEqI2 (qBin rfl rfl rfl rfl (bBoolNe underlying4) (qPk rfl rfl rfl rfl (qNK hK15 ?_)));clear hK15;clear F a;intro a F
    refine cIf F rfl (fun h77 => ?_) (fun h77 => ?_)
    ·
     replace h77 := nbeqT h77
     exact absurd (same_boolE hsame ceq_iff) (by simpa using h77)
    replace h77 := nbeqF h77;refine wp_skip (hK14 _ _ (cSR fun K16 hK16=>sMv F rfl rfl rfl (qBin rfl rfl rfl rfl bNeq (qMv rfl rfl rfl ?_))));clear hK14;clear F a;intro a F
    refine F.split 80 rfl ?_ ?_ <;> (clear F; intro h80 F)
    ·
     replace h80 := bneT h80;refine sSk F rfl rfl (qSk rfl rfl (qPk rfl rfl rfl rfl (qMv rfl rfl rfl (qSk rfl rfl (qSk rfl rfl (qSk rfl rfl (qSk rfl rfl (qSk rfl rfl (qSk rfl rfl (qSk rfl rfl (qPk rfl rfl rfl rfl (qAs rfl rfl rfl (qNK hK16 ?_)))))))))))));clear hK16;clear F a;intro a F;refine wp_ret ?_;refine bRet results5 F rfl ?_
     first
     | exact ⟨rfl, H.below⟩
     | (have z54 : n54 = 0 := by first | exact h80 | simpa using h80 | assumption
        have z60 : n60 = 0 := by first | exact h84 | simpa using h84 | assumption
        have hz : (s54.toList == s60.toList) = s90 := same_boolE (cond_same (z54 ▸ h54) (z60 ▸ h60)) h90
        exact ⟨by rw [hz, beq_self_eq_true], H.below⟩)
    replace h80 := bneF h80;refine sMv F rfl rfl rfl (qBin rfl rfl rfl rfl bNeq (qPk rfl rfl rfl rfl (qMv rfl rfl rfl ?_)));clear F a;intro a F
    refine F.split 84 rfl ?_ ?_ <;> (clear F; intro h84 F)
    ·
     replace h84 := bneT h84;refine sSk F rfl rfl (qSk rfl rfl (qSk rfl rfl (qSk rfl rfl (qSk rfl rfl (qSk rfl rfl (qSk rfl rfl (qPk rfl rfl rfl rfl (qAs rfl rfl rfl (qNK hK16 ?_)))))))));clear hK16;clear F a;intro a F;refine wp_ret ?_;refine bRet results5 F rfl ?_
     first
     | exact ⟨rfl, H.below⟩
     | (have z54 : n54 = 0 := by first | exact h80 | simpa using h80 | assumption
        have z60 : n60 = 0 := by first | exact h84 | simpa using h84 | assumption
        have hz : (s54.toList == s60.toList) = s90 := same_boolE (cond_same (z54 ▸ h54) (z60 ▸ h60)) h90
        exact ⟨by rw [hz, beq_self_eq_true], H.below⟩)
    replace h84 := bneF h84;refine sMv F rfl rfl rfl (qMv rfl rfl rfl (qBin rfl rfl rfl rfl bStrEq ?_));clear F a;intro a F
    refine sLr underlying27 rfl ?si F rfl rfl rfl (H.whole 1 rfl) ?_
    case si => exact info_size sizeOf27
    clear F a; intro a F
    refine sLr underlying27 rfl ?si F rfl rfl rfl (H.whole 0 rfl) ?_
    case si => exact info_size sizeOf27
    clear F a; intro a F;refine sCall call16 F rfl rfl rfl (sameCond2 g1 g2 _ _ c1 c2 _ (CondAt.grown H.grown rfl _ _ _ hd1.at) (CondAt.grown H.grown rfl _ _ _ hd2.at)) ?_;rintro e w ⟨⟨s90, rfl, h90⟩, hb⟩;replace H := H.grow hb; clear hb;refine ⟨_, rfl, ?_⟩;clear F a; intro a F;refine sBin F rfl rfl rfl rfl (bBoolEq underlying4) (qPk rfl rfl rfl rfl (qAs rfl rfl rfl (qNK hK16 ?_)));clear hK16;clear F a;intro a F;refine wp_ret ?_;refine bRet results5 F rfl ?_
    first
    | exact ⟨rfl, H.below⟩
    | (have z54 : n54 = 0 := by first | exact h80 | simpa using h80 | assumption
       have z60 : n60 = 0 := by first | exact h84 | simpa using h84 | assumption
       have hz : (s54.toList == s60.toList) = s90 := same_boolE (cond_same (z54 ▸ h54) (z60 ▸ h60)) h90
       exact ⟨by rw [hz, beq_self_eq_true], H.below⟩)
   replace h69 := beqF h69;refine sSk F rfl rfl (qSk rfl rfl (qSk rfl rfl (qSk rfl rfl (qSk rfl rfl (qSk rfl rfl (qSk rfl rfl (qPk rfl rfl rfl rfl (qNK hK15 ?_))))))));clear hK15;clear F a;intro a F;refine cIfF F rfl ?_;refine wp_skip (hK14 _ _ (cSR fun K17 hK17=>sMv F rfl rfl rfl (qBin rfl rfl rfl rfl bNeq (qMv rfl rfl rfl ?_))));clear hK14;clear F a;intro a F
   refine F.split 80 rfl ?_ ?_ <;> (clear F; intro h80 F)
   ·
    replace h80 := bneT h80;refine sSk F rfl rfl (qSk rfl rfl (qPk rfl rfl rfl rfl (qMv rfl rfl rfl (qSk rfl rfl (qSk rfl rfl (qSk rfl rfl (qSk rfl rfl (qSk rfl rfl (qSk rfl rfl (qSk rfl rfl (qPk rfl rfl rfl rfl (qAs rfl rfl rfl (qNK hK17 ?_)))))))))))));clear hK17;clear F a;intro a F;refine wp_ret ?_;refine bRet results5 F rfl ?_
    first
    | exact ⟨rfl, H.below⟩
    | (have z54 : n54 = 0 := by first | exact h80 | simpa using h80 | assumption
       have z60 : n60 = 0 := by first | exact h84 | simpa using h84 | assumption
       have hz : (s54.toList == s60.toList) = s90 := same_boolE (cond_same (z54 ▸ h54) (z60 ▸ h60)) h90
       exact ⟨by rw [hz, beq_self_eq_true], H.below⟩)
   replace h80 := bneF h80;refine sMv F rfl rfl rfl (qBin rfl rfl rfl rfl bNeq (qPk rfl rfl rfl rfl (qMv rfl rfl rfl ?_)));clear F a;intro a F
   refine F.split 84 rfl ?_ ?_ <;> (clear F; intro h84 F)
   ·
    replace h84 := bneT h84;refine sSk F rfl rfl (qSk rfl rfl (qSk rfl rfl (qSk rfl rfl (qSk rfl rfl (qSk rfl rfl (qSk rfl rfl (qPk rfl rfl rfl rfl (qAs rfl rfl rfl (qNK hK17 ?_)))))))));clear hK17;clear F a;intro a F;refine wp_ret ?_;refine bRet results5 F rfl ?_
    first
    | exact ⟨rfl, H.below⟩
    | (have z54 : n54 = 0 := by first | exact h80 | simpa using h80 | assumption
       have z60 : n60 = 0 := by first | exact h84 | simpa using h84 | assumption
       have hz : (s54.toList == s60.toList) = s90 := same_boolE (cond_same (z54 ▸ h54) (z60 ▸ h60)) h90
       exact ⟨by rw [hz, beq_self_eq_true], H.below⟩)
   replace h84 := bneF h84;refine sMv F rfl rfl rfl (qMv rfl rfl rfl (qBin rfl rfl rfl rfl bStrEq ?_));clear F a;intro a F
   refine sLr underlying27 rfl ?si F rfl rfl rfl (H.whole 1 rfl) ?_
   case si => exact info_size sizeOf27
   clear F a; intro a F
   refine sLr underlying27 rfl ?si F rfl rfl rfl (H.whole 0 rfl) ?_
   case si => exact info_size sizeOf27
   clear F a; intro a F;refine sCall call16 F rfl rfl rfl (sameCond2 g1 g2 _ _ c1 c2 _ (CondAt.grown H.grown rfl _ _ _ hd1.at) (CondAt.grown H.grown rfl _ _ _ hd2.at)) ?_;rintro e w ⟨⟨s90, rfl, h90⟩, hb⟩;replace H := H.grow hb; clear hb;refine ⟨_, rfl, ?_⟩;clear F a; intro a F;refine sBin F rfl rfl rfl rfl (bBoolEq underlying4) (qPk rfl rfl rfl rfl (qAs rfl rfl rfl (qNK hK17 ?_)));clear hK17;clear F a;intro a F;refine wp_ret ?_;refine bRet results5 F rfl ?_
   first
   | exact ⟨rfl, H.below⟩
   | (have z54 : n54 = 0 := by first | exact h80 | simpa using h80 | assumption
      have z60 : n60 = 0 := by first | exact h84 | simpa using h84 | assumption
      have hz : (s54.toList == s60.toList) = s90 := same_boolE (cond_same (z54 ▸ h54) (z60 ▸ h60)) h90
      exact ⟨by rw [hz, beq_self_eq_true], H.below⟩)
  replace h65 := beqF h65;refine sSk F rfl rfl (qSk rfl rfl (qPk rfl rfl rfl rfl (qMv rfl rfl rfl (qSk rfl rfl (qSk rfl rfl (qSk rfl rfl (qSk rfl rfl (qSk rfl rfl (qSk rfl rfl (qSk rfl rfl (qPk rfl rfl rfl rfl (qNK hK15 ?_))))))))))));clear hK15;clear F a;intro a F;refine cIfF F rfl ?_;refine wp_skip (hK14 _ _ (cSR fun K18 hK18=>sMv F rfl rfl rfl (qBin rfl rfl rfl rfl bNeq (qMv rfl rfl rfl ?_))));clear hK14;clear F a;intro a F
  refine F.split 80 rfl ?_ ?_ <;> (clear F; intro h80 F)
  ·
   replace h80 := bneT h80;refine sSk F rfl rfl (qSk rfl rfl (qPk rfl rfl rfl rfl (qMv rfl rfl rfl (qSk rfl rfl (qSk rfl rfl (qSk rfl rfl (qSk rfl rfl (qSk rfl rfl (qSk rfl rfl (qSk rfl rfl (qPk rfl rfl rfl rfl (qAs rfl rfl rfl (qNK hK18 ?_)))))))))))));clear hK18;clear F a;intro a F;refine wp_ret ?_;refine bRet results5 F rfl ?_
   first
   | exact ⟨rfl, H.below⟩
   | (have z54 : n54 = 0 := by first | exact h80 | simpa using h80 | assumption
      have z60 : n60 = 0 := by first | exact h84 | simpa using h84 | assumption
      have hz : (s54.toList == s60.toList) = s90 := same_boolE (cond_same (z54 ▸ h54) (z60 ▸ h60)) h90
      exact ⟨by rw [hz, beq_self_eq_true], H.below⟩)
  replace h80 := bneF h80;refine sMv F rfl rfl rfl (qBin rfl rfl rfl rfl bNeq (qPk rfl rfl rfl rfl (qMv rfl rfl rfl ?_)));clear F a;intro a F
  refine F.split 84 rfl ?_ ?_ <;> (clear F; intro h84 F)
  ·
   replace h84 := bneT h84;refine sSk F rfl rfl (qSk rfl rfl (qSk rfl rfl (qSk rfl rfl (qSk rfl rfl (qSk rfl rfl (qSk rfl rfl (qPk rfl rfl rfl rfl (qAs rfl rfl rfl (qNK hK18 ?_)))))))));clear hK18;clear F a;intro a F;refine wp_ret ?_;refine bRet results5 F rfl ?_
   first
   | exact ⟨rfl, H.below⟩
   | (have z54 : n54 = 0 := by first | exact h80 | simpa using h80 | assumption
      have z60 : n60 = 0 := by first | exact h84 | simpa using h84 | assumption
      have hz : (s54.toList == s60.toList) = s90 := same_boolE (cond_same (z54 ▸ h54) (z60 ▸ h60)) h90
      exact ⟨by rw [hz, beq_self_eq_true], H.below⟩)
  replace h84 := bneF h84;refine sMv F rfl rfl rfl (qMv rfl rfl rfl (qBin rfl rfl rfl rfl bStrEq ?_));clear F a;intro a F
  refine sLr underlying27 rfl ?si F rfl rfl rfl (H.whole 1 rfl) ?_
  case si => exact info_size sizeOf27
  clear F a; intro a F
  refine sLr underlying27 rfl ?si F rfl rfl rfl (H.whole 0 rfl) ?_
  case si => exact info_size sizeOf27
  clear F a; intro a F;refine sCall call16 F rfl rfl rfl (sameCond2 g1 g2 _ _ c1 c2 _ (CondAt.grown H.grown rfl _ _ _ hd1.at) (CondAt.grown H.grown rfl _ _ _ hd2.at)) ?_;rintro e w ⟨⟨s90, rfl, h90⟩, hb⟩;replace H := H.grow hb; clear hb;refine ⟨_, rfl, ?_⟩;clear F a; intro a F;refine sBin F rfl rfl rfl rfl (bBoolEq underlying4) (qPk rfl rfl rfl rfl (qAs rfl rfl rfl (qNK hK18 ?_)));clear hK18;clear F a;intro a F;refine wp_ret ?_;refine bRet results5 F rfl ?_
  first
  | exact ⟨rfl, H.below⟩
  | (have z54 : n54 = 0 := by first | exact h80 | simpa using h80 | assumption
     have z60 : n60 = 0 := by first | exact h84 | simpa using h84 | assumption
     have hz : (s54.toList == s60.toList) = s90 := same_boolE (cond_same (z54 ▸ h54) (z60 ▸ h60)) h90
     exact ⟨by rw [hz, beq_self_eq_true], H.below⟩)
end Go.Proofs.YtkchaoajegkadaaGreatDoor
