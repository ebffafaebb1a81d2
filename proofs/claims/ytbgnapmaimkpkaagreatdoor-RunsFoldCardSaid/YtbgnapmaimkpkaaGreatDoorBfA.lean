/-
  WALK2. Package buffer: known, bare, Seen. Conditions: the thread and the location are in range.
-/
import Derived.Test.YtbgnapmaimkpkaaGreatDoorBfP
import Derived.Test.YtbgnapmaimkpkaaGreatDoorVcU1
set_option linter.unusedSimpArgs false
set_option linter.unusedVariables false
namespace Go.Proofs.YtbgnapmaimkpkaaGreatDoor
open Go.Proofs.Tryz
open Go.RowKit
set_option maxRecDepth 100000

theorem known_any (m : UInt8) (w0 : World) : Calls Tryz.prog 57 #[Go.Proofs.YtbgnapmaimkpkaaGreatDoor.b8 m] w0 fun e w' => e = .returned (.bool (knownM m)) ∧ Below w0.heap.size w0 w' := by
  have H := Own.start w0 none
  refine enterF func57 rfl ntmps57 rfl (fun a F => ?_);refine cSR fun K1 hK1=>sAs F rfl rfl rfl (qNK hK1 (qSR fun K2 hK2=>qMv rfl rfl rfl (qBin rfl rfl rfl rfl (bGeqB (y := 1)) (qMv rfl rfl rfl ?_))));clear hK1;clear F a;intro a F
  refine F.split 5 rfl ?_ ?_ <;> (clear F; intro h5 F)
  ·
   replace h5 := of_decide_eq_true h5;refine sMv F rfl rfl rfl (qBin rfl rfl rfl rfl (bLeqB (y := 3)) (qPk rfl rfl rfl rfl (qAs rfl rfl rfl (qNK hK2 ?_))));clear hK2;clear F a;intro a F;refine wp_ret ?_;refine bRet results57 F rfl ?_
   exact ⟨by rw [knownM]; simp_all, H.below⟩
  replace h5 := of_decide_eq_false h5;refine sSk F rfl rfl (qSk rfl rfl (qPk rfl rfl rfl rfl (qAs rfl rfl rfl (qNK hK2 ?_))));clear hK2;clear F a;intro a F;refine wp_ret ?_;refine bRet results57 F rfl ?_
  exact ⟨by rw [knownM]; simp_all, H.below⟩
theorem bare_any (s : By) (w0 : World) : Calls Tryz.prog 104 #[.agg (bs 142 s).toArray] w0 fun e w' => e = .returned (.agg (bs 142 (bareP s)).toArray) ∧ Below w0.heap.size w0 w' := by
  have H := Own.start w0 none
  refine enterF func104 rfl ntmps104 rfl (fun a F => ?_);refine cSR fun K1 hK1=>?_;refine sBxB H F rfl rfl rfl ?_;clear F a H; intro b1 a w F H;refine sAlB H zB70 F rfl rfl ?_;clear F a H; intro b2 a w F H;refine nK hK1 (cSR fun K2 hK2=>sFa (f := 0) (k := 0) underlying70 rfl sizeOf63 rfl rfl F rfl rfl rfl (qLrB underlying63 rfl sizeOf63 rfl rfl rfl (H.rangeB0 1 36 rfl (by omega)) (qFa (f := 1) (k := 36) underlying70 rfl sizeOf45 rfl rfl rfl rfl rfl (qLrB underlying45 rfl sizeOf45 rfl rfl rfl (H.rangeB 1 _ 6 rfl (by omega)) (qBdB (places := [(0, 36), (36, 6), (42, 96), (138, 4)]) zB70 underlying70 (by kernel_rfl) rfl rfl rfl (FillB.row rfl rfl (FillB.row rfl rfl FillB.nil)) ?_)))));clear hK1;clear F a;intro a F;refine sSrB H 0 sizeOf70 F rfl rfl rfl rfl (by omega) ?_;clear H; intro w H;rw [lay_all] at H;refine nK hK2 ?_;clear hK2;refine wp_ret ?_;refine bRetB results104 F rfl underlying70 rfl sizeOf70 H 0 rfl ?_
  refine ⟨retB1 fun i _ => ?_, H.below⟩
  simp only [lay, cut, bareP, zb]
  split <;> split <;> (try split) <;> first | rfl | (congr 1; omega) | omega
theorem seen_any (s : By) (t : Nat) (loc : UInt8) (w0 : World) (ht : t < 4) (hl : loc.toNat < 6) : Calls Tryz.prog 109 #[.agg (bs 142 s).toArray, .int .i64 (t : Int), Go.Proofs.YtbgnapmaimkpkaaGreatDoor.b8 loc] w0 fun e w' => e = .returned (Go.Proofs.YtbgnapmaimkpkaaGreatDoor.b8 (seenP s t loc)) ∧ Below w0.heap.size w0 w' := by
  have hmy := (s (138 + t)).toNat_lt
  have H := Own.start w0 none
  refine enterF func109 rfl ntmps109 rfl (fun a F => ?_);refine cSR fun K1 hK1=>?_;refine sBxB H F rfl rfl rfl ?_;clear F a H; intro b3 a w F H;refine sAs F rfl rfl rfl (qNK hK1 ?_);clear hK1;clear F a;intro a F;refine cSeq (fun K2 hK2 => ?_);refine cSR fun K3 hK3=>sMv F rfl rfl rfl (qBin rfl rfl rfl rfl bLss (qMv rfl rfl rfl ?_));clear F a;intro a F
  refine F.split 10 rfl ?_ ?_ <;> (clear F; intro h10 F)
  ·
   replace h10 := of_decide_eq_true h10
   exact absurd h10 (by omega)
  replace h10 := of_decide_eq_false h10;refine sMv F rfl rfl rfl (qBin rfl rfl rfl rfl bGeq (qPk rfl rfl rfl rfl (qMv rfl rfl rfl ?_)));clear F a;intro a F
  refine F.split 14 rfl ?_ ?_ <;> (clear F; intro h14 F)
  ·
   replace h14 := of_decide_eq_true h14
   exact absurd h14 (by omega)
  replace h14 := of_decide_eq_false h14;refine sMv F rfl rfl rfl (qCv underlying5 underlying3 rfl rfl rfl (wrapB _) (qBin rfl rfl rfl rfl bGeq (qPk rfl rfl rfl rfl (qNK hK3 ?_))));clear hK3;clear F a;intro a F
  refine cIf F rfl (fun h18 => ?_) (fun h18 => ?_)
  ·
   replace h18 := of_decide_eq_true h18
   exact absurd h18 (by omega)
  replace h18 := of_decide_eq_false h18;refine wp_skip (hK2 _ _ ?_);clear hK2;refine cSeq (fun K4 hK4 => ?_);refine cSR fun K5 hK5=>sMv F rfl rfl rfl (qFa (f := 3) (k := 138) underlying70 rfl sizeOf68 rfl rfl rfl rfl rfl ?_);clear F a;intro a F
  refine sIa1 underlying68 sizeOf5 F rfl rfl rfl rfl ?_ ?_
  focus (first | omega | decide | (simp; omega))
  clear F a; intro a F;refine sLd isAgg5 F rfl rfl rfl (H.cellB 0 rfl (by omega)) (qCv underlying5 underlying3 rfl rfl rfl (wrapB _) (qMinN (j := 12) rfl rfl rfl rfl ?_));clear F a;intro a F
  refine sBin F rfl rfl rfl rfl (bSubI ?_) ?_
  focus omega
  clear F a; intro a F;refine sAs F rfl rfl rfl (qNK hK5 ?_);clear hK5;clear F a;intro a F;refine wp_block ?_
  refine cLoopR [1, 2, 3] (fun m ups w => ∃ k : Nat, m = k ∧ ups = [(7, .int .i64 (((k : Nat) : Int) - 1))] ∧ k ≤ 12 ∧ seenP s t loc = seenN s t loc k ∧ Own w0 none w [.blk b3 (bs 142 s) 70]) F (min (manyB s t) 12) [(7, .int .i64 (((min (manyB s t) 12 : Nat) : Int) - 1))] (by repeat (first | exact SubR.nil | (apply SubR.cons; · rfl))) ?_ ?_ ?_
  · exact ⟨min (manyB s t) 12, rfl, rfl, by omega, rfl, H.sel [0] rfl rfl⟩
  · repeat (first | exact trivial | refine Le.cons rfl ?_)
  clear F
  clear H
  intro m ups a w hI F
  obtain ⟨k, rfl, rfl, hk, hs, H⟩ := hI
  refine cSeq (fun K6 hK6 => ?_);refine cSR fun K7 hK7=>sMv F rfl rfl rfl (qBin rfl rfl rfl rfl bGeq (qNK hK7 ?_));clear hK7;clear F a;intro a F
  refine cIf F rfl (fun h27 => ?_) (fun h27 => ?_)
  ·
   replace h27 := of_decide_eq_true h27
   obtain ⟨k', rfl⟩ : ∃ q, m = q + 1 := ⟨m - 1, by omega⟩
   rw [show ((k' + 1 : Nat) : Int) - 1 = ((k' : Nat) : Int) by omega] at F;rw [seenN] at hs;refine wp_skip (hK6 _ _ ?_);clear hK6;refine cSeq (fun K8 hK8 => ?_);refine wp_block ?_;refine cSR fun K9 hK9=>sMv F rfl rfl rfl (qMv rfl rfl rfl (qFa (f := 2) (k := 42) underlying70 rfl sizeOf67 rfl rfl rfl rfl rfl ?_));clear F a;intro a F
   refine sIa underlying67 sizeOf66 F rfl rfl rfl rfl ?_ ?_
   focus (first | omega | decide | (simp; omega))
   clear F a; intro a F
   refine sIa underlying66 sizeOf65 F rfl rfl rfl rfl ?_ ?_
   focus (first | omega | decide | (simp; omega))
   clear F a; intro a F;refine sFaZ (f := 0) underlying65 rfl sizeOf5 rfl rfl F rfl rfl rfl (qLd isAgg5 rfl rfl rfl (H.cellB 0 rfl (by omega)) (qMv rfl rfl rfl (qBin rfl rfl rfl rfl bEqlB (qNK hK9 ?_))));clear hK9;clear F a;intro a F
   refine cIf F rfl (fun h38 => ?_) (fun h38 => ?_)
   ·
    replace h38 := beqT h38;refine cSR fun K10 hK10=>sMv F rfl rfl rfl (qMv rfl rfl rfl (qFa (f := 2) (k := 42) underlying70 rfl sizeOf67 rfl rfl rfl rfl rfl ?_));clear F a;intro a F
    refine sIa underlying67 sizeOf66 F rfl rfl rfl rfl ?_ ?_
    focus (first | omega | decide | (simp; omega))
    clear F a; intro a F
    refine sIa underlying66 sizeOf65 F rfl rfl rfl rfl ?_ ?_
    focus (first | omega | decide | (simp; omega))
    clear F a; intro a F;refine sFa (f := 1) (k := _ + 1) underlying65 rfl sizeOf5 rfl rfl F rfl rfl rfl (qLd isAgg5 rfl rfl rfl (H.cellB 0 rfl (by omega)) (qAs rfl rfl rfl (qNK hK10 ?_)));clear hK10;clear F a;intro a F;refine wp_ret ?_;simp only [Exit.inBlock, Exit.then];refine bRet results109 F rfl ?_
    first
      | exact ⟨by rw [hs, if_pos (show bLoc s t k' = loc from h38)]; rfl, H.below⟩
      | exact ⟨by rw [hs]; rfl, H.below⟩
   replace h38 := beqF h38;refine wp_skip (hK8 _ _ (cReg (sMv F rfl rfl rfl ?_)));clear hK8;clear F a;intro a F
   refine sBin F rfl rfl rfl rfl (bSubI ?_) ?_
   focus omega
   clear F a; intro a F;refine sAs F rfl rfl rfl ?_;clear F a;intro a F;refine sNil ?_
   exact ⟨k', by omega, _, ⟨k', rfl, rfl, by omega, by rw [hs, if_neg (show ¬ bLoc s t k' = loc from h38)], H.sel [0] rfl rfl⟩, F.to (by repeat (first | exact trivial | refine Le.cons rfl ?_))⟩
  replace h27 := of_decide_eq_false h27
  obtain rfl : m = 0 := by omega
  refine wp_exit ?_;refine hK4 _ _ (cSR fun K11 hK11=>sMv F rfl rfl rfl (qFa (f := 1) (k := 36) underlying70 rfl sizeOf45 rfl rfl rfl rfl rfl ?_));clear hK4;clear F a;intro a F
  refine sIa1 underlying45 sizeOf5 F rfl rfl rfl rfl ?_ ?_
  focus (first | omega | decide | (simp; omega))
  clear F a; intro a F;refine sLd isAgg5 F rfl rfl rfl (H.cellB 0 rfl (by omega)) (qAs rfl rfl rfl (qNK hK11 ?_));clear hK11;clear F a;intro a F;refine wp_ret ?_;refine bRet results109 F rfl ?_
  first
    | exact ⟨by rw [hs, if_pos (show bLoc s t k' = loc from h38)]; rfl, H.below⟩
    | exact ⟨by rw [hs]; rfl, H.below⟩
end Go.Proofs.YtbgnapmaimkpkaaGreatDoor
