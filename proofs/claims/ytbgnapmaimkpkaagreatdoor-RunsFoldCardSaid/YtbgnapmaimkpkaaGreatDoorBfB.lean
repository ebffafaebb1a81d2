/-
  WALK2. Package buffer: add, drain. Conditions: the thread is in range, its buffer is not full, or not empty.
-/
import Derived.Test.YtbgnapmaimkpkaaGreatDoorBfA
set_option linter.unusedSimpArgs false
set_option linter.unusedVariables false
namespace Go.Proofs.YtbgnapmaimkpkaaGreatDoor
open Go.Proofs.Tryz
open Go.RowKit
set_option maxRecDepth 100000

theorem addAt_pos {m : UInt8} {s : By} {t : Nat} {loc : UInt8} {n : Nat} (h : 0 < n) : addAt m s t loc n = if m = 3 ∧ loc < bLoc s t (n - 1) then addAt m s t loc (n - 1) else n := by
  obtain ⟨k, rfl⟩ : ∃ k, n = k + 1 := ⟨n - 1, by omega⟩
  rw [addAt]
  rfl
theorem addAt_le {m : UInt8} {s : By} {t : Nat} {loc : UInt8} : ∀ n, addAt m s t loc n ≤ n
  | 0 => Nat.le_refl _
  | n + 1 => by
    rw [addAt]
    split
    · exact Nat.le_succ_of_le (addAt_le n)
    · exact Nat.le_refl _
theorem addAt_stop {m : UInt8} {s : By} {t : Nat} {loc : UInt8} {n : Nat} (h : 0 < n → ¬ (m = 3 ∧ loc < bLoc s t (n - 1))) : addAt m s t loc n = n := by
  cases n with
  | zero => rfl
  | succ n => rw [addAt_pos (by omega), if_neg (h (by omega))]
theorem lay_off {s : By} {o a b len n : Nat} (h : len = 0 ∨ (a < n ∧ b < n)) : lay s (o + offA a n 2) len (cut s (o + offA b n 2)) = lay s (o + a * 2) len (cut s (o + b * 2)) := by
  rcases h with rfl | ⟨h1, h2⟩
  · funext i
    unfold lay
    rw [if_neg (by omega), if_neg (by omega)]
  · unfold offA
    rw [if_neg (by omega), if_neg (by omega)]
theorem lay_away {s x : By} {o m i : Nat} (h : ¬ (o ≤ i ∧ i < o + m)) : lay s o m x i = s i := if_neg h
theorem add_form {s st : By} {t a : Nat} (ht : t < 4) (hn : manyB s t ≤ 11) (ha : a ≤ manyB s t) :
    put (lay (lay s (42 + t * 24 + offA (a + 1) 12 2) (((s (138 + t)).toNat + 1 - (a + 1)) * 2) (cut s (42 + t * 24 + offA a 12 2))) (42 + t * 24 + a * 2) 2 st) (138 + t)
      (lay (lay s (42 + t * 24 + offA (a + 1) 12 2) (((s (138 + t)).toNat + 1 - (a + 1)) * 2) (cut s (42 + t * 24 + offA a 12 2))) (42 + t * 24 + a * 2) 2 st (138 + t) + 1) = addR s t a st := by
  have hme : manyB s t = (s (138 + t)).toNat := rfl
  rw [lay_off (by omega), show ((s (138 + t)).toNat + 1 - (a + 1)) * 2 = (manyB s t - a) * 2 by omega, lay_away (by omega), lay_away (by omega)]
  rfl
set_option maxHeartbeats 2000000 in
theorem add_any (mc : UInt8) (s : By) (t : Nat) (st : By) (w0 : World) (ht : t < 4) (hn : manyB s t ≤ 11) : Calls Tryz.prog 111 #[Go.Proofs.YtbgnapmaimkpkaaGreatDoor.b8 mc, .agg (bs 142 s).toArray, .int .i64 (t : Int), .agg (bs 2 st).toArray] w0 fun e w' => e = .returned (.agg (bs 142 (addP mc s t st)).toArray) ∧ Below w0.heap.size w0 w' := by
  have hmy : (s (138 + t)).toNat ≤ 11 := hn
  have hme : manyB s t = (s (138 + t)).toNat := rfl
  have H := Own.start w0 none
  refine enterF func111 rfl ntmps111 rfl (fun a F => ?_);refine cSR fun K1 hK1=>?_;refine sBxB H F rfl rfl rfl ?_;clear F a H; intro b5 a w F H;refine sBxB H F rfl rfl rfl ?_;clear F a H; intro b7 a w F H;refine sAlB H zB70 F rfl rfl ?_;clear F a H; intro b8 a w F H;refine nK hK1 (cSR fun K2 hK2=>sMv F rfl rfl rfl (qFa (f := 3) (k := 138) underlying70 rfl sizeOf68 rfl rfl rfl rfl rfl ?_));clear hK1;clear F a;intro a F
  refine sIa1 underlying68 sizeOf5 F rfl rfl rfl rfl ?_ ?_
  focus (first | omega | decide | (simp; omega))
  clear F a; intro a F;refine sLd isAgg5 F rfl rfl rfl (H.cellB 2 rfl (by omega)) (qCv underlying5 underlying3 rfl rfl rfl (wrapB _) (qAs rfl rfl rfl (qNK hK2 (qSR fun K3 hK3=>qMv rfl rfl rfl (qAs rfl rfl rfl (qNK hK3 ?_))))));clear hK2 hK3;clear F a;intro a F;refine cSeq (fun K4 hK4 => ?_);refine wp_block ?_
  refine cLoopR [0, 2, 5, 7, 8, 9] (fun m ups w => ∃ a : Nat, m = a ∧ ups = [(10, .int .i64 ((a : Nat) : Int))] ∧ a ≤ manyB s t ∧ addAt mc s t (st 0) (manyB s t) = addAt mc s t (st 0) a ∧ Own w0 none w [.blk b8 (bs 142 zb) 70, .blk b7 (bs 2 st) 65, .blk b5 (bs 142 s) 70]) F (manyB s t) [(10, .int .i64 (((s (138 + t)).toNat : Nat) : Int))] (by repeat (first | exact SubR.nil | (apply SubR.cons; · rfl))) ?_ ?_ ?_
  · exact ⟨manyB s t, rfl, rfl, Nat.le_refl _, rfl, H.sel [0, 1, 2] rfl rfl⟩
  · repeat (first | exact trivial | refine Le.cons rfl ?_)
  clear F
  clear H
  intro m ups a w hI F
  obtain ⟨_, rfl, rfl, ha, hs, H⟩ := hI
  refine cSeq (fun K5 hK5 => ?_);refine cSeq (fun K6 hK6 => ?_);refine cRegRO (by kernel_rfl) H ?_;replace H := H.drew;refine eTF 0 rfl (by kernel_rfl) F rfl rfl rfl (fun w=>rMv F rfl) H qq0 (qTF 1 rfl (by kernel_rfl) rfl rfl rfl (fun a F w=>rBin F rfl rfl (bEqlB (y := 3))) H qq0 (qTF 2 rfl (by kernel_rfl) rfl rfl rfl (fun a F w=>rMv F rfl) H qq0 ?_));clear F a;intro a F
  refine F.split 19 rfl ?_ ?_ <;> (clear F; intro h19 F)
  ·
   replace h19 := beqT h19;refine eTF 3 rfl (by kernel_rfl) F rfl rfl rfl (fun w=>rMv F rfl) H qq0 (qTF 4 rfl (by kernel_rfl) rfl rfl rfl (fun a F w=>rBin F rfl rfl bGtr) H qq0 (qTF 5 rfl (by kernel_rfl) rfl rfl rfl (fun a F w=>rPk F rfl rfl) H qq0 (qTF 6 rfl (by kernel_rfl) rfl rfl rfl (fun a F w=>rMv F rfl) H qq0 ?_)));clear F a;intro a F
   refine F.split 23 rfl ?_ ?_ <;> (clear F; intro h23 F)
   ·
    replace h23 := of_decide_eq_true h23;refine eTF 7 rfl (by kernel_rfl) F rfl rfl rfl (fun w=>rMv F rfl) H qq0 (qTF 8 rfl (by kernel_rfl) rfl rfl rfl (fun a F w=>rMv F rfl) H qq0 ?_);clear F a;intro a F
    refine eTakeF (k := 9) (i := 9) rfl (by kernel_rfl) F rfl rfl rfl (fun w => rBin F rfl rfl (bSubN (j := 1) ?_ ?_)) (H.sel [0, 1, 2] rfl rfl) (fun _ _ _ h => h) ?_
    focus omega
    focus omega
    clear F a; intro a F;refine eTF 10 rfl (by kernel_rfl) F rfl rfl rfl (fun w=>rFa (f := 2) (k := 42) underlying70 rfl sizeOf67 rfl rfl F rfl) H qq0 ?_;clear F a;intro a F
    refine eTakeF (k := 11) (i := 11) rfl (by kernel_rfl) F rfl rfl rfl (fun w => rIa underlying67 sizeOf66 F rfl rfl ?_) (H.sel [0, 1, 2] rfl rfl) (fun _ _ _ h => h) ?_
    focus (first | omega | decide | (simp; omega))
    clear F a; intro a F
    refine eTakeF (k := 12) (i := 12) rfl (by kernel_rfl) F rfl rfl rfl (fun w => rIa underlying66 sizeOf65 F rfl rfl ?_) (H.sel [0, 1, 2] rfl rfl) (fun _ _ _ h => h) ?_
    focus (first | omega | decide | (simp; omega))
    clear F a; intro a F;refine eTF 13 rfl (by kernel_rfl) F rfl rfl rfl (fun w=>rFaZ (f := 0) underlying65 rfl sizeOf5 rfl rfl F rfl) H qq0 (qT 14 rfl (by kernel_rfl) rfl rfl rfl rfl (fun a F w H=>rLd isAgg5 F rfl (H.cellB 2 rfl (by omega))) H qq0 (qTF 15 rfl (by kernel_rfl) rfl rfl rfl (fun a F w=>rFa (f := 0) (k := 0) underlying65 rfl sizeOf5 rfl rfl F rfl) H qq0 (qT 16 rfl (by kernel_rfl) rfl rfl rfl rfl (fun a F w H=>rLd isAgg5 F rfl (H.cellB 1 rfl (by omega))) H qq0 (qTF 17 rfl (by kernel_rfl) rfl rfl rfl (fun a F w=>rBin F rfl rfl bGtrB) H qq0 (qTF 18 rfl (by kernel_rfl) rfl rfl rfl (fun a F w=>rPk F rfl rfl) H qq0 ?_)))));clear F a;intro a F;refine eNil (k := 19) (by kernel_rfl) ?_;refine hK6 _ _ ?_;clear hK6
    refine cIf F rfl (fun h35 => ?_) (fun h35 => ?_)
    ·
     replace h35 := of_decide_eq_true h35;refine wp_skip (hK5 _ _ ?_);clear hK5;refine wp_block ?_;refine cReg (sMv F rfl rfl rfl ?_);clear F a;intro a F
     refine sBin F rfl rfl rfl rfl (bSubN (j := 1) ?_ ?_) ?_
     focus omega
     focus omega
     clear F a; intro a F;refine sAs F rfl rfl rfl ?_;clear F a;intro a F;refine sNil ?_
     exact ⟨m - 1, by omega, _, ⟨m - 1, rfl, rfl, by omega, by rw [hs, addAt_pos (by omega), if_pos ⟨by assumption, by assumption⟩], H.sel [0, 1, 2] rfl rfl⟩, F.to (by repeat (first | exact trivial | refine Le.cons rfl ?_))⟩
    replace h35 := of_decide_eq_false h35;refine wp_exit ?_;refine hK4 _ _ ?_;clear hK4;refine cSeq (fun K7 hK7 => ?_);refine cRegRO (by kernel_rfl) H ?_;replace H := H.drew;refine eTF 0 rfl (by kernel_rfl) F rfl rfl rfl (fun w=>rMv F rfl) H qq0 (qTF 1 rfl (by kernel_rfl) rfl rfl rfl (fun a F w=>rFa (f := 2) (k := 42) underlying70 rfl sizeOf67 rfl rfl F rfl) H qq0 ?_);clear F a;intro a F
    refine eTakeF (k := 2) (i := 2) rfl (by kernel_rfl) F rfl rfl rfl (fun w => rIa underlying67 sizeOf66 F rfl rfl ?_) (H.sel [0, 1, 2] rfl rfl) (fun _ _ _ h => h) ?_
    focus (first | omega | decide | (simp; omega))
    clear F a; intro a F;refine eTF 3 rfl (by kernel_rfl) F rfl rfl rfl (fun w=>rMv F rfl) H qq0 ?_;clear F a;intro a F
    refine eTakeF (k := 4) (i := 4) rfl (by kernel_rfl) F rfl rfl rfl (fun w => rBin F rfl rfl (bAddN (j := 1) ?_)) (H.sel [0, 1, 2] rfl rfl) (fun _ _ _ h => h) ?_
    focus omega
    clear F a; intro a F;refine eTF 5 rfl (by kernel_rfl) F rfl rfl rfl (fun w=>rMv F rfl) H qq0 ?_;clear F a;intro a F
    refine eTakeF (k := 6) (i := 6) rfl (by kernel_rfl) F rfl rfl rfl (fun w => rBin F rfl rfl (bAddN (j := 1) ?_)) (H.sel [0, 1, 2] rfl rfl) (fun _ _ _ h => h) ?_
    focus omega
    clear F a; intro a F
    refine eTake (k := 7) (i := 7) rfl (by kernel_rfl) F rfl rfl rfl rfl (fun w H => rSlALH underlying66 sizeOf65 F rfl rfl rfl ?_ ?_) (H.sel [0, 1, 2] rfl rfl) (fun _ _ _ h => h) ?_
    focus (first | omega | decide | (simp; omega))
    focus (first | omega | decide | (simp; omega))
    clear F a; intro a F;refine eTF 8 rfl (by kernel_rfl) F rfl rfl rfl (fun w=>rMv F rfl) H qq0 (qTF 9 rfl (by kernel_rfl) rfl rfl rfl (fun a F w=>rFa (f := 2) (k := 42) underlying70 rfl sizeOf67 rfl rfl F rfl) H qq0 ?_);clear F a;intro a F
    refine eTakeF (k := 10) (i := 10) rfl (by kernel_rfl) F rfl rfl rfl (fun w => rIa underlying67 sizeOf66 F rfl rfl ?_) (H.sel [0, 1, 2] rfl rfl) (fun _ _ _ h => h) ?_
    focus (first | omega | decide | (simp; omega))
    clear F a; intro a F;refine eTF 11 rfl (by kernel_rfl) F rfl rfl rfl (fun w=>rMv F rfl) H qq0 (qTF 12 rfl (by kernel_rfl) rfl rfl rfl (fun a F w=>rMv F rfl) H qq0 ?_);clear F a;intro a F
    refine eTake (k := 13) (i := 13) rfl (by kernel_rfl) F rfl rfl rfl rfl (fun w H => rSlALH underlying66 sizeOf65 F rfl rfl rfl ?_ ?_) (H.sel [0, 1, 2] rfl rfl) (fun _ _ _ h => h) ?_
    focus (first | omega | decide | (simp; omega))
    focus (first | omega | decide | (simp; omega))
    clear F a; intro a F;refine eOne (k := 14) (i := 14) rfl (by kernel_rfl) F rfl (oCpBB H 2 underlying143 sizeOf65 F rfl rfl rfl rfl ?hm ?hd ?hs ?_)
    case hm => first | omega | (unfold offA; split <;> omega)
    case hd => first | omega | (unfold offA; split <;> omega)
    case hs => first | omega | (unfold offA; split <;> omega)
    clear F a H; intro a w F H;refine ePartO (by kernel_rfl) H ?_;refine eNil (k := 15) (by kernel_rfl) ?_;refine hK7 _ _ ?_;clear hK7;refine cSeq (fun K8 hK8 => ?_);refine cRegRO (by kernel_rfl) H ?_;replace H := H.drew;refine eTF 0 rfl (by kernel_rfl) F rfl rfl rfl (fun w=>rMv F rfl) H qq0 (qTF 1 rfl (by kernel_rfl) rfl rfl rfl (fun a F w=>rMv F rfl) H qq0 (qT 2 rfl (by kernel_rfl) rfl rfl rfl rfl (fun a F w H=>rLrB underlying65 rfl sizeOf65 F rfl (H.whole 1 rfl)) H qq0 (qTF 3 rfl (by kernel_rfl) rfl rfl rfl (fun a F w=>rFa (f := 2) (k := 42) underlying70 rfl sizeOf67 rfl rfl F rfl) H qq0 ?_)));clear F a;intro a F
    refine eTakeF (k := 4) (i := 4) rfl (by kernel_rfl) F rfl rfl rfl (fun w => rIa underlying67 sizeOf66 F rfl rfl ?_) (H.sel [0, 1, 2] rfl rfl) (fun _ _ _ h => h) ?_
    focus (first | omega | decide | (simp; omega))
    clear F a; intro a F
    refine eTakeF (k := 5) (i := 5) rfl (by kernel_rfl) F rfl rfl rfl (fun w => rIa underlying66 sizeOf65 F rfl rfl ?_) (H.sel [0, 1, 2] rfl rfl) (fun _ _ _ h => h) ?_
    focus (first | omega | decide | (simp; omega))
    clear F a; intro a F;refine eOne (k := 6) (i := 6) rfl (by kernel_rfl) F rfl (oSrB H 2 sizeOf65 F rfl rfl rfl (by omega) ?_);clear H; intro w H;refine ePartO (by kernel_rfl) H ?_;refine eNil (k := 7) (by kernel_rfl) ?_;refine hK8 _ _ (cSR fun K9 hK9=>sMv F rfl rfl rfl (qFa (f := 3) (k := 138) underlying70 rfl sizeOf68 rfl rfl rfl rfl rfl ?_));clear hK8;clear F a;intro a F
    refine sIa1 underlying68 sizeOf5 F rfl rfl rfl rfl ?_ ?_
    focus (first | omega | decide | (simp; omega))
    clear F a; intro a F;refine sLd isAgg5 F rfl rfl rfl (H.cellB 2 rfl (by omega)) (qBin rfl rfl rfl rfl (bAddB (y := 1)) (qFa (f := 3) (k := 138) underlying70 rfl sizeOf68 rfl rfl rfl rfl rfl ?_));clear F a;intro a F
    refine sIa1 underlying68 sizeOf5 F rfl rfl rfl rfl ?_ ?_
    focus (first | omega | decide | (simp; omega))
    clear F a; intro a F;refine sStB H 2 sizeOf5 F rfl rfl rfl rfl (by omega) ?_;clear H; intro w H;refine nK hK9 (cSR fun K10 hK10=>sLrB underlying70 rfl sizeOf70 F rfl rfl rfl (H.whole 2 rfl) ?_);clear hK9;clear F a;intro a F;refine sSrB H 0 sizeOf70 F rfl rfl rfl rfl (by omega) ?_;clear H; intro w H;rw [lay_all] at H;refine nK hK10 ?_;clear hK10;refine wp_ret ?_;refine bRetB results111 F rfl underlying70 rfl sizeOf70 H 0 rfl ?_
    refine ⟨?_, H.below⟩
    clear F H
    rw [add_form ht hn ha, addP, hs]
    first
      | rw [addAt_stop (fun _ h => h19 h.1)]
      | rw [addAt_stop (fun h => absurd h (by omega))]
      | rw [addAt_stop (fun _ h => h35 h.2)]
   replace h23 := of_decide_eq_false h23;refine eSF 7 rfl (by kernel_rfl) F rfl rfl rfl H qq0 (qSF 8 rfl (by kernel_rfl) rfl rfl rfl H qq0 (qSF 9 rfl (by kernel_rfl) rfl rfl rfl H qq0 (qSF 10 rfl (by kernel_rfl) rfl rfl rfl H qq0 (qSF 11 rfl (by kernel_rfl) rfl rfl rfl H qq0 (qSF 12 rfl (by kernel_rfl) rfl rfl rfl H qq0 (qSF 13 rfl (by kernel_rfl) rfl rfl rfl H qq0 (qSF 14 rfl (by kernel_rfl) rfl rfl rfl H qq0 (qSF 15 rfl (by kernel_rfl) rfl rfl rfl H qq0 (qSF 16 rfl (by kernel_rfl) rfl rfl rfl H qq0 (qSF 17 rfl (by kernel_rfl) rfl rfl rfl H qq0 (qTF 18 rfl (by kernel_rfl) rfl rfl rfl (fun a F w=>rPk F rfl rfl) H qq0 ?_)))))))))));clear F a;intro a F;refine eNil (k := 19) (by kernel_rfl) ?_;refine hK6 _ _ ?_;clear hK6;refine cIfF F rfl ?_;refine wp_exit ?_;refine hK4 _ _ ?_;clear hK4;refine cSeq (fun K11 hK11 => ?_);refine cRegRO (by kernel_rfl) H ?_;replace H := H.drew;refine eTF 0 rfl (by kernel_rfl) F rfl rfl rfl (fun w=>rMv F rfl) H qq0 (qTF 1 rfl (by kernel_rfl) rfl rfl rfl (fun a F w=>rFa (f := 2) (k := 42) underlying70 rfl sizeOf67 rfl rfl F rfl) H qq0 ?_);clear F a;intro a F
   refine eTakeF (k := 2) (i := 2) rfl (by kernel_rfl) F rfl rfl rfl (fun w => rIa underlying67 sizeOf66 F rfl rfl ?_) (H.sel [0, 1, 2] rfl rfl) (fun _ _ _ h => h) ?_
   focus (first | omega | decide | (simp; omega))
   clear F a; intro a F;refine eTF 3 rfl (by kernel_rfl) F rfl rfl rfl (fun w=>rMv F rfl) H qq0 ?_;clear F a;intro a F
   refine eTakeF (k := 4) (i := 4) rfl (by kernel_rfl) F rfl rfl rfl (fun w => rBin F rfl rfl (bAddN (j := 1) ?_)) (H.sel [0, 1, 2] rfl rfl) (fun _ _ _ h => h) ?_
   focus omega
   clear F a; intro a F;refine eTF 5 rfl (by kernel_rfl) F rfl rfl rfl (fun w=>rMv F rfl) H qq0 ?_;clear F a;intro a F
   refine eTakeF (k := 6) (i := 6) rfl (by kernel_rfl) F rfl rfl rfl (fun w => rBin F rfl rfl (bAddN (j := 1) ?_)) (H.sel [0, 1, 2] rfl rfl) (fun _ _ _ h => h) ?_
   focus omega
   clear F a; intro a F
   refine eTake (k := 7) (i := 7) rfl (by kernel_rfl) F rfl rfl rfl rfl (fun w H => rSlALH underlying66 sizeOf65 F rfl rfl rfl ?_ ?_) (H.sel [0, 1, 2] rfl rfl) (fun _ _ _ h => h) ?_
   focus (first | omega | decide | (simp; omega))
   focus (first | omega | decide | (simp; omega))
   clear F a; intro a F;refine eTF 8 rfl (by kernel_rfl) F rfl rfl rfl (fun w=>rMv F rfl) H qq0 (qTF 9 rfl (by kernel_rfl) rfl rfl rfl (fun a F w=>rFa (f := 2) (k := 42) underlying70 rfl sizeOf67 rfl rfl F rfl) H qq0 ?_);clear F a;intro a F
   refine eTakeF (k := 10) (i := 10) rfl (by kernel_rfl) F rfl rfl rfl (fun w => rIa underlying67 sizeOf66 F rfl rfl ?_) (H.sel [0, 1, 2] rfl rfl) (fun _ _ _ h => h) ?_
   focus (first | omega | decide | (simp; omega))
   clear F a; intro a F;refine eTF 11 rfl (by kernel_rfl) F rfl rfl rfl (fun w=>rMv F rfl) H qq0 (qTF 12 rfl (by kernel_rfl) rfl rfl rfl (fun a F w=>rMv F rfl) H qq0 ?_);clear F a;intro a F
   refine eTake (k := 13) (i := 13) rfl (by kernel_rfl) F rfl rfl rfl rfl (fun w H => rSlALH underlying66 sizeOf65 F rfl rfl rfl ?_ ?_) (H.sel [0, 1, 2] rfl rfl) (fun _ _ _ h => h) ?_
   focus (first | omega | decide | (simp; omega))
   focus (first | omega | decide | (simp; omega))
   clear F a; intro a F;refine eOne (k := 14) (i := 14) rfl (by kernel_rfl) F rfl (oCpBB H 2 underlying143 sizeOf65 F rfl rfl rfl rfl ?hm ?hd ?hs ?_)
   case hm => first | omega | (unfold offA; split <;> omega)
   case hd => first | omega | (unfold offA; split <;> omega)
   case hs => first | omega | (unfold offA; split <;> omega)
   clear F a H; intro a w F H;refine ePartO (by kernel_rfl) H ?_;refine eNil (k := 15) (by kernel_rfl) ?_;refine hK11 _ _ ?_;clear hK11;refine cSeq (fun K12 hK12 => ?_);refine cRegRO (by kernel_rfl) H ?_;replace H := H.drew;refine eTF 0 rfl (by kernel_rfl) F rfl rfl rfl (fun w=>rMv F rfl) H qq0 (qTF 1 rfl (by kernel_rfl) rfl rfl rfl (fun a F w=>rMv F rfl) H qq0 (qT 2 rfl (by kernel_rfl) rfl rfl rfl rfl (fun a F w H=>rLrB underlying65 rfl sizeOf65 F rfl (H.whole 1 rfl)) H qq0 (qTF 3 rfl (by kernel_rfl) rfl rfl rfl (fun a F w=>rFa (f := 2) (k := 42) underlying70 rfl sizeOf67 rfl rfl F rfl) H qq0 ?_)));clear F a;intro a F
   refine eTakeF (k := 4) (i := 4) rfl (by kernel_rfl) F rfl rfl rfl (fun w => rIa underlying67 sizeOf66 F rfl rfl ?_) (H.sel [0, 1, 2] rfl rfl) (fun _ _ _ h => h) ?_
   focus (first | omega | decide | (simp; omega))
   clear F a; intro a F
   refine eTakeF (k := 5) (i := 5) rfl (by kernel_rfl) F rfl rfl rfl (fun w => rIa underlying66 sizeOf65 F rfl rfl ?_) (H.sel [0, 1, 2] rfl rfl) (fun _ _ _ h => h) ?_
   focus (first | omega | decide | (simp; omega))
   clear F a; intro a F;refine eOne (k := 6) (i := 6) rfl (by kernel_rfl) F rfl (oSrB H 2 sizeOf65 F rfl rfl rfl (by omega) ?_);clear H; intro w H;refine ePartO (by kernel_rfl) H ?_;refine eNil (k := 7) (by kernel_rfl) ?_;refine hK12 _ _ (cSR fun K13 hK13=>sMv F rfl rfl rfl (qFa (f := 3) (k := 138) underlying70 rfl sizeOf68 rfl rfl rfl rfl rfl ?_));clear hK12;clear F a;intro a F
   refine sIa1 underlying68 sizeOf5 F rfl rfl rfl rfl ?_ ?_
   focus (first | omega | decide | (simp; omega))
   clear F a; intro a F;refine sLd isAgg5 F rfl rfl rfl (H.cellB 2 rfl (by omega)) (qBin rfl rfl rfl rfl (bAddB (y := 1)) (qFa (f := 3) (k := 138) underlying70 rfl sizeOf68 rfl rfl rfl rfl rfl ?_));clear F a;intro a F
   refine sIa1 underlying68 sizeOf5 F rfl rfl rfl rfl ?_ ?_
   focus (first | omega | decide | (simp; omega))
   clear F a; intro a F;refine sStB H 2 sizeOf5 F rfl rfl rfl rfl (by omega) ?_;clear H; intro w H;refine nK hK13 (cSR fun K14 hK14=>sLrB underlying70 rfl sizeOf70 F rfl rfl rfl (H.whole 2 rfl) ?_);clear hK13;clear F a;intro a F;refine sSrB H 0 sizeOf70 F rfl rfl rfl rfl (by omega) ?_;clear H; intro w H;rw [lay_all] at H;refine nK hK14 ?_;clear hK14;refine wp_ret ?_;refine bRetB results111 F rfl underlying70 rfl sizeOf70 H 0 rfl ?_
   refine ⟨?_, H.below⟩
   clear F H
   rw [add_form ht hn ha, addP, hs]
   first
     | rw [addAt_stop (fun _ h => h19 h.1)]
     | rw [addAt_stop (fun h => absurd h (by omega))]
     | rw [addAt_stop (fun _ h => h35 h.2)]
  replace h19 := beqF h19;refine eSF 3 rfl (by kernel_rfl) F rfl rfl rfl H qq0 (qSF 4 rfl (by kernel_rfl) rfl rfl rfl H qq0 (qTF 5 rfl (by kernel_rfl) rfl rfl rfl (fun a F w=>rPk F rfl rfl) H qq0 (qTF 6 rfl (by kernel_rfl) rfl rfl rfl (fun a F w=>rMv F rfl) H qq0 (qSF 7 rfl (by kernel_rfl) rfl rfl rfl H qq0 (qSF 8 rfl (by kernel_rfl) rfl rfl rfl H qq0 (qSF 9 rfl (by kernel_rfl) rfl rfl rfl H qq0 (qSF 10 rfl (by kernel_rfl) rfl rfl rfl H qq0 (qSF 11 rfl (by kernel_rfl) rfl rfl rfl H qq0 (qSF 12 rfl (by kernel_rfl) rfl rfl rfl H qq0 (qSF 13 rfl (by kernel_rfl) rfl rfl rfl H qq0 (qSF 14 rfl (by kernel_rfl) rfl rfl rfl H qq0 (qSF 15 rfl (by kernel_rfl) rfl rfl rfl H qq0 (qSF 16 rfl (by kernel_rfl) rfl rfl rfl H qq0 (qSF 17 rfl (by kernel_rfl) rfl rfl rfl H qq0 (qTF 18 rfl (by kernel_rfl) rfl rfl rfl (fun a F w=>rPk F rfl rfl) H qq0 ?_)))))))))))))));clear F a;intro a F;refine eNil (k := 19) (by kernel_rfl) ?_;refine hK6 _ _ ?_;clear hK6;refine cIfF F rfl ?_;refine wp_exit ?_;refine hK4 _ _ ?_;clear hK4;refine cSeq (fun K15 hK15 => ?_);refine cRegRO (by kernel_rfl) H ?_;replace H := H.drew;refine eTF 0 rfl (by kernel_rfl) F rfl rfl rfl (fun w=>rMv F rfl) H qq0 (qTF 1 rfl (by kernel_rfl) rfl rfl rfl (fun a F w=>rFa (f := 2) (k := 42) underlying70 rfl sizeOf67 rfl rfl F rfl) H qq0 ?_);clear F a;intro a F
  refine eTakeF (k := 2) (i := 2) rfl (by kernel_rfl) F rfl rfl rfl (fun w => rIa underlying67 sizeOf66 F rfl rfl ?_) (H.sel [0, 1, 2] rfl rfl) (fun _ _ _ h => h) ?_
  focus (first | omega | decide | (simp; omega))
  clear F a; intro a F;refine eTF 3 rfl (by kernel_rfl) F rfl rfl rfl (fun w=>rMv F rfl) H qq0 ?_;clear F a;intro a F
  refine eTakeF (k := 4) (i := 4) rfl (by kernel_rfl) F rfl rfl rfl (fun w => rBin F rfl rfl (bAddN (j := 1) ?_)) (H.sel [0, 1, 2] rfl rfl) (fun _ _ _ h => h) ?_
  focus omega
  clear F a; intro a F;refine eTF 5 rfl (by kernel_rfl) F rfl rfl rfl (fun w=>rMv F rfl) H qq0 ?_;clear F a;intro a F
  refine eTakeF (k := 6) (i := 6) rfl (by kernel_rfl) F rfl rfl rfl (fun w => rBin F rfl rfl (bAddN (j := 1) ?_)) (H.sel [0, 1, 2] rfl rfl) (fun _ _ _ h => h) ?_
  focus omega
  clear F a; intro a F
  refine eTake (k := 7) (i := 7) rfl (by kernel_rfl) F rfl rfl rfl rfl (fun w H => rSlALH underlying66 sizeOf65 F rfl rfl rfl ?_ ?_) (H.sel [0, 1, 2] rfl rfl) (fun _ _ _ h => h) ?_
  focus (first | omega | decide | (simp; omega))
  focus (first | omega | decide | (simp; omega))
  clear F a; intro a F;refine eTF 8 rfl (by kernel_rfl) F rfl rfl rfl (fun w=>rMv F rfl) H qq0 (qTF 9 rfl (by kernel_rfl) rfl rfl rfl (fun a F w=>rFa (f := 2) (k := 42) underlying70 rfl sizeOf67 rfl rfl F rfl) H qq0 ?_);clear F a;intro a F
  refine eTakeF (k := 10) (i := 10) rfl (by kernel_rfl) F rfl rfl rfl (fun w => rIa underlying67 sizeOf66 F rfl rfl ?_) (H.sel [0, 1, 2] rfl rfl) (fun _ _ _ h => h) ?_
  focus (first | omega | decide | (simp; omega))
  clear F a; intro a F;refine eTF 11 rfl (by kernel_rfl) F rfl rfl rfl (fun w=>rMv F rfl) H qq0 (qTF 12 rfl (by kernel_rfl) rfl rfl rfl (fun a F w=>rMv F rfl) H qq0 ?_);clear F a;intro a F
  refine eTake (k := 13) (i := 13) rfl (by kernel_rfl) F rfl rfl rfl rfl (fun w H => rSlALH underlying66 sizeOf65 F rfl rfl rfl ?_ ?_) (H.sel [0, 1, 2] rfl rfl) (fun _ _ _ h => h) ?_
  focus (first | omega | decide | (simp; omega))
  focus (first | omega | decide | (simp; omega))
  clear F a; intro a F;refine eOne (k := 14) (i := 14) rfl (by kernel_rfl) F rfl (oCpBB H 2 underlying143 sizeOf65 F rfl rfl rfl rfl ?hm ?hd ?hs ?_)
  case hm => first | omega | (unfold offA; split <;> omega)
  case hd => first | omega | (unfold offA; split <;> omega)
  case hs => first | omega | (unfold offA; split <;> omega)
  clear F a H; intro a w F H;refine ePartO (by kernel_rfl) H ?_;refine eNil (k := 15) (by kernel_rfl) ?_;refine hK15 _ _ ?_;clear hK15;refine cSeq (fun K16 hK16 => ?_);refine cRegRO (by kernel_rfl) H ?_;replace H := H.drew;refine eTF 0 rfl (by kernel_rfl) F rfl rfl rfl (fun w=>rMv F rfl) H qq0 (qTF 1 rfl (by kernel_rfl) rfl rfl rfl (fun a F w=>rMv F rfl) H qq0 (qT 2 rfl (by kernel_rfl) rfl rfl rfl rfl (fun a F w H=>rLrB underlying65 rfl sizeOf65 F rfl (H.whole 1 rfl)) H qq0 (qTF 3 rfl (by kernel_rfl) rfl rfl rfl (fun a F w=>rFa (f := 2) (k := 42) underlying70 rfl sizeOf67 rfl rfl F rfl) H qq0 ?_)));clear F a;intro a F
  refine eTakeF (k := 4) (i := 4) rfl (by kernel_rfl) F rfl rfl rfl (fun w => rIa underlying67 sizeOf66 F rfl rfl ?_) (H.sel [0, 1, 2] rfl rfl) (fun _ _ _ h => h) ?_
  focus (first | omega | decide | (simp; omega))
  clear F a; intro a F
  refine eTakeF (k := 5) (i := 5) rfl (by kernel_rfl) F rfl rfl rfl (fun w => rIa underlying66 sizeOf65 F rfl rfl ?_) (H.sel [0, 1, 2] rfl rfl) (fun _ _ _ h => h) ?_
  focus (first | omega | decide | (simp; omega))
  clear F a; intro a F;refine eOne (k := 6) (i := 6) rfl (by kernel_rfl) F rfl (oSrB H 2 sizeOf65 F rfl rfl rfl (by omega) ?_);clear H; intro w H;refine ePartO (by kernel_rfl) H ?_;refine eNil (k := 7) (by kernel_rfl) ?_;refine hK16 _ _ (cSR fun K17 hK17=>sMv F rfl rfl rfl (qFa (f := 3) (k := 138) underlying70 rfl sizeOf68 rfl rfl rfl rfl rfl ?_));clear hK16;clear F a;intro a F
  refine sIa1 underlying68 sizeOf5 F rfl rfl rfl rfl ?_ ?_
  focus (first | omega | decide | (simp; omega))
  clear F a; intro a F;refine sLd isAgg5 F rfl rfl rfl (H.cellB 2 rfl (by omega)) (qBin rfl rfl rfl rfl (bAddB (y := 1)) (qFa (f := 3) (k := 138) underlying70 rfl sizeOf68 rfl rfl rfl rfl rfl ?_));clear F a;intro a F
  refine sIa1 underlying68 sizeOf5 F rfl rfl rfl rfl ?_ ?_
  focus (first | omega | decide | (simp; omega))
  clear F a; intro a F;refine sStB H 2 sizeOf5 F rfl rfl rfl rfl (by omega) ?_;clear H; intro w H;refine nK hK17 (cSR fun K18 hK18=>sLrB underlying70 rfl sizeOf70 F rfl rfl rfl (H.whole 2 rfl) ?_);clear hK17;clear F a;intro a F;refine sSrB H 0 sizeOf70 F rfl rfl rfl rfl (by omega) ?_;clear H; intro w H;rw [lay_all] at H;refine nK hK18 ?_;clear hK18;refine wp_ret ?_;refine bRetB results111 F rfl underlying70 rfl sizeOf70 H 0 rfl ?_
  refine ⟨?_, H.below⟩
  clear F H
  rw [add_form ht hn ha, addP, hs]
  first
    | rw [addAt_stop (fun _ h => h19 h.1)]
    | rw [addAt_stop (fun h => absurd h (by omega))]
    | rw [addAt_stop (fun _ h => h35 h.2)]
theorem drainN_go {m : UInt8} {s : By} {t : Nat} {loc : UInt8} {f i : Nat} (h : m = 3 ∧ bLoc s t i ≠ loc) : drainN m s t loc (f + 1) i = drainN m s t loc f (i + 1) := by rw [drainN, if_pos h]
theorem drainN_stop {m : UInt8} {s : By} {t : Nat} {loc : UInt8} {f i : Nat} (h : ¬ (m = 3 ∧ bLoc s t i ≠ loc)) : drainN m s t loc f i = i := by
  cases f with
  | zero => rfl
  | succ f => rw [drainN, if_neg h]
theorem drain_form {s : By} {t a : Nat} (ht : t < 4) (hn : manyB s t ≤ 12) (ha : a < manyB s t) :
    put (put (lay (lay s (42 + t * 24 + offA a 12 2) (((s (138 + t)).toNat - 1 - a) * 2) (cut s (42 + t * 24 + offA (a + 1) 12 2))) (42 + t * 24 + ((s (138 + t)).toNat - 1) * 2) 2 zb) (138 + t)
      (lay (lay s (42 + t * 24 + offA a 12 2) (((s (138 + t)).toNat - 1 - a) * 2) (cut s (42 + t * 24 + offA (a + 1) 12 2))) (42 + t * 24 + ((s (138 + t)).toNat - 1) * 2) 2 zb (138 + t) - 1))
      (36 + (cut s (42 + t * 24 + a * 2) 0).toNat) (cut s (42 + t * 24 + a * 2) 1) = drainR s t a := by
  have hme : manyB s t = (s (138 + t)).toNat := rfl
  rw [lay_off (by omega), lay_away (by omega), lay_away (by omega)]
  rfl
set_option maxHeartbeats 2000000 in
theorem drain_any (mc : UInt8) (s : By) (x : Pss) (t : Nat) (w0 : World) (hx : x.t.toNat = t) (ht : t < 4) (hn0 : 0 < manyB s t) (hn : manyB s t ≤ 12) (hlo : ∀ i, i < manyB s t → (bLoc s t i).toNat < 6) (hex : mc = 3 → ∃ i, i < manyB s t ∧ bLoc s t i = x.l) :
    Calls Tryz.prog 108 #[Go.Proofs.YtbgnapmaimkpkaaGreatDoor.b8 mc, .agg (bs 142 s).toArray, .agg x.cells.toArray] w0 fun e w' => e = .returned (.agg (bs 142 (drainP mc s t x.l)).toArray) ∧ Below w0.heap.size w0 w' := by
  subst hx
  have hme : manyB s x.t.toNat = (s (138 + x.t.toNat)).toNat := rfl
  have H := Own.start w0 none
  refine enterF func108 rfl ntmps108 rfl (fun a F => ?_);refine cSR fun K1 hK1=>?_;refine sBxB H F rfl rfl rfl ?_;clear F a H; intro b4 a w F H;refine sBx H F rfl rfl rfl ?_;clear F a H; intro b5 a w F H;refine sAlB H zB70 F rfl rfl ?_;clear F a H; intro b6 a w F H;refine nK hK1 (cSR fun K2 hK2=>sFa (f := 0) (k := 0) underlying86 rfl sizeOf5 rfl rfl F rfl rfl rfl (qLd isAgg5 rfl rfl rfl (H.cell 1 rfl rfl) (qAs rfl rfl rfl (qNK hK2 (qSR fun K3 hK3=>qMv rfl rfl rfl (qFa (f := 3) (k := 138) underlying70 rfl sizeOf68 rfl rfl rfl rfl rfl ?_))))));clear hK1 hK2;clear F a;intro a F
  refine sIa1 underlying68 sizeOf5 F rfl rfl rfl rfl ?_ ?_
  focus (first | omega | decide | (simp; omega))
  clear F a; intro a F;refine sLd isAgg5 F rfl rfl rfl (H.cellB 2 rfl (by omega)) (qCv underlying5 underlying3 rfl rfl rfl (wrapB _) (qAs rfl rfl rfl (qAs rfl rfl rfl (qNK hK3 ?_))));clear hK3;clear F a;intro a F;refine cSeq (fun K4 hK4 => ?_);refine wp_block ?_
  refine cLoopR [0, 4, 5, 6, 7, 8] (fun m ups w => ∃ (a f : Nat), m = manyB s x.t.toNat - a ∧ ups = [(9, .int .i64 ((a : Nat) : Int))] ∧ a < manyB s x.t.toNat ∧ a + f = manyB s x.t.toNat ∧ drainI mc s x.t.toNat x.l = drainN mc s x.t.toNat x.l f a ∧ (mc = 3 → ∃ i, a ≤ i ∧ i < manyB s x.t.toNat ∧ bLoc s x.t.toNat i = x.l) ∧ Own w0 none w [.blk b6 (bs 142 zb) 70, .blk b5 x.cells 86, .blk b4 (bs 142 s) 70]) F (manyB s x.t.toNat) [(9, .int .i64 ((0 : Nat) : Int))] (by repeat (first | exact SubR.nil | (apply SubR.cons; · rfl))) ?_ ?_ ?_
  · exact ⟨0, manyB s x.t.toNat, rfl, rfl, hn0, by omega, rfl, fun h => by obtain ⟨i, h1, h2⟩ := hex h; exact ⟨i, by omega, h1, h2⟩, H.sel [0, 1, 2] rfl rfl⟩
  · repeat (first | exact trivial | refine Le.cons rfl ?_)
  clear F
  clear H
  intro m ups a w hI F
  obtain ⟨a', f, rfl, rfl, ha, hf, hs, hx3, H⟩ := hI
  obtain ⟨f, rfl⟩ : ∃ q, f = q + 1 := ⟨f - 1, by omega⟩
  have hla := hlo a' ha
  have hlc : (cut s (42 + x.t.toNat * 24 + a' * 2) 0).toNat < 6 := hla
  refine cSeq (fun K5 hK5 => ?_);refine cSeq (fun K6 hK6 => ?_);refine cRegRO (by kernel_rfl) H ?_;replace H := H.drew;refine eTF 0 rfl (by kernel_rfl) F rfl rfl rfl (fun w=>rMv F rfl) H qq0 (qTF 1 rfl (by kernel_rfl) rfl rfl rfl (fun a F w=>rBin F rfl rfl (bEqlB (y := 3))) H qq0 (qTF 2 rfl (by kernel_rfl) rfl rfl rfl (fun a F w=>rMv F rfl) H qq0 ?_));clear F a;intro a F
  refine F.split 20 rfl ?_ ?_ <;> (clear F; intro h20 F)
  ·
   replace h20 := beqT h20;refine eTF 3 rfl (by kernel_rfl) F rfl rfl rfl (fun w=>rMv F rfl) H qq0 (qTF 4 rfl (by kernel_rfl) rfl rfl rfl (fun a F w=>rMv F rfl) H qq0 (qTF 5 rfl (by kernel_rfl) rfl rfl rfl (fun a F w=>rFa (f := 2) (k := 42) underlying70 rfl sizeOf67 rfl rfl F rfl) H qq0 ?_));clear F a;intro a F
   refine eTakeF (k := 6) (i := 6) rfl (by kernel_rfl) F rfl rfl rfl (fun w => rIa underlying67 sizeOf66 F rfl rfl ?_) (H.sel [0, 1, 2] rfl rfl) (fun _ _ _ h => h) ?_
   focus (first | omega | decide | (simp; omega))
   clear F a; intro a F
   refine eTakeF (k := 7) (i := 7) rfl (by kernel_rfl) F rfl rfl rfl (fun w => rIa underlying66 sizeOf65 F rfl rfl ?_) (H.sel [0, 1, 2] rfl rfl) (fun _ _ _ h => h) ?_
   focus (first | omega | decide | (simp; omega))
   clear F a; intro a F;refine eTF 8 rfl (by kernel_rfl) F rfl rfl rfl (fun w=>rFaZ (f := 0) underlying65 rfl sizeOf5 rfl rfl F rfl) H qq0 (qT 9 rfl (by kernel_rfl) rfl rfl rfl rfl (fun a F w H=>rLd isAgg5 F rfl (H.cellB 2 rfl (by omega))) H qq0 (qTF 10 rfl (by kernel_rfl) rfl rfl rfl (fun a F w=>rFa (f := 2) (k := 2) underlying86 rfl sizeOf5 rfl rfl F rfl) H qq0 (qT 11 rfl (by kernel_rfl) rfl rfl rfl rfl (fun a F w H=>rLd isAgg5 F rfl (H.cell 1 rfl rfl)) H qq0 (qTF 12 rfl (by kernel_rfl) rfl rfl rfl (fun a F w=>rBin F rfl rfl bNeqB) H qq0 (qTF 13 rfl (by kernel_rfl) rfl rfl rfl (fun a F w=>rPk F rfl rfl) H qq0 ?_)))));clear F a;intro a F;refine eNil (k := 14) (by kernel_rfl) ?_;refine hK6 _ _ ?_;clear hK6
   refine cIf F rfl (fun h31 => ?_) (fun h31 => ?_)
   ·
    replace h31 := bneT h31;refine wp_skip (hK5 _ _ ?_);clear hK5;refine wp_block ?_;refine cReg (sMv F rfl rfl rfl ?_);clear F a;intro a F
    refine sBin F rfl rfl rfl rfl (bAddN (j := 1) ?_) ?_
    focus omega
    clear F a; intro a F;refine sAs F rfl rfl rfl ?_;clear F a;intro a F;refine sNil ?_
    (have hne : mc = 3 ∧ bLoc s x.t.toNat a' ≠ x.l := ⟨by assumption, by assumption⟩
     have hnx : ∃ i, a' + 1 ≤ i ∧ i < manyB s x.t.toNat ∧ bLoc s x.t.toNat i = x.l := by
      obtain ⟨i, h1, h2, h3⟩ := hx3 hne.1
      rcases Nat.eq_or_lt_of_le h1 with e | e
      · subst e; exact absurd h3 hne.2
      · exact ⟨i, e, h2, h3⟩
     have hlt : a' + 1 < manyB s x.t.toNat := by obtain ⟨i, h1, h2, _⟩ := hnx; omega
     exact ⟨_, by omega, _, ⟨a' + 1, f, rfl, rfl, hlt, by omega, by rw [hs, drainN_go hne], fun _ => hnx, H.sel [0, 1, 2] rfl rfl⟩, F.to (by repeat (first | exact trivial | refine Le.cons rfl ?_))⟩)
   replace h31 := bneF h31;refine wp_exit ?_;refine hK4 _ _ (cSR fun K7 hK7=>sMv F rfl rfl rfl (qMv rfl rfl rfl (qFa (f := 2) (k := 42) underlying70 rfl sizeOf67 rfl rfl rfl rfl rfl ?_)));clear hK4;clear F a;intro a F
   refine sIa underlying67 sizeOf66 F rfl rfl rfl rfl ?_ ?_
   focus (first | omega | decide | (simp; omega))
   clear F a; intro a F
   refine sIa underlying66 sizeOf65 F rfl rfl rfl rfl ?_ ?_
   focus (first | omega | decide | (simp; omega))
   clear F a; intro a F;refine sLrB underlying65 rfl sizeOf65 F rfl rfl rfl (H.rangeB 2 _ 2 rfl (by omega)) ?_;clear F a;intro a F;refine sAlB H zB65 F rfl rfl ?_;clear F a H; intro b10 a w F H;refine sSrB H 0 sizeOf65 F rfl rfl rfl rfl (by omega) ?_;clear H; intro w H;rw [lay_all] at H;refine nK hK7 ?_;clear hK7;refine cSeq (fun K8 hK8 => ?_);refine cRegRO (by kernel_rfl) H ?_;replace H := H.drew;refine eTF 0 rfl (by kernel_rfl) F rfl rfl rfl (fun w=>rMv F rfl) H qq0 (qTF 1 rfl (by kernel_rfl) rfl rfl rfl (fun a F w=>rFa (f := 2) (k := 42) underlying70 rfl sizeOf67 rfl rfl F rfl) H qq0 ?_);clear F a;intro a F
   refine eTakeF (k := 2) (i := 2) rfl (by kernel_rfl) F rfl rfl rfl (fun w => rIa underlying67 sizeOf66 F rfl rfl ?_) (H.sel [0, 1, 2, 3] rfl rfl) (fun _ _ _ h => h) ?_
   focus (first | omega | decide | (simp; omega))
   clear F a; intro a F;refine eTF 3 rfl (by kernel_rfl) F rfl rfl rfl (fun w=>rMv F rfl) H qq0 (qTF 4 rfl (by kernel_rfl) rfl rfl rfl (fun a F w=>rMv F rfl) H qq0 ?_);clear F a;intro a F
   refine eTakeF (k := 5) (i := 5) rfl (by kernel_rfl) F rfl rfl rfl (fun w => rBin F rfl rfl (bSubN (j := 1) ?_ ?_)) (H.sel [0, 1, 2, 3] rfl rfl) (fun _ _ _ h => h) ?_
   focus omega
   focus omega
   clear F a; intro a F
   refine eTake (k := 6) (i := 6) rfl (by kernel_rfl) F rfl rfl rfl rfl (fun w H => rSlALH underlying66 sizeOf65 F rfl rfl rfl ?_ ?_) (H.sel [0, 1, 2, 3] rfl rfl) (fun _ _ _ h => h) ?_
   focus (first | omega | decide | (simp; omega))
   focus (first | omega | decide | (simp; omega))
   clear F a; intro a F;refine eTF 7 rfl (by kernel_rfl) F rfl rfl rfl (fun w=>rMv F rfl) H qq0 (qTF 8 rfl (by kernel_rfl) rfl rfl rfl (fun a F w=>rFa (f := 2) (k := 42) underlying70 rfl sizeOf67 rfl rfl F rfl) H qq0 ?_);clear F a;intro a F
   refine eTakeF (k := 9) (i := 9) rfl (by kernel_rfl) F rfl rfl rfl (fun w => rIa underlying67 sizeOf66 F rfl rfl ?_) (H.sel [0, 1, 2, 3] rfl rfl) (fun _ _ _ h => h) ?_
   focus (first | omega | decide | (simp; omega))
   clear F a; intro a F;refine eTF 10 rfl (by kernel_rfl) F rfl rfl rfl (fun w=>rMv F rfl) H qq0 ?_;clear F a;intro a F
   refine eTakeF (k := 11) (i := 11) rfl (by kernel_rfl) F rfl rfl rfl (fun w => rBin F rfl rfl (bAddN (j := 1) ?_)) (H.sel [0, 1, 2, 3] rfl rfl) (fun _ _ _ h => h) ?_
   focus omega
   clear F a; intro a F;refine eTF 12 rfl (by kernel_rfl) F rfl rfl rfl (fun w=>rMv F rfl) H qq0 ?_;clear F a;intro a F
   refine eTake (k := 13) (i := 13) rfl (by kernel_rfl) F rfl rfl rfl rfl (fun w H => rSlALH underlying66 sizeOf65 F rfl rfl rfl ?_ ?_) (H.sel [0, 1, 2, 3] rfl rfl) (fun _ _ _ h => h) ?_
   focus (first | omega | decide | (simp; omega))
   focus (first | omega | decide | (simp; omega))
   clear F a; intro a F;refine eOne (k := 14) (i := 14) rfl (by kernel_rfl) F rfl (oCpBB H 3 underlying143 sizeOf65 F rfl rfl rfl rfl ?hm ?hd ?hs ?_)
   case hm => first | omega | (unfold offA; split <;> omega)
   case hd => first | omega | (unfold offA; split <;> omega)
   case hs => first | omega | (unfold offA; split <;> omega)
   clear F a H; intro a w F H;refine ePartO (by kernel_rfl) H ?_;refine eNil (k := 15) (by kernel_rfl) ?_;refine hK8 _ _ (cSR fun K9 hK9=>sMv F rfl rfl rfl (qMv rfl rfl rfl ?_));clear hK8;clear F a;intro a F
   refine sBin F rfl rfl rfl rfl (bSubN (j := 1) ?_ ?_) ?_
   focus omega
   focus omega
   clear F a; intro a F;refine sBdB (places := [(0, 1), (1, 1)]) zB65 underlying65 (by kernel_rfl) F rfl rfl rfl FillB.nil (qFa (f := 2) (k := 42) underlying70 rfl sizeOf67 rfl rfl rfl rfl rfl ?_);clear F a;intro a F
   refine sIa underlying67 sizeOf66 F rfl rfl rfl rfl ?_ ?_
   focus (first | omega | decide | (simp; omega))
   clear F a; intro a F
   refine sIa underlying66 sizeOf65 F rfl rfl rfl rfl ?_ ?_
   focus (first | omega | decide | (simp; omega))
   clear F a; intro a F;refine sSrB H 3 sizeOf65 F rfl rfl rfl rfl (by omega) ?_;clear H; intro w H;refine nK hK9 (cSR fun K10 hK10=>sMv F rfl rfl rfl (qFa (f := 3) (k := 138) underlying70 rfl sizeOf68 rfl rfl rfl rfl rfl ?_));clear hK9;clear F a;intro a F
   refine sIa1 underlying68 sizeOf5 F rfl rfl rfl rfl ?_ ?_
   focus (first | omega | decide | (simp; omega))
   clear F a; intro a F;refine sLd isAgg5 F rfl rfl rfl (H.cellB 3 rfl (by omega)) (qBin rfl rfl rfl rfl (bSubB (y := 1)) (qFa (f := 3) (k := 138) underlying70 rfl sizeOf68 rfl rfl rfl rfl rfl ?_));clear F a;intro a F
   refine sIa1 underlying68 sizeOf5 F rfl rfl rfl rfl ?_ ?_
   focus (first | omega | decide | (simp; omega))
   clear F a; intro a F;refine sStB H 3 sizeOf5 F rfl rfl rfl rfl (by omega) ?_;clear H; intro w H;refine nK hK10 (cSR fun K11 hK11=>sFa (f := 0) (k := 0) underlying65 rfl sizeOf5 rfl rfl F rfl rfl rfl (qLd isAgg5 rfl rfl rfl (H.cellB 0 rfl (by omega)) (qFa (f := 1) (k := 1) underlying65 rfl sizeOf5 rfl rfl rfl rfl rfl (qLd isAgg5 rfl rfl rfl (H.cellB 0 rfl (by omega)) (qFa (f := 1) (k := 36) underlying70 rfl sizeOf45 rfl rfl rfl rfl rfl ?_)))));clear hK10;clear F a;intro a F
   refine sIa1 underlying45 sizeOf5 F rfl rfl rfl rfl ?_ ?_
   focus exact hla
   clear F a; intro a F;refine sStB H 3 sizeOf5 F rfl rfl rfl rfl (by omega) ?_;clear H; intro w H;refine nK hK11 (cSR fun K12 hK12=>sLrB underlying70 rfl sizeOf70 F rfl rfl rfl (H.whole 3 rfl) ?_);clear hK11;clear F a;intro a F;refine sSrB H 1 sizeOf70 F rfl rfl rfl rfl (by omega) ?_;clear H; intro w H;rw [lay_all] at H;refine nK hK12 ?_;clear hK12;refine wp_ret ?_;refine bRetB results108 F rfl underlying70 rfl sizeOf70 H 1 rfl ?_
   refine ⟨?_, H.below⟩
   clear F H
   rw [drain_form ht hn ha, drainP, hs]
   first
     | rw [drainN_stop (fun h => h20 h.1)]
     | rw [drainN_stop (fun h => h.2 h31)]
  replace h20 := beqF h20;refine eSF 3 rfl (by kernel_rfl) F rfl rfl rfl H qq0 (qSF 4 rfl (by kernel_rfl) rfl rfl rfl H qq0 (qSF 5 rfl (by kernel_rfl) rfl rfl rfl H qq0 (qSF 6 rfl (by kernel_rfl) rfl rfl rfl H qq0 (qSF 7 rfl (by kernel_rfl) rfl rfl rfl H qq0 (qSF 8 rfl (by kernel_rfl) rfl rfl rfl H qq0 (qSF 9 rfl (by kernel_rfl) rfl rfl rfl H qq0 (qSF 10 rfl (by kernel_rfl) rfl rfl rfl H qq0 (qSF 11 rfl (by kernel_rfl) rfl rfl rfl H qq0 (qSF 12 rfl (by kernel_rfl) rfl rfl rfl H qq0 (qTF 13 rfl (by kernel_rfl) rfl rfl rfl (fun a F w=>rPk F rfl rfl) H qq0 ?_))))))))));clear F a;intro a F;refine eNil (k := 14) (by kernel_rfl) ?_;refine hK6 _ _ ?_;clear hK6;refine cIfF F rfl ?_;refine wp_exit ?_;refine hK4 _ _ (cSR fun K13 hK13=>sMv F rfl rfl rfl (qMv rfl rfl rfl (qFa (f := 2) (k := 42) underlying70 rfl sizeOf67 rfl rfl rfl rfl rfl ?_)));clear hK4;clear F a;intro a F
  refine sIa underlying67 sizeOf66 F rfl rfl rfl rfl ?_ ?_
  focus (first | omega | decide | (simp; omega))
  clear F a; intro a F
  refine sIa underlying66 sizeOf65 F rfl rfl rfl rfl ?_ ?_
  focus (first | omega | decide | (simp; omega))
  clear F a; intro a F;refine sLrB underlying65 rfl sizeOf65 F rfl rfl rfl (H.rangeB 2 _ 2 rfl (by omega)) ?_;clear F a;intro a F;refine sAlB H zB65 F rfl rfl ?_;clear F a H; intro b10 a w F H;refine sSrB H 0 sizeOf65 F rfl rfl rfl rfl (by omega) ?_;clear H; intro w H;rw [lay_all] at H;refine nK hK13 ?_;clear hK13;refine cSeq (fun K14 hK14 => ?_);refine cRegRO (by kernel_rfl) H ?_;replace H := H.drew;refine eTF 0 rfl (by kernel_rfl) F rfl rfl rfl (fun w=>rMv F rfl) H qq0 (qTF 1 rfl (by kernel_rfl) rfl rfl rfl (fun a F w=>rFa (f := 2) (k := 42) underlying70 rfl sizeOf67 rfl rfl F rfl) H qq0 ?_);clear F a;intro a F
  refine eTakeF (k := 2) (i := 2) rfl (by kernel_rfl) F rfl rfl rfl (fun w => rIa underlying67 sizeOf66 F rfl rfl ?_) (H.sel [0, 1, 2, 3] rfl rfl) (fun _ _ _ h => h) ?_
  focus (first | omega | decide | (simp; omega))
  clear F a; intro a F;refine eTF 3 rfl (by kernel_rfl) F rfl rfl rfl (fun w=>rMv F rfl) H qq0 (qTF 4 rfl (by kernel_rfl) rfl rfl rfl (fun a F w=>rMv F rfl) H qq0 ?_);clear F a;intro a F
  refine eTakeF (k := 5) (i := 5) rfl (by kernel_rfl) F rfl rfl rfl (fun w => rBin F rfl rfl (bSubN (j := 1) ?_ ?_)) (H.sel [0, 1, 2, 3] rfl rfl) (fun _ _ _ h => h) ?_
  focus omega
  focus omega
  clear F a; intro a F
  refine eTake (k := 6) (i := 6) rfl (by kernel_rfl) F rfl rfl rfl rfl (fun w H => rSlALH underlying66 sizeOf65 F rfl rfl rfl ?_ ?_) (H.sel [0, 1, 2, 3] rfl rfl) (fun _ _ _ h => h) ?_
  focus (first | omega | decide | (simp; omega))
  focus (first | omega | decide | (simp; omega))
  clear F a; intro a F;refine eTF 7 rfl (by kernel_rfl) F rfl rfl rfl (fun w=>rMv F rfl) H qq0 (qTF 8 rfl (by kernel_rfl) rfl rfl rfl (fun a F w=>rFa (f := 2) (k := 42) underlying70 rfl sizeOf67 rfl rfl F rfl) H qq0 ?_);clear F a;intro a F
  refine eTakeF (k := 9) (i := 9) rfl (by kernel_rfl) F rfl rfl rfl (fun w => rIa underlying67 sizeOf66 F rfl rfl ?_) (H.sel [0, 1, 2, 3] rfl rfl) (fun _ _ _ h => h) ?_
  focus (first | omega | decide | (simp; omega))
  clear F a; intro a F;refine eTF 10 rfl (by kernel_rfl) F rfl rfl rfl (fun w=>rMv F rfl) H qq0 ?_;clear F a;intro a F
  refine eTakeF (k := 11) (i := 11) rfl (by kernel_rfl) F rfl rfl rfl (fun w => rBin F rfl rfl (bAddN (j := 1) ?_)) (H.sel [0, 1, 2, 3] rfl rfl) (fun _ _ _ h => h) ?_
  focus omega
  clear F a; intro a F;refine eTF 12 rfl (by kernel_rfl) F rfl rfl rfl (fun w=>rMv F rfl) H qq0 ?_;clear F a;intro a F
  refine eTake (k := 13) (i := 13) rfl (by kernel_rfl) F rfl rfl rfl rfl (fun w H => rSlALH underlying66 sizeOf65 F rfl rfl rfl ?_ ?_) (H.sel [0, 1, 2, 3] rfl rfl) (fun _ _ _ h => h) ?_
  focus (first | omega | decide | (simp; omega))
  focus (first | omega | decide | (simp; omega))
  clear F a; intro a F;refine eOne (k := 14) (i := 14) rfl (by kernel_rfl) F rfl (oCpBB H 3 underlying143 sizeOf65 F rfl rfl rfl rfl ?hm ?hd ?hs ?_)
  case hm => first | omega | (unfold offA; split <;> omega)
  case hd => first | omega | (unfold offA; split <;> omega)
  case hs => first | omega | (unfold offA; split <;> omega)
  clear F a H; intro a w F H;refine ePartO (by kernel_rfl) H ?_;refine eNil (k := 15) (by kernel_rfl) ?_;refine hK14 _ _ (cSR fun K15 hK15=>sMv F rfl rfl rfl (qMv rfl rfl rfl ?_));clear hK14;clear F a;intro a F
  refine sBin F rfl rfl rfl rfl (bSubN (j := 1) ?_ ?_) ?_
  focus omega
  focus omega
  clear F a; intro a F;refine sBdB (places := [(0, 1), (1, 1)]) zB65 underlying65 (by kernel_rfl) F rfl rfl rfl FillB.nil (qFa (f := 2) (k := 42) underlying70 rfl sizeOf67 rfl rfl rfl rfl rfl ?_);clear F a;intro a F
  refine sIa underlying67 sizeOf66 F rfl rfl rfl rfl ?_ ?_
  focus (first | omega | decide | (simp; omega))
  clear F a; intro a F
  refine sIa underlying66 sizeOf65 F rfl rfl rfl rfl ?_ ?_
  focus (first | omega | decide | (simp; omega))
  clear F a; intro a F;refine sSrB H 3 sizeOf65 F rfl rfl rfl rfl (by omega) ?_;clear H; intro w H;refine nK hK15 (cSR fun K16 hK16=>sMv F rfl rfl rfl (qFa (f := 3) (k := 138) underlying70 rfl sizeOf68 rfl rfl rfl rfl rfl ?_));clear hK15;clear F a;intro a F
  refine sIa1 underlying68 sizeOf5 F rfl rfl rfl rfl ?_ ?_
  focus (first | omega | decide | (simp; omega))
  clear F a; intro a F;refine sLd isAgg5 F rfl rfl rfl (H.cellB 3 rfl (by omega)) (qBin rfl rfl rfl rfl (bSubB (y := 1)) (qFa (f := 3) (k := 138) underlying70 rfl sizeOf68 rfl rfl rfl rfl rfl ?_));clear F a;intro a F
  refine sIa1 underlying68 sizeOf5 F rfl rfl rfl rfl ?_ ?_
  focus (first | omega | decide | (simp; omega))
  clear F a; intro a F;refine sStB H 3 sizeOf5 F rfl rfl rfl rfl (by omega) ?_;clear H; intro w H;refine nK hK16 (cSR fun K17 hK17=>sFa (f := 0) (k := 0) underlying65 rfl sizeOf5 rfl rfl F rfl rfl rfl (qLd isAgg5 rfl rfl rfl (H.cellB 0 rfl (by omega)) (qFa (f := 1) (k := 1) underlying65 rfl sizeOf5 rfl rfl rfl rfl rfl (qLd isAgg5 rfl rfl rfl (H.cellB 0 rfl (by omega)) (qFa (f := 1) (k := 36) underlying70 rfl sizeOf45 rfl rfl rfl rfl rfl ?_)))));clear hK16;clear F a;intro a F
  refine sIa1 underlying45 sizeOf5 F rfl rfl rfl rfl ?_ ?_
  focus exact hla
  clear F a; intro a F;refine sStB H 3 sizeOf5 F rfl rfl rfl rfl (by omega) ?_;clear H; intro w H;refine nK hK17 (cSR fun K18 hK18=>sLrB underlying70 rfl sizeOf70 F rfl rfl rfl (H.whole 3 rfl) ?_);clear hK17;clear F a;intro a F;refine sSrB H 1 sizeOf70 F rfl rfl rfl rfl (by omega) ?_;clear H; intro w H;rw [lay_all] at H;refine nK hK18 ?_;clear hK18;refine wp_ret ?_;refine bRetB results108 F rfl underlying70 rfl sizeOf70 H 1 rfl ?_
  refine ⟨?_, H.below⟩
  clear F H
  rw [drain_form ht hn ha, drainP, hs]
  first
    | rw [drainN_stop (fun h => h20 h.1)]
    | rw [drainN_stop (fun h => h.2 h31)]
end Go.Proofs.YtbgnapmaimkpkaaGreatDoor
