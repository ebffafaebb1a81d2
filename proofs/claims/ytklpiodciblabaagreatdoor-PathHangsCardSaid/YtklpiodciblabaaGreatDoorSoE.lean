/-
  WALK2. slices.Sort at bytes: reverseRange, partialInsertionSort. Conditions: the slice is the caller's own.
-/
import Derived.Test.YtklpiodciblabaaGreatDoorSoD
set_option linter.unusedSimpArgs false
set_option linter.unusedVariables false
namespace Go.Proofs.YtklpiodciblabaaGreatDoor
open Go.Proofs.Tryz
open Go.RowKit
set_option maxRecDepth 100000
set_option maxHeartbeats 1000000 in
theorem revB_any (g n c : Nat) (d : By) (lo up : Nat) (W : World) (row : Option Nat) (rs : List Res) (w0 : World) (H : Own W row w0 (.byt g n c d :: rs)) (hb : up ≤ n) (hn : n ≤ 1000000) (hlo : lo < up) :
    Calls Tryz.prog 115 #[.slice (some ⟨g, 0, none⟩) n c, .int .i64 (lo : Int), .int .i64 (up : Int)] w0 fun e w' => e = .returned (.tuple #[]) ∧ ∃ d', Sm lo up d d' ∧ Own W row w' (.byt g n c d' :: rs) := by
  refine enterF func115 rfl ntmps115 rfl (fun a F => ?_);refine cSR fun K1 hK1=>sMv F rfl rfl rfl (qAs rfl rfl rfl (qNK hK1 (qSR fun K2 hK2=>qMv rfl rfl rfl ?_)));clear hK1;clear F a;intro a F
  refine sBin F rfl rfl rfl rfl (bSubN (j := 1) ?_ ?_) ?_
  focus omega
  focus omega
  clear F a; intro a F;refine sAs F rfl rfl rfl (qNK hK2 ?_);clear hK2;clear F a;intro a F;refine wp_block ?_
  refine cLoopR [0] (fun m ups w => ∃ (i j : Nat) (e : By), m = j + 1 ∧ ups = [(6, .int .i64 ((i : Nat) : Int)), (7, .int .i64 ((j : Nat) : Int))] ∧ lo ≤ i ∧ j < up ∧ Sm lo up d e ∧ Own W row w (.byt g n c e :: rs)) F (up - 1 + 1) [(6, .int .i64 ((lo : Nat) : Int)), (7, .int .i64 ((up - 1 : Nat) : Int))] (by repeat (first | exact SubR.nil | (apply SubR.cons; · rfl))) ?_ ?_ ?_
  · exact ⟨lo, up - 1, d, rfl, rfl, Nat.le_refl _, by omega, Sm.refl _ _ _, H⟩
  · repeat (first | exact trivial | refine Le.cons rfl ?_)
  clear F
  clear H
  intro m ups a w hI F
  obtain ⟨i, j, e, rfl, rfl, hli, hju, hsm, H⟩ := hI
  refine cSeq (fun K3 hK3 => ?_);refine cSR fun K4 hK4=>sMv F rfl rfl rfl (qMv rfl rfl rfl (qBin rfl rfl rfl rfl bLss (qNK hK4 ?_)));clear hK4;clear F a;intro a F
  refine cIf F rfl (fun h13 => ?_) (fun h13 => ?_)
  ·
   replace h13 := of_decide_eq_true h13;refine wp_skip (hK3 _ _ ?_);clear hK3;refine wp_block ?_;refine cSeq (fun K5 hK5 => ?_);refine cRegRO (by kernel_rfl) H ?_;replace H := H.drew;refine eTF 0 rfl (by kernel_rfl) F rfl rfl rfl (fun w=>rMv F rfl) H qq0 (qTF 1 rfl (by kernel_rfl) rfl rfl rfl (fun a F w=>rMv F rfl) H qq0 (qTF 2 rfl (by kernel_rfl) rfl rfl rfl (fun a F w=>rMv F rfl) H qq0 (qTF 3 rfl (by kernel_rfl) rfl rfl rfl (fun a F w=>rMv F rfl) H qq0 (qTF 4 rfl (by kernel_rfl) rfl rfl rfl (fun a F w=>rMv F rfl) H qq0 (qTF 5 rfl (by kernel_rfl) rfl rfl rfl (fun a F w=>rMv F rfl) H qq0 ?_)))));clear F a;intro a F
   refine eTakeF (k := 6) (i := 6) rfl (by kernel_rfl) F rfl rfl rfl (fun w => rIx underlying23 sizeOf5 F rfl rfl ?_) H (fun _ _ _ h => h) ?_
   focus (first | omega | decide | (simp; omega))
   clear F a; intro a F;refine eT 7 rfl (by kernel_rfl) F rfl rfl rfl rfl (fun w H=>rLd isAgg5 F rfl (H.bytCell 0 rfl (by omega))) H qq0 (qTF 8 rfl (by kernel_rfl) rfl rfl rfl (fun a F w=>rMv F rfl) H qq0 (qTF 9 rfl (by kernel_rfl) rfl rfl rfl (fun a F w=>rMv F rfl) H qq0 ?_));clear F a;intro a F
   refine eTakeF (k := 10) (i := 10) rfl (by kernel_rfl) F rfl rfl rfl (fun w => rIx underlying23 sizeOf5 F rfl rfl ?_) H (fun _ _ _ h => h) ?_
   focus (first | omega | decide | (simp; omega))
   clear F a; intro a F;refine eT 11 rfl (by kernel_rfl) F rfl rfl rfl rfl (fun w H=>rLd isAgg5 F rfl (H.bytCell 0 rfl (by omega))) H qq0 ?_;clear F a;intro a F
   refine eTakeF (k := 12) (i := 12) rfl (by kernel_rfl) F rfl rfl rfl (fun w => rIx underlying23 sizeOf5 F rfl rfl ?_) H (fun _ _ _ h => h) ?_
   focus (first | omega | decide | (simp; omega))
   clear F a; intro a F;refine eOne (k := 13) (i := 13) rfl (by kernel_rfl) F rfl (oStY H 0 sizeOf5 F rfl rfl rfl (by omega) ?_);clear H; intro w H;refine ePartO (by kernel_rfl) H ?_
   refine eTakeF (k := 14) (i := 14) rfl (by kernel_rfl) F rfl rfl rfl (fun w => rIx underlying23 sizeOf5 F rfl rfl ?_) H (fun _ _ _ h => h) ?_
   focus (first | omega | decide | (simp; omega))
   clear F a; intro a F;refine eOne (k := 15) (i := 15) rfl (by kernel_rfl) F rfl (oStY H 0 sizeOf5 F rfl rfl rfl (by omega) ?_);clear H; intro w H;refine ePartO (by kernel_rfl) H ?_;refine eNil (k := 16) (by kernel_rfl) ?_;refine hK5 _ _ (cSR fun K6 hK6=>sMv F rfl rfl rfl ?_);clear hK5;clear F a;intro a F
   refine sBin F rfl rfl rfl rfl (bAddN (j := 1) ?_) ?_
   focus omega
   clear F a; intro a F;refine sAs F rfl rfl rfl (qNK hK6 (qReg (qMv rfl rfl rfl ?_)));clear hK6;clear F a;intro a F
   refine sBin F rfl rfl rfl rfl (bSubN (j := 1) ?_ ?_) ?_
   focus omega
   focus omega
   clear F a; intro a F;refine sAs F rfl rfl rfl ?_;clear F a;intro a F;refine sNil ?_
   exact ⟨_, by omega, _, ⟨i + 1, j - 1, _, rfl, rfl, by omega, by omega, hsm.trans (Sm.swap e (by omega) (by omega) (by omega) (by omega)), swp_now H⟩, F.to (by repeat (first | exact trivial | refine Le.cons rfl ?_))⟩
  replace h13 := of_decide_eq_false h13;refine wp_exit ?_
  first | refine bEnd results115 F ?_ | (simp only [Exit.then, Exit.inBlock, if_true]; (repeat (first | rw [if_pos rfl] | rw [if_neg (by decide)])); refine bEnd results115 F ?_)
  exact ⟨rfl, e, hsm, H⟩
set_option maxHeartbeats 4000000 in
theorem partIns_any (g n c : Nat) (d : By) (lo up : Nat) (W : World) (row : Option Nat) (rs : List Res) (w0 : World) (H : Own W row w0 (.byt g n c d :: rs)) (hb : up ≤ n) (hn : n ≤ 1000000) (hlo : lo < up) (hpre : lo = 0 ∨ ∀ k, lo ≤ k → k < up → (d (lo - 1)).toNat ≤ (d k).toNat) :
    Calls Tryz.prog 116 #[.slice (some ⟨g, 0, none⟩) n c, .int .i64 (lo : Int), .int .i64 (up : Int)] w0 fun e w' => ∃ (r : Bool) (d' : By), e = .returned (.bool r) ∧ Sm lo up d d' ∧ (r = true → Srt lo up d') ∧ Own W row w' (.byt g n c d' :: rs) := by
  have hstop : ∀ e : By, Sm lo up d e → 0 < lo → (e (lo - 1)).toNat ≤ (e lo).toNat := fun e hs h0 => by
    rcases hpre with h1 | h1
    · omega
    · rw [hs.out (lo - 1) (by omega)]
      exact hs.all (p := fun x => (d (lo - 1)).toNat ≤ x.toNat) h1 lo (Nat.le_refl _) hlo
  refine enterF func116 rfl ntmps116 rfl (fun a F => ?_);refine cSR fun K1 hK1=>sAs F rfl rfl rfl (qNK hK1 (qSR fun K2 hK2=>qMv rfl rfl rfl ?_));clear hK1;clear F a;intro a F
  refine sBin F rfl rfl rfl rfl (bAddN (j := 1) ?_) ?_
  focus omega
  clear F a; intro a F;refine sAs F rfl rfl rfl (qNK hK2 ?_);clear hK2;clear F a;intro a F;refine cSeq (fun K3 hK3 => ?_);refine cSR fun K4 hK4=>sAs F rfl rfl rfl (qNK hK4 ?_);clear hK4;clear F a;intro a F;refine wp_block ?_
  refine cLoopR [0, 1, 2] (fun m ups w => ∃ (i q : Nat) (e : By), m = 5 - q ∧ ups = [(7, .int .i64 ((i : Nat) : Int)), (8, .int .i64 ((q : Nat) : Int))] ∧ lo + 1 ≤ i ∧ i ≤ up ∧ Srt lo i e ∧ Sm lo up d e ∧ Own W row w (.byt g n c e :: rs)) F (5 - 0) [(7, .int .i64 ((lo + 1 : Nat) : Int)), (8, .int .i64 ((0 : Nat) : Int))] (by repeat (first | exact SubR.nil | (apply SubR.cons; · rfl))) ?_ ?_ ?_
  · exact ⟨lo + 1, 0, d, rfl, rfl, Nat.le_refl _, by omega, Srt.small _ (by omega), Sm.refl _ _ _, H⟩
  · repeat (first | exact trivial | refine Le.cons rfl ?_)
  clear F
  clear H
  intro m ups a w hI F
  obtain ⟨i, q, e, rfl, rfl, hli, hiu, hsr, hsm, H⟩ := hI
  refine cSeq (fun K5 hK5 => ?_);refine cSR fun K6 hK6=>sMv F rfl rfl rfl (qBin rfl rfl rfl rfl bLss (qNK hK6 ?_));clear hK6;clear F a;intro a F
  refine cIf F rfl (fun h14 => ?_) (fun h14 => ?_)
  ·
   replace h14 := of_decide_eq_true h14;refine wp_skip (hK5 _ _ ?_);clear hK5;refine cSeq (fun K7 hK7 => ?_);refine wp_block ?_
   refine cSeqJ [0, 1, 2, 8] (fun ups w => ∃ i : Nat, ups = [(7, .int .i64 ((i : Nat) : Int))] ∧ lo + 1 ≤ i ∧ i ≤ up ∧ Srt lo i e ∧ Own W row w (.byt g n c e :: rs)) F (by repeat (first | exact SubR.nil | (apply SubR.cons; · rfl))) ?_ ?_
   ·
    refine wp_block ?_
    refine cLoopR [0, 1, 2, 8] (fun m ups w => ∃ (i : Nat), m = up - i ∧ ups = [(7, .int .i64 ((i : Nat) : Int))] ∧ lo + 1 ≤ i ∧ i ≤ up ∧ Srt lo i e ∧ Own W row w (.byt g n c e :: rs)) F (up - i) [(7, .int .i64 ((i : Nat) : Int))] (by repeat (first | exact SubR.nil | (apply SubR.cons; · rfl))) ?_ ?_ ?_
    · exact ⟨i, rfl, rfl, hli, hiu, hsr, H⟩
    · repeat (first | exact trivial | refine Le.cons rfl ?_)
    clear F
    clear H
    intro m ups a w hI F
    clear hsr hli hiu; obtain ⟨i, rfl, rfl, hli, hiu, hsr, H⟩ := hI
    refine cSeq (fun K8 hK8 => ?_);refine cSeq (fun K9 hK9 => ?_);refine cRegRO (by kernel_rfl) H ?_;replace H := H.drew;refine eTF 0 rfl (by kernel_rfl) F rfl rfl rfl (fun w=>rMv F rfl) H qq0 (qTF 1 rfl (by kernel_rfl) rfl rfl rfl (fun a F w=>rMv F rfl) H qq0 (qTF 2 rfl (by kernel_rfl) rfl rfl rfl (fun a F w=>rBin F rfl rfl bLss) H qq0 (qTF 3 rfl (by kernel_rfl) rfl rfl rfl (fun a F w=>rMv F rfl) H qq0 ?_)));clear F a;intro a F
    refine F.split 20 rfl ?_ ?_ <;> (clear F; intro h20 F)
    ·
     replace h20 := of_decide_eq_true h20
     have hil : i < up := by omega
     refine eTF 4 rfl (by kernel_rfl) F rfl rfl rfl (fun w=>rMv F rfl) H qq0 (qTF 5 rfl (by kernel_rfl) rfl rfl rfl (fun a F w=>rMv F rfl) H qq0 ?_);clear F a;intro a F
     refine eTakeF (k := 6) (i := 6) rfl (by kernel_rfl) F rfl rfl rfl (fun w => rIx underlying23 sizeOf5 F rfl rfl ?_) H (fun _ _ _ h => h) ?_
     focus (first | omega | decide | (simp; omega))
     clear F a; intro a F;refine eT 7 rfl (by kernel_rfl) F rfl rfl rfl rfl (fun w H=>rLd isAgg5 F rfl (H.bytCell 0 rfl (by omega))) H qq0 (qTF 8 rfl (by kernel_rfl) rfl rfl rfl (fun a F w=>rMv F rfl) H qq0 (qTF 9 rfl (by kernel_rfl) rfl rfl rfl (fun a F w=>rMv F rfl) H qq0 ?_));clear F a;intro a F
     refine eTakeF (k := 10) (i := 10) rfl (by kernel_rfl) F rfl rfl rfl (fun w => rBin F rfl rfl (bSubN (j := 1) ?_ ?_)) H (fun _ _ _ h => h) ?_
     focus omega
     focus omega
     clear F a; intro a F
     refine eTakeF (k := 11) (i := 11) rfl (by kernel_rfl) F rfl rfl rfl (fun w => rIx underlying23 sizeOf5 F rfl rfl ?_) H (fun _ _ _ h => h) ?_
     focus (first | omega | decide | (simp; omega))
     clear F a; intro a F;refine eT 12 rfl (by kernel_rfl) F rfl rfl rfl rfl (fun w H=>rLd isAgg5 F rfl (H.bytCell 0 rfl (by omega))) H qq0 ?_;clear F a;intro a F;refine eOne (k := 13) (i := 13) rfl (by kernel_rfl) F rfl (oCall call117 F rfl rfl (less_any (e i) (e (i - 1)) _) ?_);rintro e w ⟨rfl, hb⟩;replace H := H.grow hb; clear hb;refine ⟨_, rfl, ?_⟩;clear F a; intro a F;refine ePartO (by kernel_rfl) H ?_;refine eTF 14 rfl (by kernel_rfl) F rfl rfl rfl (fun w=>rNot F rfl) H qq0 (qTF 15 rfl (by kernel_rfl) rfl rfl rfl (fun a F w=>rPk F rfl rfl) H qq0 ?_);clear F a;intro a F;refine eNil (k := 16) (by kernel_rfl) ?_;refine hK9 _ _ ?_;clear hK9
     refine cIf F rfl (fun h32 => ?_) (fun h32 => ?_)
     ·
      replace h32 := notT h32;refine wp_skip (hK8 _ _ ?_);clear hK8;refine wp_block ?_;refine cReg (sMv F rfl rfl rfl ?_);clear F a;intro a F
      refine sBin F rfl rfl rfl rfl (bAddN (j := 1) ?_) ?_
      focus omega
      clear F a; intro a F;refine sAs F rfl rfl rfl ?_;clear F a;intro a F;refine sNil ?_
      have h32' : ¬ (e i).toNat < (e (i - 1)).toNat := by simpa using h32
      exact ⟨_, by omega, _, ⟨i + 1, rfl, rfl, by omega, by omega, fun k h1 h2 => by
        by_cases hk : k + 1 = i
        · have : k = i - 1 := by omega
          rw [this, show i - 1 + 1 = i by omega]; omega
        · exact hsr k h1 (by omega), H⟩, F.to (by repeat (first | exact trivial | refine Le.cons rfl ?_))⟩
     replace h32 := notF h32;refine wp_exit ?_
     exact ⟨_, ⟨i, rfl, hli, hiu, hsr, H⟩, F.to (by repeat (first | exact trivial | refine Le.cons rfl ?_))⟩
    replace h20 := of_decide_eq_false h20;refine eSF 4 rfl (by kernel_rfl) F rfl rfl rfl H qq0 (qSF 5 rfl (by kernel_rfl) rfl rfl rfl H qq0 (qSF 6 rfl (by kernel_rfl) rfl rfl rfl H qq0 (qSF 7 rfl (by kernel_rfl) rfl rfl rfl H qq0 (qSF 8 rfl (by kernel_rfl) rfl rfl rfl H qq0 (qSF 9 rfl (by kernel_rfl) rfl rfl rfl H qq0 (qSF 10 rfl (by kernel_rfl) rfl rfl rfl H qq0 (qSF 11 rfl (by kernel_rfl) rfl rfl rfl H qq0 (qSF 12 rfl (by kernel_rfl) rfl rfl rfl H qq0 (qSF 13 rfl (by kernel_rfl) rfl rfl rfl H qq0 (qSF 14 rfl (by kernel_rfl) rfl rfl rfl H qq0 (qTF 15 rfl (by kernel_rfl) rfl rfl rfl (fun a F w=>rPk F rfl rfl) H qq0 ?_)))))))))));clear F a;intro a F;refine eNil (k := 16) (by kernel_rfl) ?_;refine hK9 _ _ ?_;clear hK9;refine cIfF F rfl ?_;refine wp_exit ?_
    exact ⟨_, ⟨i, rfl, hli, hiu, hsr, H⟩, F.to (by repeat (first | exact trivial | refine Le.cons rfl ?_))⟩
   clear F H
   intro ups a w hI F
   clear hsr hli hiu; obtain ⟨i, rfl, hli, hiu, hsr, H⟩ := hI
   refine cSeq (fun K10 hK10 => ?_);refine cSR fun K11 hK11=>sMv F rfl rfl rfl (qMv rfl rfl rfl (qBin rfl rfl rfl rfl bEql (qNK hK11 ?_)));clear hK11;clear F a;intro a F
   refine cIf F rfl (fun h37 => ?_) (fun h37 => ?_)
   ·
    replace h37 := beqT h37;refine cSR fun K12 hK12=>sAs F rfl rfl rfl (qNK hK12 ?_);clear hK12;clear F a;intro a F;refine wp_ret ?_;simp only [Exit.inBlock, Exit.then];refine bRet results116 F rfl ?_
    first
    | (obtain rfl : i = up := by omega
       exact ⟨true, e, rfl, hsm, fun _ => hsr, H⟩)
    | exact ⟨false, e, rfl, hsm, fun h => (by cases h), H⟩
   replace h37 := beqF h37
   have hil2 : i < up := by omega
   refine wp_skip (hK10 _ _ ?_);clear hK10;refine cSeq (fun K13 hK13 => ?_);refine cSR fun K14 hK14=>sMv F rfl rfl rfl (qMv rfl rfl rfl ?_);clear F a;intro a F
   refine sBin F rfl rfl rfl rfl (bSubN ?_ ?_) ?_
   focus omega
   focus omega
   clear F a; intro a F;refine sBin F rfl rfl rfl rfl bLss (qNK hK14 ?_);clear hK14;clear F a;intro a F
   refine cIf F rfl (fun h41 => ?_) (fun h41 => ?_)
   ·
    replace h41 := of_decide_eq_true h41;refine cSR fun K15 hK15=>sAs F rfl rfl rfl (qNK hK15 ?_);clear hK15;clear F a;intro a F;refine wp_ret ?_;simp only [Exit.inBlock, Exit.then];refine bRet results116 F rfl ?_
    first
    | (obtain rfl : i = up := by omega
       exact ⟨true, e, rfl, hsm, fun _ => hsr, H⟩)
    | exact ⟨false, e, rfl, hsm, fun h => (by cases h), H⟩
   replace h41 := of_decide_eq_false h41;refine wp_skip (hK13 _ _ ?_);clear hK13;refine cSeq (fun K16 hK16 => ?_);refine cRegRO (by kernel_rfl) H ?_;replace H := H.drew;refine eTF 0 rfl (by kernel_rfl) F rfl rfl rfl (fun w=>rMv F rfl) H qq0 (qTF 1 rfl (by kernel_rfl) rfl rfl rfl (fun a F w=>rMv F rfl) H qq0 (qTF 2 rfl (by kernel_rfl) rfl rfl rfl (fun a F w=>rMv F rfl) H qq0 (qTF 3 rfl (by kernel_rfl) rfl rfl rfl (fun a F w=>rMv F rfl) H qq0 ?_)));clear F a;intro a F
   refine eTakeF (k := 4) (i := 4) rfl (by kernel_rfl) F rfl rfl rfl (fun w => rBin F rfl rfl (bSubN (j := 1) ?_ ?_)) H (fun _ _ _ h => h) ?_
   focus omega
   focus omega
   clear F a; intro a F;refine eTF 5 rfl (by kernel_rfl) F rfl rfl rfl (fun w=>rMv F rfl) H qq0 (qTF 6 rfl (by kernel_rfl) rfl rfl rfl (fun a F w=>rMv F rfl) H qq0 ?_);clear F a;intro a F
   refine eTakeF (k := 7) (i := 7) rfl (by kernel_rfl) F rfl rfl rfl (fun w => rBin F rfl rfl (bSubN (j := 1) ?_ ?_)) H (fun _ _ _ h => h) ?_
   focus omega
   focus omega
   clear F a; intro a F
   refine eTakeF (k := 8) (i := 8) rfl (by kernel_rfl) F rfl rfl rfl (fun w => rIx underlying23 sizeOf5 F rfl rfl ?_) H (fun _ _ _ h => h) ?_
   focus (first | omega | decide | (simp; omega))
   clear F a; intro a F;refine eT 9 rfl (by kernel_rfl) F rfl rfl rfl rfl (fun w H=>rLd isAgg5 F rfl (H.bytCell 0 rfl (by omega))) H qq0 (qTF 10 rfl (by kernel_rfl) rfl rfl rfl (fun a F w=>rMv F rfl) H qq0 (qTF 11 rfl (by kernel_rfl) rfl rfl rfl (fun a F w=>rMv F rfl) H qq0 ?_));clear F a;intro a F
   refine eTakeF (k := 12) (i := 12) rfl (by kernel_rfl) F rfl rfl rfl (fun w => rIx underlying23 sizeOf5 F rfl rfl ?_) H (fun _ _ _ h => h) ?_
   focus (first | omega | decide | (simp; omega))
   clear F a; intro a F;refine eT 13 rfl (by kernel_rfl) F rfl rfl rfl rfl (fun w H=>rLd isAgg5 F rfl (H.bytCell 0 rfl (by omega))) H qq0 ?_;clear F a;intro a F
   refine eTakeF (k := 14) (i := 14) rfl (by kernel_rfl) F rfl rfl rfl (fun w => rIx underlying23 sizeOf5 F rfl rfl ?_) H (fun _ _ _ h => h) ?_
   focus (first | omega | decide | (simp; omega))
   clear F a; intro a F;refine eOne (k := 15) (i := 15) rfl (by kernel_rfl) F rfl (oStY H 0 sizeOf5 F rfl rfl rfl (by omega) ?_);clear H; intro w H;refine ePartO (by kernel_rfl) H ?_
   refine eTakeF (k := 16) (i := 16) rfl (by kernel_rfl) F rfl rfl rfl (fun w => rIx underlying23 sizeOf5 F rfl rfl ?_) H (fun _ _ _ h => h) ?_
   focus (first | omega | decide | (simp; omega))
   clear F a; intro a F;refine eOne (k := 17) (i := 17) rfl (by kernel_rfl) F rfl (oStY H 0 sizeOf5 F rfl rfl rfl (by omega) ?_);clear H; intro w H;refine ePartO (by kernel_rfl) H ?_;refine eNil (k := 18) (by kernel_rfl) ?_;refine hK16 _ _ ?_;clear hK16
   refine cSeqJ [0, 1, 2, 7, 8] (fun ups w => ∃ (f : By), ups = [] ∧ Srt lo i f ∧ Sm lo up d f ∧ Own W row w (.byt g n c f :: rs)) F (by repeat (first | exact SubR.nil | (apply SubR.cons; · rfl))) ?_ ?_
   ·
    refine cSR fun K17 hK17=>sMv F rfl rfl rfl (qMv rfl rfl rfl ?_);clear F a;intro a F
    refine sBin F rfl rfl rfl rfl (bSubN ?_ ?_) ?_
    focus omega
    focus omega
    clear F a; intro a F;refine sBin F rfl rfl rfl rfl bGeq (qNK hK17 ?_);clear hK17;clear F a;intro a F
    refine cIf F rfl (fun h61 => ?_) (fun h61 => ?_)
    ·
     replace h61 := of_decide_eq_true h61;refine cSR fun K18 hK18=>sMv F rfl rfl rfl ?_;clear F a;intro a F
     refine sBin F rfl rfl rfl rfl (bSubN (j := 1) ?_ ?_) ?_
     focus omega
     focus omega
     clear F a; intro a F;refine sAs F rfl rfl rfl (qNK hK18 ?_);clear hK18;clear F a;intro a F;refine wp_block ?_
     refine cLoopR [0, 1, 2, 7, 8] (fun m ups w => ∃ (j : Nat) (f : By), m = j + 1 ∧ ups = [(9, .int .i64 ((j : Nat) : Int))] ∧ Insd lo (i - 1) j f ∧ Sm lo up d f ∧ Own W row w (.byt g n c f :: rs)) F (i - 1 + 1) [(9, .int .i64 ((i - 1 : Nat) : Int))] (by repeat (first | exact SubR.nil | (apply SubR.cons; · rfl))) ?_ ?_ ?_
     · have hs1 : Srt lo (i - 1) (swp e i (i - 1)) := fun k h1 h2 => by
         unfold swp
         rw [if_neg (by omega), if_neg (by omega), if_neg (by omega), if_neg (by omega)]
         exact hsr k h1 (by omega)
       exact ⟨i - 1, _, rfl, rfl, Insd.start hs1 (by omega), hsm.trans (Sm.swap e (by omega) (by omega) (by omega) (by omega)), swp_now H⟩
     · repeat (first | exact trivial | refine Le.cons rfl ?_)
     clear F
     clear H
     intro m ups a w hI F
     obtain ⟨j, f, rfl, rfl, hins, hsm3, H⟩ := hI; have hjl := hins.lo; have hjh := hins.hi
     refine cSeq (fun K19 hK19 => ?_);refine cSR fun K20 hK20=>sMv F rfl rfl rfl (qBin rfl rfl rfl rfl bGeq (qNK hK20 ?_));clear hK20;clear F a;intro a F
     refine cIf F rfl (fun h65 => ?_) (fun h65 => ?_)
     ·
      replace h65 := of_decide_eq_true h65;refine wp_skip (hK19 _ _ ?_);clear hK19;refine cSeq (fun K21 hK21 => ?_);refine wp_block ?_;refine cSeq (fun K22 hK22 => ?_);refine cSeq (fun K23 hK23 => ?_);refine cRegRO (by kernel_rfl) H ?_;replace H := H.drew;refine eTF 0 rfl (by kernel_rfl) F rfl rfl rfl (fun w=>rMv F rfl) H qq0 (qTF 1 rfl (by kernel_rfl) rfl rfl rfl (fun a F w=>rMv F rfl) H qq0 ?_);clear F a;intro a F
      refine eTakeF (k := 2) (i := 2) rfl (by kernel_rfl) F rfl rfl rfl (fun w => rIx underlying23 sizeOf5 F rfl rfl ?_) H (fun _ _ _ h => h) ?_
      focus (first | omega | decide | (simp; omega))
      clear F a; intro a F;refine eT 3 rfl (by kernel_rfl) F rfl rfl rfl rfl (fun w H=>rLd isAgg5 F rfl (H.bytCell 0 rfl (by omega))) H qq0 (qTF 4 rfl (by kernel_rfl) rfl rfl rfl (fun a F w=>rMv F rfl) H qq0 (qTF 5 rfl (by kernel_rfl) rfl rfl rfl (fun a F w=>rMv F rfl) H qq0 ?_));clear F a;intro a F
      refine eTakeF (k := 6) (i := 6) rfl (by kernel_rfl) F rfl rfl rfl (fun w => rBin F rfl rfl (bSubN (j := 1) ?_ ?_)) H (fun _ _ _ h => h) ?_
      focus omega
      focus omega
      clear F a; intro a F
      refine eTakeF (k := 7) (i := 7) rfl (by kernel_rfl) F rfl rfl rfl (fun w => rIx underlying23 sizeOf5 F rfl rfl ?_) H (fun _ _ _ h => h) ?_
      focus (first | omega | decide | (simp; omega))
      clear F a; intro a F;refine eT 8 rfl (by kernel_rfl) F rfl rfl rfl rfl (fun w H=>rLd isAgg5 F rfl (H.bytCell 0 rfl (by omega))) H qq0 ?_;clear F a;intro a F;refine eOne (k := 9) (i := 9) rfl (by kernel_rfl) F rfl (oCall call117 F rfl rfl (less_any (f j) (f (j - 1)) _) ?_);rintro e w ⟨rfl, hb⟩;replace H := H.grow hb; clear hb;refine ⟨_, rfl, ?_⟩;clear F a; intro a F;refine ePartO (by kernel_rfl) H ?_;refine eTF 10 rfl (by kernel_rfl) F rfl rfl rfl (fun w=>rNot F rfl) H qq0 ?_;clear F a;intro a F;refine eNil (k := 11) (by kernel_rfl) ?_;refine hK23 _ _ ?_;clear hK23
      refine cIf F rfl (fun h78 => ?_) (fun h78 => ?_)
      ·
       replace h78 := notT h78;refine wp_exit ?_
       first
       | (have h78' : ¬ (f j).toNat < (f (j - 1)).toNat := by simpa using h78
          have hd := hins.done (.inr h78')
          rw [show i - 1 + 1 = i by omega] at hd
          exact ⟨_, ⟨f, rfl, hd, hsm3, H⟩, F.to (by repeat (first | exact trivial | refine Le.cons rfl ?_))⟩)
       | (have hd := hins.done (.inl (by omega))
          rw [show i - 1 + 1 = i by omega] at hd
          exact ⟨_, ⟨f, rfl, hd, hsm3, H⟩, F.to (by repeat (first | exact trivial | refine Le.cons rfl ?_))⟩)
       | exact ⟨_, ⟨_, rfl, Srt.small _ (by omega), hsm.trans (Sm.swap e (by omega) (by omega) (by omega) (by omega)), swp_now H⟩, F.to (by repeat (first | exact trivial | refine Le.cons rfl ?_))⟩
      replace h78 := notF h78;refine wp_skip (hK22 _ _ ?_);clear hK22;refine cRegRO (by kernel_rfl) H ?_;replace H := H.drew;refine eTF 0 rfl (by kernel_rfl) F rfl rfl rfl (fun w=>rMv F rfl) H qq0 (qTF 1 rfl (by kernel_rfl) rfl rfl rfl (fun a F w=>rMv F rfl) H qq0 (qTF 2 rfl (by kernel_rfl) rfl rfl rfl (fun a F w=>rMv F rfl) H qq0 (qTF 3 rfl (by kernel_rfl) rfl rfl rfl (fun a F w=>rMv F rfl) H qq0 ?_)));clear F a;intro a F
      refine eTakeF (k := 4) (i := 4) rfl (by kernel_rfl) F rfl rfl rfl (fun w => rBin F rfl rfl (bSubN (j := 1) ?_ ?_)) H (fun _ _ _ h => h) ?_
      focus omega
      focus omega
      clear F a; intro a F;refine eTF 5 rfl (by kernel_rfl) F rfl rfl rfl (fun w=>rMv F rfl) H qq0 (qTF 6 rfl (by kernel_rfl) rfl rfl rfl (fun a F w=>rMv F rfl) H qq0 ?_);clear F a;intro a F
      refine eTakeF (k := 7) (i := 7) rfl (by kernel_rfl) F rfl rfl rfl (fun w => rBin F rfl rfl (bSubN (j := 1) ?_ ?_)) H (fun _ _ _ h => h) ?_
      focus omega
      focus omega
      clear F a; intro a F
      refine eTakeF (k := 8) (i := 8) rfl (by kernel_rfl) F rfl rfl rfl (fun w => rIx underlying23 sizeOf5 F rfl rfl ?_) H (fun _ _ _ h => h) ?_
      focus (first | omega | decide | (simp; omega))
      clear F a; intro a F;refine eT 9 rfl (by kernel_rfl) F rfl rfl rfl rfl (fun w H=>rLd isAgg5 F rfl (H.bytCell 0 rfl (by omega))) H qq0 (qTF 10 rfl (by kernel_rfl) rfl rfl rfl (fun a F w=>rMv F rfl) H qq0 (qTF 11 rfl (by kernel_rfl) rfl rfl rfl (fun a F w=>rMv F rfl) H qq0 ?_));clear F a;intro a F
      refine eTakeF (k := 12) (i := 12) rfl (by kernel_rfl) F rfl rfl rfl (fun w => rIx underlying23 sizeOf5 F rfl rfl ?_) H (fun _ _ _ h => h) ?_
      focus (first | omega | decide | (simp; omega))
      clear F a; intro a F;refine eT 13 rfl (by kernel_rfl) F rfl rfl rfl rfl (fun w H=>rLd isAgg5 F rfl (H.bytCell 0 rfl (by omega))) H qq0 ?_;clear F a;intro a F
      refine eTakeF (k := 14) (i := 14) rfl (by kernel_rfl) F rfl rfl rfl (fun w => rIx underlying23 sizeOf5 F rfl rfl ?_) H (fun _ _ _ h => h) ?_
      focus (first | omega | decide | (simp; omega))
      clear F a; intro a F;refine eOne (k := 15) (i := 15) rfl (by kernel_rfl) F rfl (oStY H 0 sizeOf5 F rfl rfl rfl (by omega) ?_);clear H; intro w H;refine ePartO (by kernel_rfl) H ?_
      refine eTakeF (k := 16) (i := 16) rfl (by kernel_rfl) F rfl rfl rfl (fun w => rIx underlying23 sizeOf5 F rfl rfl ?_) H (fun _ _ _ h => h) ?_
      focus (first | omega | decide | (simp; omega))
      clear F a; intro a F;refine eOne (k := 17) (i := 17) rfl (by kernel_rfl) F rfl (oStY H 0 sizeOf5 F rfl rfl rfl (by omega) ?_);clear H; intro w H;refine ePartO (by kernel_rfl) H ?_;refine eNil (k := 18) (by kernel_rfl) ?_;refine hK21 _ _ (cReg (sMv F rfl rfl rfl ?_));clear hK21;clear F a;intro a F
      refine sBin F rfl rfl rfl rfl (bSubN (j := 1) ?_ ?_) ?_
      focus omega
      focus omega
      clear F a; intro a F;refine sAs F rfl rfl rfl ?_;clear F a;intro a F;refine sNil ?_
      have h78' : (f j).toNat < (f (j - 1)).toNat := by simpa using h78
      have hlj : lo < j := by
        rcases Nat.lt_or_ge lo j with h | h
        · exact h
        · have hjo : j = lo := by omega
          have := hstop f hsm3 (by omega)
          rw [hjo] at h78'
          omega
      exact ⟨_, by omega, _, ⟨j - 1, _, rfl, rfl, hins.step hlj h78', hsm3.trans (Sm.swap f (by omega) (by omega) (by omega) (by omega)), swp_now H⟩, F.to (by repeat (first | exact trivial | refine Le.cons rfl ?_))⟩
     replace h65 := of_decide_eq_false h65;refine wp_exit ?_
     first
     | (have h78' : ¬ (f j).toNat < (f (j - 1)).toNat := by simpa using h78
        have hd := hins.done (.inr h78')
        rw [show i - 1 + 1 = i by omega] at hd
        exact ⟨_, ⟨f, rfl, hd, hsm3, H⟩, F.to (by repeat (first | exact trivial | refine Le.cons rfl ?_))⟩)
     | (have hd := hins.done (.inl (by omega))
        rw [show i - 1 + 1 = i by omega] at hd
        exact ⟨_, ⟨f, rfl, hd, hsm3, H⟩, F.to (by repeat (first | exact trivial | refine Le.cons rfl ?_))⟩)
     | exact ⟨_, ⟨_, rfl, Srt.small _ (by omega), hsm.trans (Sm.swap e (by omega) (by omega) (by omega) (by omega)), swp_now H⟩, F.to (by repeat (first | exact trivial | refine Le.cons rfl ?_))⟩
    replace h61 := of_decide_eq_false h61;refine wp_skip ?_
    first
    | (have h78' : ¬ (f j).toNat < (f (j - 1)).toNat := by simpa using h78
       have hd := hins.done (.inr h78')
       rw [show i - 1 + 1 = i by omega] at hd
       exact ⟨_, ⟨f, rfl, hd, hsm3, H⟩, F.to (by repeat (first | exact trivial | refine Le.cons rfl ?_))⟩)
    | (have hd := hins.done (.inl (by omega))
       rw [show i - 1 + 1 = i by omega] at hd
       exact ⟨_, ⟨f, rfl, hd, hsm3, H⟩, F.to (by repeat (first | exact trivial | refine Le.cons rfl ?_))⟩)
    | exact ⟨_, ⟨_, rfl, Srt.small _ (by omega), hsm.trans (Sm.swap e (by omega) (by omega) (by omega) (by omega)), swp_now H⟩, F.to (by repeat (first | exact trivial | refine Le.cons rfl ?_))⟩
   clear F H
   intro ups a w hI F
   obtain ⟨f, rfl, hsr4, hsm4, H⟩ := hI
   refine cSR fun K24 hK24=>sMv F rfl rfl rfl (qMv rfl rfl rfl ?_);clear F a;intro a F
   refine sBin F rfl rfl rfl rfl (bSubN ?_ ?_) ?_
   focus omega
   focus omega
   clear F a; intro a F;refine sBin F rfl rfl rfl rfl bGeq (qNK hK24 ?_);clear hK24;clear F a;intro a F
   refine cIf F rfl (fun h98 => ?_) (fun h98 => ?_)
   ·
    replace h98 := of_decide_eq_true h98;refine cSR fun K25 hK25=>sMv F rfl rfl rfl ?_;clear F a;intro a F
    refine sBin F rfl rfl rfl rfl (bAddN (j := 1) ?_) ?_
    focus omega
    clear F a; intro a F;refine sAs F rfl rfl rfl (qNK hK25 ?_);clear hK25;clear F a;intro a F;refine wp_block ?_
    refine cLoopR [0, 1, 2, 7, 8] (fun m ups w => ∃ (j : Nat) (f : By), m = up - j ∧ ups = [(10, .int .i64 ((j : Nat) : Int))] ∧ i + 1 ≤ j ∧ Srt lo i f ∧ Sm lo up d f ∧ Own W row w (.byt g n c f :: rs)) F (up - (i + 1)) [(10, .int .i64 ((i + 1 : Nat) : Int))] (by repeat (first | exact SubR.nil | (apply SubR.cons; · rfl))) ?_ ?_ ?_
    · exact ⟨i + 1, f, rfl, rfl, Nat.le_refl _, hsr4, hsm4, H⟩
    · repeat (first | exact trivial | refine Le.cons rfl ?_)
    clear F
    clear H
    intro m ups a w hI F
    clear hsr4 hsm4; obtain ⟨j, f, rfl, rfl, hij, hsr4, hsm4, H⟩ := hI
    refine cSeq (fun K26 hK26 => ?_);refine cSR fun K27 hK27=>sMv F rfl rfl rfl (qMv rfl rfl rfl (qBin rfl rfl rfl rfl bLss (qNK hK27 ?_)));clear hK27;clear F a;intro a F
    refine cIf F rfl (fun h103 => ?_) (fun h103 => ?_)
    ·
     replace h103 := of_decide_eq_true h103;refine wp_skip (hK26 _ _ ?_);clear hK26;refine cSeq (fun K28 hK28 => ?_);refine wp_block ?_;refine cSeq (fun K29 hK29 => ?_);refine cSeq (fun K30 hK30 => ?_);refine cRegRO (by kernel_rfl) H ?_;replace H := H.drew;refine eTF 0 rfl (by kernel_rfl) F rfl rfl rfl (fun w=>rMv F rfl) H qq0 (qTF 1 rfl (by kernel_rfl) rfl rfl rfl (fun a F w=>rMv F rfl) H qq0 ?_);clear F a;intro a F
     refine eTakeF (k := 2) (i := 2) rfl (by kernel_rfl) F rfl rfl rfl (fun w => rIx underlying23 sizeOf5 F rfl rfl ?_) H (fun _ _ _ h => h) ?_
     focus (first | omega | decide | (simp; omega))
     clear F a; intro a F;refine eT 3 rfl (by kernel_rfl) F rfl rfl rfl rfl (fun w H=>rLd isAgg5 F rfl (H.bytCell 0 rfl (by omega))) H qq0 (qTF 4 rfl (by kernel_rfl) rfl rfl rfl (fun a F w=>rMv F rfl) H qq0 (qTF 5 rfl (by kernel_rfl) rfl rfl rfl (fun a F w=>rMv F rfl) H qq0 ?_));clear F a;intro a F
     refine eTakeF (k := 6) (i := 6) rfl (by kernel_rfl) F rfl rfl rfl (fun w => rBin F rfl rfl (bSubN (j := 1) ?_ ?_)) H (fun _ _ _ h => h) ?_
     focus omega
     focus omega
     clear F a; intro a F
     refine eTakeF (k := 7) (i := 7) rfl (by kernel_rfl) F rfl rfl rfl (fun w => rIx underlying23 sizeOf5 F rfl rfl ?_) H (fun _ _ _ h => h) ?_
     focus (first | omega | decide | (simp; omega))
     clear F a; intro a F;refine eT 8 rfl (by kernel_rfl) F rfl rfl rfl rfl (fun w H=>rLd isAgg5 F rfl (H.bytCell 0 rfl (by omega))) H qq0 ?_;clear F a;intro a F;refine eOne (k := 9) (i := 9) rfl (by kernel_rfl) F rfl (oCall call117 F rfl rfl (less_any (f j) (f (j - 1)) _) ?_);rintro e w ⟨rfl, hb⟩;replace H := H.grow hb; clear hb;refine ⟨_, rfl, ?_⟩;clear F a; intro a F;refine ePartO (by kernel_rfl) H ?_;refine eTF 10 rfl (by kernel_rfl) F rfl rfl rfl (fun w=>rNot F rfl) H qq0 ?_;clear F a;intro a F;refine eNil (k := 11) (by kernel_rfl) ?_;refine hK30 _ _ ?_;clear hK30
     refine cIf F rfl (fun h116 => ?_) (fun h116 => ?_)
     ·
      replace h116 := notT h116;refine wp_exit ?_;refine hK7 _ _ (cReg (sMv F rfl rfl rfl ?_));clear hK7;clear F a;intro a F
      refine sBin F rfl rfl rfl rfl (bAddN (j := 1) ?_) ?_
      focus omega
      clear F a; intro a F;refine sAs F rfl rfl rfl ?_;clear F a;intro a F;refine sNil ?_
      exact ⟨_, by omega, _, ⟨i, q + 1, f, rfl, rfl, hli, hiu, hsr4, hsm4, H⟩, F.to (by repeat (first | exact trivial | refine Le.cons rfl ?_))⟩
     replace h116 := notF h116;refine wp_skip (hK29 _ _ ?_);clear hK29;refine cRegRO (by kernel_rfl) H ?_;replace H := H.drew;refine eTF 0 rfl (by kernel_rfl) F rfl rfl rfl (fun w=>rMv F rfl) H qq0 (qTF 1 rfl (by kernel_rfl) rfl rfl rfl (fun a F w=>rMv F rfl) H qq0 (qTF 2 rfl (by kernel_rfl) rfl rfl rfl (fun a F w=>rMv F rfl) H qq0 (qTF 3 rfl (by kernel_rfl) rfl rfl rfl (fun a F w=>rMv F rfl) H qq0 ?_)));clear F a;intro a F
     refine eTakeF (k := 4) (i := 4) rfl (by kernel_rfl) F rfl rfl rfl (fun w => rBin F rfl rfl (bSubN (j := 1) ?_ ?_)) H (fun _ _ _ h => h) ?_
     focus omega
     focus omega
     clear F a; intro a F;refine eTF 5 rfl (by kernel_rfl) F rfl rfl rfl (fun w=>rMv F rfl) H qq0 (qTF 6 rfl (by kernel_rfl) rfl rfl rfl (fun a F w=>rMv F rfl) H qq0 ?_);clear F a;intro a F
     refine eTakeF (k := 7) (i := 7) rfl (by kernel_rfl) F rfl rfl rfl (fun w => rBin F rfl rfl (bSubN (j := 1) ?_ ?_)) H (fun _ _ _ h => h) ?_
     focus omega
     focus omega
     clear F a; intro a F
     refine eTakeF (k := 8) (i := 8) rfl (by kernel_rfl) F rfl rfl rfl (fun w => rIx underlying23 sizeOf5 F rfl rfl ?_) H (fun _ _ _ h => h) ?_
     focus (first | omega | decide | (simp; omega))
     clear F a; intro a F;refine eT 9 rfl (by kernel_rfl) F rfl rfl rfl rfl (fun w H=>rLd isAgg5 F rfl (H.bytCell 0 rfl (by omega))) H qq0 (qTF 10 rfl (by kernel_rfl) rfl rfl rfl (fun a F w=>rMv F rfl) H qq0 (qTF 11 rfl (by kernel_rfl) rfl rfl rfl (fun a F w=>rMv F rfl) H qq0 ?_));clear F a;intro a F
     refine eTakeF (k := 12) (i := 12) rfl (by kernel_rfl) F rfl rfl rfl (fun w => rIx underlying23 sizeOf5 F rfl rfl ?_) H (fun _ _ _ h => h) ?_
     focus (first | omega | decide | (simp; omega))
     clear F a; intro a F;refine eT 13 rfl (by kernel_rfl) F rfl rfl rfl rfl (fun w H=>rLd isAgg5 F rfl (H.bytCell 0 rfl (by omega))) H qq0 ?_;clear F a;intro a F
     refine eTakeF (k := 14) (i := 14) rfl (by kernel_rfl) F rfl rfl rfl (fun w => rIx underlying23 sizeOf5 F rfl rfl ?_) H (fun _ _ _ h => h) ?_
     focus (first | omega | decide | (simp; omega))
     clear F a; intro a F;refine eOne (k := 15) (i := 15) rfl (by kernel_rfl) F rfl (oStY H 0 sizeOf5 F rfl rfl rfl (by omega) ?_);clear H; intro w H;refine ePartO (by kernel_rfl) H ?_
     refine eTakeF (k := 16) (i := 16) rfl (by kernel_rfl) F rfl rfl rfl (fun w => rIx underlying23 sizeOf5 F rfl rfl ?_) H (fun _ _ _ h => h) ?_
     focus (first | omega | decide | (simp; omega))
     clear F a; intro a F;refine eOne (k := 17) (i := 17) rfl (by kernel_rfl) F rfl (oStY H 0 sizeOf5 F rfl rfl rfl (by omega) ?_);clear H; intro w H;refine ePartO (by kernel_rfl) H ?_;refine eNil (k := 18) (by kernel_rfl) ?_;refine hK28 _ _ (cReg (sMv F rfl rfl rfl ?_));clear hK28;clear F a;intro a F
     refine sBin F rfl rfl rfl rfl (bAddN (j := 1) ?_) ?_
     focus omega
     clear F a; intro a F;refine sAs F rfl rfl rfl ?_;clear F a;intro a F;refine sNil ?_
     exact ⟨_, by omega, _, ⟨j + 1, _, rfl, rfl, by omega, hsr4.out (Sm.swap f (a := i) (b := up) (by omega) (by omega) (by omega) (by omega)) (.inl (Nat.le_refl _)), hsm4.trans (Sm.swap f (by omega) (by omega) (by omega) (by omega)), swp_now H⟩, F.to (by repeat (first | exact trivial | refine Le.cons rfl ?_))⟩
    replace h103 := of_decide_eq_false h103;refine wp_exit ?_;refine hK7 _ _ (cReg (sMv F rfl rfl rfl ?_));clear hK7;clear F a;intro a F
    refine sBin F rfl rfl rfl rfl (bAddN (j := 1) ?_) ?_
    focus omega
    clear F a; intro a F;refine sAs F rfl rfl rfl ?_;clear F a;intro a F;refine sNil ?_
    exact ⟨_, by omega, _, ⟨i, q + 1, f, rfl, rfl, hli, hiu, hsr4, hsm4, H⟩, F.to (by repeat (first | exact trivial | refine Le.cons rfl ?_))⟩
   replace h98 := of_decide_eq_false h98;refine wp_skip (hK7 _ _ (cReg (sMv F rfl rfl rfl ?_)));clear hK7;clear F a;intro a F
   refine sBin F rfl rfl rfl rfl (bAddN (j := 1) ?_) ?_
   focus omega
   clear F a; intro a F;refine sAs F rfl rfl rfl ?_;clear F a;intro a F;refine sNil ?_
   exact ⟨_, by omega, _, ⟨i, q + 1, f, rfl, rfl, hli, hiu, hsr4, hsm4, H⟩, F.to (by repeat (first | exact trivial | refine Le.cons rfl ?_))⟩
  replace h14 := of_decide_eq_false h14;refine wp_exit ?_;refine hK3 _ _ (cSR fun K31 hK31=>sAs F rfl rfl rfl (qNK hK31 ?_));clear hK3 hK31;clear F a;intro a F;refine wp_ret ?_;refine bRet results116 F rfl ?_
  first
  | (obtain rfl : i = up := by omega
     exact ⟨true, e, rfl, hsm, fun _ => hsr, H⟩)
  | exact ⟨false, e, rfl, hsm, fun h => (by cases h), H⟩
end Go.Proofs.YtklpiodciblabaaGreatDoor
