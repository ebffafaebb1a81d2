/-
  WALK2. slices.Sort at bytes: the two partitions. Conditions: the slice is the caller's own.
-/
import Derived.Test.YtklpiodciblabaaGreatDoorSoE
set_option linter.unusedSimpArgs false
set_option linter.unusedVariables false
namespace Go.Proofs.YtklpiodciblabaaGreatDoor
open Go.Proofs.Tryz
open Go.RowKit
set_option maxRecDepth 100000
set_option maxHeartbeats 2000000 in
theorem partEq_any (g n c : Nat) (d : By) (lo up pv : Nat) (W : World) (row : Option Nat) (rs : List Res) (w0 : World) (H : Own W row w0 (.byt g n c d :: rs)) (hb : up ≤ n) (hn : n ≤ 1000000) (hlo : lo ≤ pv) (hup : pv < up) :
    Calls Tryz.prog 118 #[.slice (some ⟨g, 0, none⟩) n c, .int .i64 (lo : Int), .int .i64 (up : Int), .int .i64 (pv : Int)] w0 fun e w' => ∃ (m : Nat) (d' : By), e = .returned (.int .i64 (m : Int)) ∧ Sm lo up d d' ∧ lo < m ∧ m ≤ up ∧ d' lo = d pv ∧ (∀ k, lo < k → k < m → (d' k).toNat ≤ (d' lo).toNat) ∧ (∀ k, m ≤ k → k < up → (d' lo).toNat < (d' k).toNat) ∧ Own W row w' (.byt g n c d' :: rs) := by
  refine enterF func118 rfl ntmps118 rfl (fun a F => ?_);refine cSR fun K1 hK1=>sAs F rfl rfl rfl (qNK hK1 ?_);clear hK1;clear F a;intro a F;refine cSeq (fun K2 hK2 => ?_);refine cRegRO (by kernel_rfl) H ?_;replace H := H.drew;refine eTF 0 rfl (by kernel_rfl) F rfl rfl rfl (fun w=>rMv F rfl) H qq0 (qTF 1 rfl (by kernel_rfl) rfl rfl rfl (fun a F w=>rMv F rfl) H qq0 (qTF 2 rfl (by kernel_rfl) rfl rfl rfl (fun a F w=>rMv F rfl) H qq0 (qTF 3 rfl (by kernel_rfl) rfl rfl rfl (fun a F w=>rMv F rfl) H qq0 (qTF 4 rfl (by kernel_rfl) rfl rfl rfl (fun a F w=>rMv F rfl) H qq0 (qTF 5 rfl (by kernel_rfl) rfl rfl rfl (fun a F w=>rMv F rfl) H qq0 ?_)))));clear F a;intro a F
  refine eTakeF (k := 6) (i := 6) rfl (by kernel_rfl) F rfl rfl rfl (fun w => rIx underlying23 sizeOf5 F rfl rfl ?_) H (fun _ _ _ h => h) ?_
  focus (first | omega | decide | (simp; omega))
  clear F a; intro a F;refine eT 7 rfl (by kernel_rfl) F rfl rfl rfl rfl (fun w H=>rLd isAgg5 F rfl (H.bytCell 0 rfl (by omega))) H qq0 (qTF 8 rfl (by kernel_rfl) rfl rfl rfl (fun a F w=>rMv F rfl) H qq0 (qTF 9 rfl (by kernel_rfl) rfl rfl rfl (fun a F w=>rMv F rfl) H qq0 ?_));clear F a;intro a F
  refine eTakeF (k := 10) (i := 10) rfl (by kernel_rfl) F rfl rfl rfl (fun w => rIx underlying23 sizeOf5 F rfl rfl ?_) H (fun _ _ _ h => h) ?_
  focus (first | omega | decide | (simp; omega))
  clear F a; intro a F;refine eT 11 rfl (by kernel_rfl) F rfl rfl rfl rfl (fun w H=>rLd isAgg5 F rfl (H.bytCell 0 rfl (by omega))) H qq0 ?_;clear F a;intro a F
  refine eTakeF (k := 12) (i := 12) rfl (by kernel_rfl) F rfl rfl rfl (fun w => rIx underlying23 sizeOf5 F rfl rfl ?_) H (fun _ _ _ h => h) ?_
  focus (first | omega | decide | (simp; omega))
  clear F a; intro a F;refine eOne (k := 13) (i := 13) rfl (by kernel_rfl) F rfl (oStY H 0 sizeOf5 F rfl rfl rfl (by omega) ?_);clear H; intro w H;refine ePartO (by kernel_rfl) H ?_
  refine eTakeF (k := 14) (i := 14) rfl (by kernel_rfl) F rfl rfl rfl (fun w => rIx underlying23 sizeOf5 F rfl rfl ?_) H (fun _ _ _ h => h) ?_
  focus (first | omega | decide | (simp; omega))
  clear F a; intro a F;refine eOne (k := 15) (i := 15) rfl (by kernel_rfl) F rfl (oStY H 0 sizeOf5 F rfl rfl rfl (by omega) ?_);clear H; intro w H;refine ePartO (by kernel_rfl) H ?_;refine eNil (k := 16) (by kernel_rfl) ?_;refine hK2 _ _ (cSR fun K3 hK3=>sMv F rfl rfl rfl ?_);clear hK2;clear F a;intro a F
  refine sBin F rfl rfl rfl rfl (bAddN (j := 1) ?_) ?_
  focus omega
  clear F a; intro a F;refine sMv F rfl rfl rfl ?_;clear F a;intro a F
  refine sBin F rfl rfl rfl rfl (bSubN (j := 1) ?_ ?_) ?_
  focus omega
  focus omega
  clear F a; intro a F;refine sAs F rfl rfl rfl (qAs rfl rfl rfl (qNK hK3 ?_));clear hK3;clear F a;intro a F;refine cSeq (fun K4 hK4 => ?_);refine wp_block ?_
  refine cLoopR [0, 1] (fun m ups w => ∃ (i j : Nat) (e : By), m = j + 1 ∧ ups = [(9, .int .i64 ((i : Nat) : Int)), (10, .int .i64 ((j : Nat) : Int))] ∧ Pe lo up i j e ∧ e lo = d pv ∧ Sm lo up d e ∧ Own W row w (.byt g n c e :: rs)) F (up - 1 + 1) [(9, .int .i64 ((lo + 1 : Nat) : Int)), (10, .int .i64 ((up - 1 : Nat) : Int))] (by repeat (first | exact SubR.nil | (apply SubR.cons; · rfl))) ?_ ?_ ?_
  · exact ⟨lo + 1, up - 1, _, rfl, rfl, ⟨Nat.le_refl _, by omega, by omega, fun k h1 h2 => by omega, fun k h1 h2 => by omega⟩, by unfold swp; rw [if_pos rfl], Sm.swap d (by omega) (by omega) (by omega) (by omega), swp_now H⟩
  · repeat (first | exact trivial | refine Le.cons rfl ?_)
  clear F
  clear H
  intro m ups a w hI F
  obtain ⟨i, j, e, rfl, rfl, hpe, hel, hsm, H⟩ := hI
  refine wp_block ?_;refine cSeq (fun K5 hK5 => ?_);refine wp_block ?_
  refine cLoopR [0, 1, 10] (fun m ups w => ∃ (i : Nat), m = j + 1 - i ∧ ups = [(9, .int .i64 ((i : Nat) : Int))] ∧ Pe lo up i j e ∧ Own W row w (.byt g n c e :: rs)) F (j + 1 - i) [(9, .int .i64 ((i : Nat) : Int))] (by repeat (first | exact SubR.nil | (apply SubR.cons; · rfl))) ?_ ?_ ?_
  · exact ⟨i, rfl, rfl, hpe, H⟩
  · repeat (first | exact trivial | refine Le.cons rfl ?_)
  clear F
  clear H
  intro m ups a w hI F
  clear hpe; obtain ⟨i, rfl, rfl, hpe, H⟩ := hI; have q1 := hpe.lo; have q2 := hpe.ij; have q3 := hpe.jb
  refine cSeq (fun K6 hK6 => ?_);refine cSeq (fun K7 hK7 => ?_);refine cRegRO (by kernel_rfl) H ?_;replace H := H.drew;refine eTF 0 rfl (by kernel_rfl) F rfl rfl rfl (fun w=>rMv F rfl) H qq0 (qTF 1 rfl (by kernel_rfl) rfl rfl rfl (fun a F w=>rMv F rfl) H qq0 (qTF 2 rfl (by kernel_rfl) rfl rfl rfl (fun a F w=>rBin F rfl rfl bLeq) H qq0 (qTF 3 rfl (by kernel_rfl) rfl rfl rfl (fun a F w=>rMv F rfl) H qq0 ?_)));clear F a;intro a F
  refine F.split 32 rfl ?_ ?_ <;> (clear F; intro h32 F)
  ·
   replace h32 := of_decide_eq_true h32;refine eTF 4 rfl (by kernel_rfl) F rfl rfl rfl (fun w=>rMv F rfl) H qq0 (qTF 5 rfl (by kernel_rfl) rfl rfl rfl (fun a F w=>rMv F rfl) H qq0 ?_);clear F a;intro a F
   refine eTakeF (k := 6) (i := 6) rfl (by kernel_rfl) F rfl rfl rfl (fun w => rIx underlying23 sizeOf5 F rfl rfl ?_) H (fun _ _ _ h => h) ?_
   focus (first | omega | decide | (simp; omega))
   clear F a; intro a F;refine eT 7 rfl (by kernel_rfl) F rfl rfl rfl rfl (fun w H=>rLd isAgg5 F rfl (H.bytCell 0 rfl (by omega))) H qq0 (qTF 8 rfl (by kernel_rfl) rfl rfl rfl (fun a F w=>rMv F rfl) H qq0 (qTF 9 rfl (by kernel_rfl) rfl rfl rfl (fun a F w=>rMv F rfl) H qq0 ?_));clear F a;intro a F
   refine eTakeF (k := 10) (i := 10) rfl (by kernel_rfl) F rfl rfl rfl (fun w => rIx underlying23 sizeOf5 F rfl rfl ?_) H (fun _ _ _ h => h) ?_
   focus (first | omega | decide | (simp; omega))
   clear F a; intro a F;refine eT 11 rfl (by kernel_rfl) F rfl rfl rfl rfl (fun w H=>rLd isAgg5 F rfl (H.bytCell 0 rfl (by omega))) H qq0 ?_;clear F a;intro a F;refine eOne (k := 12) (i := 12) rfl (by kernel_rfl) F rfl (oCall call117 F rfl rfl (less_any (e lo) (e i) _) ?_);rintro e w ⟨rfl, hb⟩;replace H := H.grow hb; clear hb;refine ⟨_, rfl, ?_⟩;clear F a; intro a F;refine ePartO (by kernel_rfl) H ?_;refine eTF 13 rfl (by kernel_rfl) F rfl rfl rfl (fun w=>rNot F rfl) H qq0 (qTF 14 rfl (by kernel_rfl) rfl rfl rfl (fun a F w=>rPk F rfl rfl) H qq0 ?_);clear F a;intro a F;refine eNil (k := 15) (by kernel_rfl) ?_;refine hK7 _ _ ?_;clear hK7
   refine cIf F rfl (fun h43 => ?_) (fun h43 => ?_)
   ·
    replace h43 := notT h43;refine wp_skip (hK6 _ _ ?_);clear hK6;refine wp_block ?_;refine cReg (sMv F rfl rfl rfl ?_);clear F a;intro a F
    refine sBin F rfl rfl rfl rfl (bAddN (j := 1) ?_) ?_
    focus omega
    clear F a; intro a F;refine sAs F rfl rfl rfl ?_;clear F a;intro a F;refine sNil ?_
    have h43' : ¬ (e lo).toNat < (e i).toNat := by simpa using h43
    exact ⟨_, by omega, _, ⟨i + 1, rfl, rfl, hpe.up (by omega) h43', H⟩, F.to (by repeat (first | exact trivial | refine Le.cons rfl ?_))⟩
   replace h43 := notF h43;refine wp_exit ?_;refine hK5 _ _ ?_;clear hK5;refine cSeq (fun K8 hK8 => ?_);refine wp_block ?_
   refine cLoopR [0, 1, 9] (fun m ups w => ∃ (j2 : Nat), m = j2 + 1 ∧ ups = [(10, .int .i64 ((j2 : Nat) : Int))] ∧ Pe lo up i j2 e ∧ (i ≤ j2 → (e lo).toNat < (e i).toNat) ∧ j2 ≤ j ∧ Own W row w (.byt g n c e :: rs)) F (j + 1) [(10, .int .i64 ((j : Nat) : Int))] (by repeat (first | exact SubR.nil | (apply SubR.cons; · rfl))) ?_ ?_ ?_
   · first
     | (have h43' : (e lo).toNat < (e i).toNat := by simpa using h43
        exact ⟨j, rfl, rfl, hpe, fun _ => h43', Nat.le_refl _, H⟩)
     | exact ⟨j, rfl, rfl, hpe, fun h => (by omega), Nat.le_refl _, H⟩
   · repeat (first | exact trivial | refine Le.cons rfl ?_)
   clear F
   clear H
   intro m ups a w hI F
   clear hpe q2 q3; obtain ⟨j2, rfl, rfl, hpe, hir, hjj, H⟩ := hI; have q2 := hpe.ij; have q3 := hpe.jb
   refine cSeq (fun K9 hK9 => ?_);refine cSeq (fun K10 hK10 => ?_);refine cRegRO (by kernel_rfl) H ?_;replace H := H.drew;refine eTF 0 rfl (by kernel_rfl) F rfl rfl rfl (fun w=>rMv F rfl) H qq0 (qTF 1 rfl (by kernel_rfl) rfl rfl rfl (fun a F w=>rMv F rfl) H qq0 (qTF 2 rfl (by kernel_rfl) rfl rfl rfl (fun a F w=>rBin F rfl rfl bLeq) H qq0 (qTF 3 rfl (by kernel_rfl) rfl rfl rfl (fun a F w=>rMv F rfl) H qq0 ?_)));clear F a;intro a F
   refine F.split 49 rfl ?_ ?_ <;> (clear F; intro h49 F)
   ·
    replace h49 := of_decide_eq_true h49;refine eTF 4 rfl (by kernel_rfl) F rfl rfl rfl (fun w=>rMv F rfl) H qq0 (qTF 5 rfl (by kernel_rfl) rfl rfl rfl (fun a F w=>rMv F rfl) H qq0 ?_);clear F a;intro a F
    refine eTakeF (k := 6) (i := 6) rfl (by kernel_rfl) F rfl rfl rfl (fun w => rIx underlying23 sizeOf5 F rfl rfl ?_) H (fun _ _ _ h => h) ?_
    focus (first | omega | decide | (simp; omega))
    clear F a; intro a F;refine eT 7 rfl (by kernel_rfl) F rfl rfl rfl rfl (fun w H=>rLd isAgg5 F rfl (H.bytCell 0 rfl (by omega))) H qq0 (qTF 8 rfl (by kernel_rfl) rfl rfl rfl (fun a F w=>rMv F rfl) H qq0 (qTF 9 rfl (by kernel_rfl) rfl rfl rfl (fun a F w=>rMv F rfl) H qq0 ?_));clear F a;intro a F
    refine eTakeF (k := 10) (i := 10) rfl (by kernel_rfl) F rfl rfl rfl (fun w => rIx underlying23 sizeOf5 F rfl rfl ?_) H (fun _ _ _ h => h) ?_
    focus (first | omega | decide | (simp; omega))
    clear F a; intro a F;refine eT 11 rfl (by kernel_rfl) F rfl rfl rfl rfl (fun w H=>rLd isAgg5 F rfl (H.bytCell 0 rfl (by omega))) H qq0 ?_;clear F a;intro a F;refine eOne (k := 12) (i := 12) rfl (by kernel_rfl) F rfl (oCall call117 F rfl rfl (less_any (e lo) (e j2) _) ?_);rintro e w ⟨rfl, hb⟩;replace H := H.grow hb; clear hb;refine ⟨_, rfl, ?_⟩;clear F a; intro a F;refine ePartO (by kernel_rfl) H ?_;refine eTF 13 rfl (by kernel_rfl) F rfl rfl rfl (fun w=>rPk F rfl rfl) H qq0 ?_;clear F a;intro a F;refine eNil (k := 14) (by kernel_rfl) ?_;refine hK10 _ _ ?_;clear hK10
    refine cIf F rfl (fun h59 => ?_) (fun h59 => ?_)
    ·
     refine wp_skip (hK9 _ _ ?_);clear hK9;refine wp_block ?_;refine cReg (sMv F rfl rfl rfl ?_);clear F a;intro a F
     refine sBin F rfl rfl rfl rfl (bSubN (j := 1) ?_ ?_) ?_
     focus omega
     focus omega
     clear F a; intro a F;refine sAs F rfl rfl rfl ?_;clear F a;intro a F;refine sNil ?_
     have h59' : (e lo).toNat < (e j2).toNat := by simpa using h59
     exact ⟨_, by omega, _, ⟨j2 - 1, rfl, rfl, hpe.down (by omega) h59', fun h => hir (by omega), by omega, H⟩, F.to (by repeat (first | exact trivial | refine Le.cons rfl ?_))⟩
    refine wp_exit ?_;refine hK8 _ _ ?_;clear hK8;refine cSeq (fun K11 hK11 => ?_);refine cSR fun K12 hK12=>sMv F rfl rfl rfl (qMv rfl rfl rfl (qBin rfl rfl rfl rfl bGtr (qNK hK12 ?_)));clear hK12;clear F a;intro a F
    refine cIf F rfl (fun h64 => ?_) (fun h64 => ?_)
    ·
     replace h64 := of_decide_eq_true h64;refine wp_exit ?_;refine hK4 _ _ (cSR fun K13 hK13=>sMv F rfl rfl rfl (qAs rfl rfl rfl (qNK hK13 ?_)));clear hK4 hK13;clear F a;intro a F;refine wp_ret ?_;refine bRet results118 F rfl ?_
     exact ⟨i, e, rfl, hsm, by omega, by omega, hel, hpe.small, fun k h1 h2 => hpe.big k (by omega) h2, H⟩
    replace h64 := of_decide_eq_false h64;refine wp_skip (hK11 _ _ ?_);clear hK11;refine cSeq (fun K14 hK14 => ?_);refine cRegRO (by kernel_rfl) H ?_;replace H := H.drew;refine eTF 0 rfl (by kernel_rfl) F rfl rfl rfl (fun w=>rMv F rfl) H qq0 (qTF 1 rfl (by kernel_rfl) rfl rfl rfl (fun a F w=>rMv F rfl) H qq0 (qTF 2 rfl (by kernel_rfl) rfl rfl rfl (fun a F w=>rMv F rfl) H qq0 (qTF 3 rfl (by kernel_rfl) rfl rfl rfl (fun a F w=>rMv F rfl) H qq0 (qTF 4 rfl (by kernel_rfl) rfl rfl rfl (fun a F w=>rMv F rfl) H qq0 (qTF 5 rfl (by kernel_rfl) rfl rfl rfl (fun a F w=>rMv F rfl) H qq0 ?_)))));clear F a;intro a F
    refine eTakeF (k := 6) (i := 6) rfl (by kernel_rfl) F rfl rfl rfl (fun w => rIx underlying23 sizeOf5 F rfl rfl ?_) H (fun _ _ _ h => h) ?_
    focus (first | omega | decide | (simp; omega))
    clear F a; intro a F;refine eT 7 rfl (by kernel_rfl) F rfl rfl rfl rfl (fun w H=>rLd isAgg5 F rfl (H.bytCell 0 rfl (by omega))) H qq0 (qTF 8 rfl (by kernel_rfl) rfl rfl rfl (fun a F w=>rMv F rfl) H qq0 (qTF 9 rfl (by kernel_rfl) rfl rfl rfl (fun a F w=>rMv F rfl) H qq0 ?_));clear F a;intro a F
    refine eTakeF (k := 10) (i := 10) rfl (by kernel_rfl) F rfl rfl rfl (fun w => rIx underlying23 sizeOf5 F rfl rfl ?_) H (fun _ _ _ h => h) ?_
    focus (first | omega | decide | (simp; omega))
    clear F a; intro a F;refine eT 11 rfl (by kernel_rfl) F rfl rfl rfl rfl (fun w H=>rLd isAgg5 F rfl (H.bytCell 0 rfl (by omega))) H qq0 ?_;clear F a;intro a F
    refine eTakeF (k := 12) (i := 12) rfl (by kernel_rfl) F rfl rfl rfl (fun w => rIx underlying23 sizeOf5 F rfl rfl ?_) H (fun _ _ _ h => h) ?_
    focus (first | omega | decide | (simp; omega))
    clear F a; intro a F;refine eOne (k := 13) (i := 13) rfl (by kernel_rfl) F rfl (oStY H 0 sizeOf5 F rfl rfl rfl (by omega) ?_);clear H; intro w H;refine ePartO (by kernel_rfl) H ?_
    refine eTakeF (k := 14) (i := 14) rfl (by kernel_rfl) F rfl rfl rfl (fun w => rIx underlying23 sizeOf5 F rfl rfl ?_) H (fun _ _ _ h => h) ?_
    focus (first | omega | decide | (simp; omega))
    clear F a; intro a F;refine eOne (k := 15) (i := 15) rfl (by kernel_rfl) F rfl (oStY H 0 sizeOf5 F rfl rfl rfl (by omega) ?_);clear H; intro w H;refine ePartO (by kernel_rfl) H ?_;refine eNil (k := 16) (by kernel_rfl) ?_;refine hK14 _ _ (cSR fun K15 hK15=>sMv F rfl rfl rfl ?_);clear hK14;clear F a;intro a F
    refine sBin F rfl rfl rfl rfl (bAddN (j := 1) ?_) ?_
    focus omega
    clear F a; intro a F;refine sAs F rfl rfl rfl (qNK hK15 (qReg (qMv rfl rfl rfl ?_)));clear hK15;clear F a;intro a F
    refine sBin F rfl rfl rfl rfl (bSubN (j := 1) ?_ ?_) ?_
    focus omega
    focus omega
    clear F a; intro a F;refine sAs F rfl rfl rfl ?_;clear F a;intro a F;refine sNil ?_
    first
    | (have h59' : ¬ (e lo).toNat < (e j2).toNat := by simpa using h59
       exact ⟨_, by omega, _, ⟨i + 1, j2 - 1, _, rfl, rfl, hpe.swap (by omega) (hir (by omega)) h59', by unfold swp; rw [if_neg (by omega), if_neg (by omega)]; exact hel, hsm.trans (Sm.swap e (by omega) (by omega) (by omega) (by omega)), swp_now H⟩, F.to (by repeat (first | exact trivial | refine Le.cons rfl ?_))⟩)
    | (exfalso; omega)
   replace h49 := of_decide_eq_false h49;refine eSF 4 rfl (by kernel_rfl) F rfl rfl rfl H qq0 (qSF 5 rfl (by kernel_rfl) rfl rfl rfl H qq0 (qSF 6 rfl (by kernel_rfl) rfl rfl rfl H qq0 (qSF 7 rfl (by kernel_rfl) rfl rfl rfl H qq0 (qSF 8 rfl (by kernel_rfl) rfl rfl rfl H qq0 (qSF 9 rfl (by kernel_rfl) rfl rfl rfl H qq0 (qSF 10 rfl (by kernel_rfl) rfl rfl rfl H qq0 (qSF 11 rfl (by kernel_rfl) rfl rfl rfl H qq0 (qSF 12 rfl (by kernel_rfl) rfl rfl rfl H qq0 (qTF 13 rfl (by kernel_rfl) rfl rfl rfl (fun a F w=>rPk F rfl rfl) H qq0 ?_)))))))));clear F a;intro a F;refine eNil (k := 14) (by kernel_rfl) ?_;refine hK10 _ _ ?_;clear hK10;refine cIfF F rfl ?_;refine wp_exit ?_;refine hK8 _ _ ?_;clear hK8;refine cSeq (fun K16 hK16 => ?_);refine cSR fun K17 hK17=>sMv F rfl rfl rfl (qMv rfl rfl rfl (qBin rfl rfl rfl rfl bGtr (qNK hK17 ?_)));clear hK17;clear F a;intro a F
   refine cIf F rfl (fun h64 => ?_) (fun h64 => ?_)
   ·
    replace h64 := of_decide_eq_true h64;refine wp_exit ?_;refine hK4 _ _ (cSR fun K18 hK18=>sMv F rfl rfl rfl (qAs rfl rfl rfl (qNK hK18 ?_)));clear hK4 hK18;clear F a;intro a F;refine wp_ret ?_;refine bRet results118 F rfl ?_
    exact ⟨i, e, rfl, hsm, by omega, by omega, hel, hpe.small, fun k h1 h2 => hpe.big k (by omega) h2, H⟩
   replace h64 := of_decide_eq_false h64;refine wp_skip (hK16 _ _ ?_);clear hK16;refine cSeq (fun K19 hK19 => ?_);refine cRegRO (by kernel_rfl) H ?_;replace H := H.drew;refine eTF 0 rfl (by kernel_rfl) F rfl rfl rfl (fun w=>rMv F rfl) H qq0 (qTF 1 rfl (by kernel_rfl) rfl rfl rfl (fun a F w=>rMv F rfl) H qq0 (qTF 2 rfl (by kernel_rfl) rfl rfl rfl (fun a F w=>rMv F rfl) H qq0 (qTF 3 rfl (by kernel_rfl) rfl rfl rfl (fun a F w=>rMv F rfl) H qq0 (qTF 4 rfl (by kernel_rfl) rfl rfl rfl (fun a F w=>rMv F rfl) H qq0 (qTF 5 rfl (by kernel_rfl) rfl rfl rfl (fun a F w=>rMv F rfl) H qq0 ?_)))));clear F a;intro a F
   refine eTakeF (k := 6) (i := 6) rfl (by kernel_rfl) F rfl rfl rfl (fun w => rIx underlying23 sizeOf5 F rfl rfl ?_) H (fun _ _ _ h => h) ?_
   focus (first | omega | decide | (simp; omega))
   clear F a; intro a F;refine eT 7 rfl (by kernel_rfl) F rfl rfl rfl rfl (fun w H=>rLd isAgg5 F rfl (H.bytCell 0 rfl (by omega))) H qq0 (qTF 8 rfl (by kernel_rfl) rfl rfl rfl (fun a F w=>rMv F rfl) H qq0 (qTF 9 rfl (by kernel_rfl) rfl rfl rfl (fun a F w=>rMv F rfl) H qq0 ?_));clear F a;intro a F
   refine eTakeF (k := 10) (i := 10) rfl (by kernel_rfl) F rfl rfl rfl (fun w => rIx underlying23 sizeOf5 F rfl rfl ?_) H (fun _ _ _ h => h) ?_
   focus (first | omega | decide | (simp; omega))
   clear F a; intro a F;refine eT 11 rfl (by kernel_rfl) F rfl rfl rfl rfl (fun w H=>rLd isAgg5 F rfl (H.bytCell 0 rfl (by omega))) H qq0 ?_;clear F a;intro a F
   refine eTakeF (k := 12) (i := 12) rfl (by kernel_rfl) F rfl rfl rfl (fun w => rIx underlying23 sizeOf5 F rfl rfl ?_) H (fun _ _ _ h => h) ?_
   focus (first | omega | decide | (simp; omega))
   clear F a; intro a F;refine eOne (k := 13) (i := 13) rfl (by kernel_rfl) F rfl (oStY H 0 sizeOf5 F rfl rfl rfl (by omega) ?_);clear H; intro w H;refine ePartO (by kernel_rfl) H ?_
   refine eTakeF (k := 14) (i := 14) rfl (by kernel_rfl) F rfl rfl rfl (fun w => rIx underlying23 sizeOf5 F rfl rfl ?_) H (fun _ _ _ h => h) ?_
   focus (first | omega | decide | (simp; omega))
   clear F a; intro a F;refine eOne (k := 15) (i := 15) rfl (by kernel_rfl) F rfl (oStY H 0 sizeOf5 F rfl rfl rfl (by omega) ?_);clear H; intro w H;refine ePartO (by kernel_rfl) H ?_;refine eNil (k := 16) (by kernel_rfl) ?_;refine hK19 _ _ (cSR fun K20 hK20=>sMv F rfl rfl rfl ?_);clear hK19;clear F a;intro a F
   refine sBin F rfl rfl rfl rfl (bAddN (j := 1) ?_) ?_
   focus omega
   clear F a; intro a F;refine sAs F rfl rfl rfl (qNK hK20 (qReg (qMv rfl rfl rfl ?_)));clear hK20;clear F a;intro a F
   refine sBin F rfl rfl rfl rfl (bSubN (j := 1) ?_ ?_) ?_
   focus omega
   focus omega
   clear F a; intro a F;refine sAs F rfl rfl rfl ?_;clear F a;intro a F;refine sNil ?_
   first
   | (have h59' : ¬ (e lo).toNat < (e j2).toNat := by simpa using h59
      exact ⟨_, by omega, _, ⟨i + 1, j2 - 1, _, rfl, rfl, hpe.swap (by omega) (hir (by omega)) h59', by unfold swp; rw [if_neg (by omega), if_neg (by omega)]; exact hel, hsm.trans (Sm.swap e (by omega) (by omega) (by omega) (by omega)), swp_now H⟩, F.to (by repeat (first | exact trivial | refine Le.cons rfl ?_))⟩)
   | (exfalso; omega)
  replace h32 := of_decide_eq_false h32;refine eSF 4 rfl (by kernel_rfl) F rfl rfl rfl H qq0 (qSF 5 rfl (by kernel_rfl) rfl rfl rfl H qq0 (qSF 6 rfl (by kernel_rfl) rfl rfl rfl H qq0 (qSF 7 rfl (by kernel_rfl) rfl rfl rfl H qq0 (qSF 8 rfl (by kernel_rfl) rfl rfl rfl H qq0 (qSF 9 rfl (by kernel_rfl) rfl rfl rfl H qq0 (qSF 10 rfl (by kernel_rfl) rfl rfl rfl H qq0 (qSF 11 rfl (by kernel_rfl) rfl rfl rfl H qq0 (qSF 12 rfl (by kernel_rfl) rfl rfl rfl H qq0 (qSF 13 rfl (by kernel_rfl) rfl rfl rfl H qq0 (qTF 14 rfl (by kernel_rfl) rfl rfl rfl (fun a F w=>rPk F rfl rfl) H qq0 ?_))))))))));clear F a;intro a F;refine eNil (k := 15) (by kernel_rfl) ?_;refine hK7 _ _ ?_;clear hK7;refine cIfF F rfl ?_;refine wp_exit ?_;refine hK5 _ _ ?_;clear hK5;refine cSeq (fun K21 hK21 => ?_);refine wp_block ?_
  refine cLoopR [0, 1, 9] (fun m ups w => ∃ (j2 : Nat), m = j2 + 1 ∧ ups = [(10, .int .i64 ((j2 : Nat) : Int))] ∧ Pe lo up i j2 e ∧ (i ≤ j2 → (e lo).toNat < (e i).toNat) ∧ j2 ≤ j ∧ Own W row w (.byt g n c e :: rs)) F (j + 1) [(10, .int .i64 ((j : Nat) : Int))] (by repeat (first | exact SubR.nil | (apply SubR.cons; · rfl))) ?_ ?_ ?_
  · first
    | (have h43' : (e lo).toNat < (e i).toNat := by simpa using h43
       exact ⟨j, rfl, rfl, hpe, fun _ => h43', Nat.le_refl _, H⟩)
    | exact ⟨j, rfl, rfl, hpe, fun h => (by omega), Nat.le_refl _, H⟩
  · repeat (first | exact trivial | refine Le.cons rfl ?_)
  clear F
  clear H
  intro m ups a w hI F
  clear hpe q2 q3; obtain ⟨j2, rfl, rfl, hpe, hir, hjj, H⟩ := hI; have q2 := hpe.ij; have q3 := hpe.jb
  refine cSeq (fun K22 hK22 => ?_);refine cSeq (fun K23 hK23 => ?_);refine cRegRO (by kernel_rfl) H ?_;replace H := H.drew;refine eTF 0 rfl (by kernel_rfl) F rfl rfl rfl (fun w=>rMv F rfl) H qq0 (qTF 1 rfl (by kernel_rfl) rfl rfl rfl (fun a F w=>rMv F rfl) H qq0 (qTF 2 rfl (by kernel_rfl) rfl rfl rfl (fun a F w=>rBin F rfl rfl bLeq) H qq0 (qTF 3 rfl (by kernel_rfl) rfl rfl rfl (fun a F w=>rMv F rfl) H qq0 ?_)));clear F a;intro a F
  refine F.split 49 rfl ?_ ?_ <;> (clear F; intro h49 F)
  ·
   replace h49 := of_decide_eq_true h49;refine eTF 4 rfl (by kernel_rfl) F rfl rfl rfl (fun w=>rMv F rfl) H qq0 (qTF 5 rfl (by kernel_rfl) rfl rfl rfl (fun a F w=>rMv F rfl) H qq0 ?_);clear F a;intro a F
   refine eTakeF (k := 6) (i := 6) rfl (by kernel_rfl) F rfl rfl rfl (fun w => rIx underlying23 sizeOf5 F rfl rfl ?_) H (fun _ _ _ h => h) ?_
   focus (first | omega | decide | (simp; omega))
   clear F a; intro a F;refine eT 7 rfl (by kernel_rfl) F rfl rfl rfl rfl (fun w H=>rLd isAgg5 F rfl (H.bytCell 0 rfl (by omega))) H qq0 (qTF 8 rfl (by kernel_rfl) rfl rfl rfl (fun a F w=>rMv F rfl) H qq0 (qTF 9 rfl (by kernel_rfl) rfl rfl rfl (fun a F w=>rMv F rfl) H qq0 ?_));clear F a;intro a F
   refine eTakeF (k := 10) (i := 10) rfl (by kernel_rfl) F rfl rfl rfl (fun w => rIx underlying23 sizeOf5 F rfl rfl ?_) H (fun _ _ _ h => h) ?_
   focus (first | omega | decide | (simp; omega))
   clear F a; intro a F;refine eT 11 rfl (by kernel_rfl) F rfl rfl rfl rfl (fun w H=>rLd isAgg5 F rfl (H.bytCell 0 rfl (by omega))) H qq0 ?_;clear F a;intro a F;refine eOne (k := 12) (i := 12) rfl (by kernel_rfl) F rfl (oCall call117 F rfl rfl (less_any (e lo) (e j2) _) ?_);rintro e w ⟨rfl, hb⟩;replace H := H.grow hb; clear hb;refine ⟨_, rfl, ?_⟩;clear F a; intro a F;refine ePartO (by kernel_rfl) H ?_;refine eTF 13 rfl (by kernel_rfl) F rfl rfl rfl (fun w=>rPk F rfl rfl) H qq0 ?_;clear F a;intro a F;refine eNil (k := 14) (by kernel_rfl) ?_;refine hK23 _ _ ?_;clear hK23
   refine cIf F rfl (fun h59 => ?_) (fun h59 => ?_)
   ·
    refine wp_skip (hK22 _ _ ?_);clear hK22;refine wp_block ?_;refine cReg (sMv F rfl rfl rfl ?_);clear F a;intro a F
    refine sBin F rfl rfl rfl rfl (bSubN (j := 1) ?_ ?_) ?_
    focus omega
    focus omega
    clear F a; intro a F;refine sAs F rfl rfl rfl ?_;clear F a;intro a F;refine sNil ?_
    have h59' : (e lo).toNat < (e j2).toNat := by simpa using h59
    exact ⟨_, by omega, _, ⟨j2 - 1, rfl, rfl, hpe.down (by omega) h59', fun h => hir (by omega), by omega, H⟩, F.to (by repeat (first | exact trivial | refine Le.cons rfl ?_))⟩
   refine wp_exit ?_;refine hK21 _ _ ?_;clear hK21;refine cSeq (fun K24 hK24 => ?_);refine cSR fun K25 hK25=>sMv F rfl rfl rfl (qMv rfl rfl rfl (qBin rfl rfl rfl rfl bGtr (qNK hK25 ?_)));clear hK25;clear F a;intro a F
   refine cIf F rfl (fun h64 => ?_) (fun h64 => ?_)
   ·
    replace h64 := of_decide_eq_true h64;refine wp_exit ?_;refine hK4 _ _ (cSR fun K26 hK26=>sMv F rfl rfl rfl (qAs rfl rfl rfl (qNK hK26 ?_)));clear hK4 hK26;clear F a;intro a F;refine wp_ret ?_;refine bRet results118 F rfl ?_
    exact ⟨i, e, rfl, hsm, by omega, by omega, hel, hpe.small, fun k h1 h2 => hpe.big k (by omega) h2, H⟩
   replace h64 := of_decide_eq_false h64;refine wp_skip (hK24 _ _ ?_);clear hK24;refine cSeq (fun K27 hK27 => ?_);refine cRegRO (by kernel_rfl) H ?_;replace H := H.drew;refine eTF 0 rfl (by kernel_rfl) F rfl rfl rfl (fun w=>rMv F rfl) H qq0 (qTF 1 rfl (by kernel_rfl) rfl rfl rfl (fun a F w=>rMv F rfl) H qq0 (qTF 2 rfl (by kernel_rfl) rfl rfl rfl (fun a F w=>rMv F rfl) H qq0 (qTF 3 rfl (by kernel_rfl) rfl rfl rfl (fun a F w=>rMv F rfl) H qq0 (qTF 4 rfl (by kernel_rfl) rfl rfl rfl (fun a F w=>rMv F rfl) H qq0 (qTF 5 rfl (by kernel_rfl) rfl rfl rfl (fun a F w=>rMv F rfl) H qq0 ?_)))));clear F a;intro a F
   refine eTakeF (k := 6) (i := 6) rfl (by kernel_rfl) F rfl rfl rfl (fun w => rIx underlying23 sizeOf5 F rfl rfl ?_) H (fun _ _ _ h => h) ?_
   focus (first | omega | decide | (simp; omega))
   clear F a; intro a F;refine eT 7 rfl (by kernel_rfl) F rfl rfl rfl rfl (fun w H=>rLd isAgg5 F rfl (H.bytCell 0 rfl (by omega))) H qq0 (qTF 8 rfl (by kernel_rfl) rfl rfl rfl (fun a F w=>rMv F rfl) H qq0 (qTF 9 rfl (by kernel_rfl) rfl rfl rfl (fun a F w=>rMv F rfl) H qq0 ?_));clear F a;intro a F
   refine eTakeF (k := 10) (i := 10) rfl (by kernel_rfl) F rfl rfl rfl (fun w => rIx underlying23 sizeOf5 F rfl rfl ?_) H (fun _ _ _ h => h) ?_
   focus (first | omega | decide | (simp; omega))
   clear F a; intro a F;refine eT 11 rfl (by kernel_rfl) F rfl rfl rfl rfl (fun w H=>rLd isAgg5 F rfl (H.bytCell 0 rfl (by omega))) H qq0 ?_;clear F a;intro a F
   refine eTakeF (k := 12) (i := 12) rfl (by kernel_rfl) F rfl rfl rfl (fun w => rIx underlying23 sizeOf5 F rfl rfl ?_) H (fun _ _ _ h => h) ?_
   focus (first | omega | decide | (simp; omega))
   clear F a; intro a F;refine eOne (k := 13) (i := 13) rfl (by kernel_rfl) F rfl (oStY H 0 sizeOf5 F rfl rfl rfl (by omega) ?_);clear H; intro w H;refine ePartO (by kernel_rfl) H ?_
   refine eTakeF (k := 14) (i := 14) rfl (by kernel_rfl) F rfl rfl rfl (fun w => rIx underlying23 sizeOf5 F rfl rfl ?_) H (fun _ _ _ h => h) ?_
   focus (first | omega | decide | (simp; omega))
   clear F a; intro a F;refine eOne (k := 15) (i := 15) rfl (by kernel_rfl) F rfl (oStY H 0 sizeOf5 F rfl rfl rfl (by omega) ?_);clear H; intro w H;refine ePartO (by kernel_rfl) H ?_;refine eNil (k := 16) (by kernel_rfl) ?_;refine hK27 _ _ (cSR fun K28 hK28=>sMv F rfl rfl rfl ?_);clear hK27;clear F a;intro a F
   refine sBin F rfl rfl rfl rfl (bAddN (j := 1) ?_) ?_
   focus omega
   clear F a; intro a F;refine sAs F rfl rfl rfl (qNK hK28 (qReg (qMv rfl rfl rfl ?_)));clear hK28;clear F a;intro a F
   refine sBin F rfl rfl rfl rfl (bSubN (j := 1) ?_ ?_) ?_
   focus omega
   focus omega
   clear F a; intro a F;refine sAs F rfl rfl rfl ?_;clear F a;intro a F;refine sNil ?_
   first
   | (have h59' : ¬ (e lo).toNat < (e j2).toNat := by simpa using h59
      exact ⟨_, by omega, _, ⟨i + 1, j2 - 1, _, rfl, rfl, hpe.swap (by omega) (hir (by omega)) h59', by unfold swp; rw [if_neg (by omega), if_neg (by omega)]; exact hel, hsm.trans (Sm.swap e (by omega) (by omega) (by omega) (by omega)), swp_now H⟩, F.to (by repeat (first | exact trivial | refine Le.cons rfl ?_))⟩)
   | (exfalso; omega)
  replace h49 := of_decide_eq_false h49;refine eSF 4 rfl (by kernel_rfl) F rfl rfl rfl H qq0 (qSF 5 rfl (by kernel_rfl) rfl rfl rfl H qq0 (qSF 6 rfl (by kernel_rfl) rfl rfl rfl H qq0 (qSF 7 rfl (by kernel_rfl) rfl rfl rfl H qq0 (qSF 8 rfl (by kernel_rfl) rfl rfl rfl H qq0 (qSF 9 rfl (by kernel_rfl) rfl rfl rfl H qq0 (qSF 10 rfl (by kernel_rfl) rfl rfl rfl H qq0 (qSF 11 rfl (by kernel_rfl) rfl rfl rfl H qq0 (qSF 12 rfl (by kernel_rfl) rfl rfl rfl H qq0 (qTF 13 rfl (by kernel_rfl) rfl rfl rfl (fun a F w=>rPk F rfl rfl) H qq0 ?_)))))))));clear F a;intro a F;refine eNil (k := 14) (by kernel_rfl) ?_;refine hK23 _ _ ?_;clear hK23;refine cIfF F rfl ?_;refine wp_exit ?_;refine hK21 _ _ ?_;clear hK21;refine cSeq (fun K29 hK29 => ?_);refine cSR fun K30 hK30=>sMv F rfl rfl rfl (qMv rfl rfl rfl (qBin rfl rfl rfl rfl bGtr (qNK hK30 ?_)));clear hK30;clear F a;intro a F
  refine cIf F rfl (fun h64 => ?_) (fun h64 => ?_)
  ·
   replace h64 := of_decide_eq_true h64;refine wp_exit ?_;refine hK4 _ _ (cSR fun K31 hK31=>sMv F rfl rfl rfl (qAs rfl rfl rfl (qNK hK31 ?_)));clear hK4 hK31;clear F a;intro a F;refine wp_ret ?_;refine bRet results118 F rfl ?_
   exact ⟨i, e, rfl, hsm, by omega, by omega, hel, hpe.small, fun k h1 h2 => hpe.big k (by omega) h2, H⟩
  replace h64 := of_decide_eq_false h64;refine wp_skip (hK29 _ _ ?_);clear hK29;refine cSeq (fun K32 hK32 => ?_);refine cRegRO (by kernel_rfl) H ?_;replace H := H.drew;refine eTF 0 rfl (by kernel_rfl) F rfl rfl rfl (fun w=>rMv F rfl) H qq0 (qTF 1 rfl (by kernel_rfl) rfl rfl rfl (fun a F w=>rMv F rfl) H qq0 (qTF 2 rfl (by kernel_rfl) rfl rfl rfl (fun a F w=>rMv F rfl) H qq0 (qTF 3 rfl (by kernel_rfl) rfl rfl rfl (fun a F w=>rMv F rfl) H qq0 (qTF 4 rfl (by kernel_rfl) rfl rfl rfl (fun a F w=>rMv F rfl) H qq0 (qTF 5 rfl (by kernel_rfl) rfl rfl rfl (fun a F w=>rMv F rfl) H qq0 ?_)))));clear F a;intro a F
  refine eTakeF (k := 6) (i := 6) rfl (by kernel_rfl) F rfl rfl rfl (fun w => rIx underlying23 sizeOf5 F rfl rfl ?_) H (fun _ _ _ h => h) ?_
  focus (first | omega | decide | (simp; omega))
  clear F a; intro a F;refine eT 7 rfl (by kernel_rfl) F rfl rfl rfl rfl (fun w H=>rLd isAgg5 F rfl (H.bytCell 0 rfl (by omega))) H qq0 (qTF 8 rfl (by kernel_rfl) rfl rfl rfl (fun a F w=>rMv F rfl) H qq0 (qTF 9 rfl (by kernel_rfl) rfl rfl rfl (fun a F w=>rMv F rfl) H qq0 ?_));clear F a;intro a F
  refine eTakeF (k := 10) (i := 10) rfl (by kernel_rfl) F rfl rfl rfl (fun w => rIx underlying23 sizeOf5 F rfl rfl ?_) H (fun _ _ _ h => h) ?_
  focus (first | omega | decide | (simp; omega))
  clear F a; intro a F;refine eT 11 rfl (by kernel_rfl) F rfl rfl rfl rfl (fun w H=>rLd isAgg5 F rfl (H.bytCell 0 rfl (by omega))) H qq0 ?_;clear F a;intro a F
  refine eTakeF (k := 12) (i := 12) rfl (by kernel_rfl) F rfl rfl rfl (fun w => rIx underlying23 sizeOf5 F rfl rfl ?_) H (fun _ _ _ h => h) ?_
  focus (first | omega | decide | (simp; omega))
  clear F a; intro a F;refine eOne (k := 13) (i := 13) rfl (by kernel_rfl) F rfl (oStY H 0 sizeOf5 F rfl rfl rfl (by omega) ?_);clear H; intro w H;refine ePartO (by kernel_rfl) H ?_
  refine eTakeF (k := 14) (i := 14) rfl (by kernel_rfl) F rfl rfl rfl (fun w => rIx underlying23 sizeOf5 F rfl rfl ?_) H (fun _ _ _ h => h) ?_
  focus (first | omega | decide | (simp; omega))
  clear F a; intro a F;refine eOne (k := 15) (i := 15) rfl (by kernel_rfl) F rfl (oStY H 0 sizeOf5 F rfl rfl rfl (by omega) ?_);clear H; intro w H;refine ePartO (by kernel_rfl) H ?_;refine eNil (k := 16) (by kernel_rfl) ?_;refine hK32 _ _ (cSR fun K33 hK33=>sMv F rfl rfl rfl ?_);clear hK32;clear F a;intro a F
  refine sBin F rfl rfl rfl rfl (bAddN (j := 1) ?_) ?_
  focus omega
  clear F a; intro a F;refine sAs F rfl rfl rfl (qNK hK33 (qReg (qMv rfl rfl rfl ?_)));clear hK33;clear F a;intro a F
  refine sBin F rfl rfl rfl rfl (bSubN (j := 1) ?_ ?_) ?_
  focus omega
  focus omega
  clear F a; intro a F;refine sAs F rfl rfl rfl ?_;clear F a;intro a F;refine sNil ?_
  first
  | (have h59' : ¬ (e lo).toNat < (e j2).toNat := by simpa using h59
     exact ⟨_, by omega, _, ⟨i + 1, j2 - 1, _, rfl, rfl, hpe.swap (by omega) (hir (by omega)) h59', by unfold swp; rw [if_neg (by omega), if_neg (by omega)]; exact hel, hsm.trans (Sm.swap e (by omega) (by omega) (by omega) (by omega)), swp_now H⟩, F.to (by repeat (first | exact trivial | refine Le.cons rfl ?_))⟩)
  | (exfalso; omega)
end Go.Proofs.YtklpiodciblabaaGreatDoor
