/-
  WALK2. slices.Sort at bytes: the partition. Conditions: the slice is the caller's own.
-/
import Derived.Test.YtklpiodciblabaaGreatDoorSoF
set_option linter.unusedSimpArgs false
set_option linter.unusedVariables false
namespace Go.Proofs.YtklpiodciblabaaGreatDoor
open Go.Proofs.Tryz
open Go.RowKit
set_option maxRecDepth 100000
set_option maxHeartbeats 4000000 in
theorem part_any (g n c : Nat) (d : By) (lo up pv : Nat) (W : World) (row : Option Nat) (rs : List Res) (w0 : World) (H : Own W row w0 (.byt g n c d :: rs)) (hb : up ≤ n) (hn : n ≤ 1000000) (hlo : lo ≤ pv) (hup : pv < up) :
    Calls Tryz.prog 119 #[.slice (some ⟨g, 0, none⟩) n c, .int .i64 (lo : Int), .int .i64 (up : Int), .int .i64 (pv : Int)] w0 fun e w' => ∃ (m : Nat) (r : Bool) (d' : By), e = .returned (.tuple #[.int .i64 (m : Int), .bool r]) ∧ Sm lo up d d' ∧ Parted lo up m d' ∧ Own W row w' (.byt g n c d' :: rs) := by
  refine enterF func119 rfl ntmps119 rfl (fun a F => ?_);refine cSR fun K1 hK1=>sAs F rfl rfl rfl (qAs rfl rfl rfl (qNK hK1 ?_));clear hK1;clear F a;intro a F;refine cSeq (fun K2 hK2 => ?_);refine cRegRO (by kernel_rfl) H ?_;replace H := H.drew;refine eTF 0 rfl (by kernel_rfl) F rfl rfl rfl (fun w=>rMv F rfl) H qq0 (qTF 1 rfl (by kernel_rfl) rfl rfl rfl (fun a F w=>rMv F rfl) H qq0 (qTF 2 rfl (by kernel_rfl) rfl rfl rfl (fun a F w=>rMv F rfl) H qq0 (qTF 3 rfl (by kernel_rfl) rfl rfl rfl (fun a F w=>rMv F rfl) H qq0 (qTF 4 rfl (by kernel_rfl) rfl rfl rfl (fun a F w=>rMv F rfl) H qq0 (qTF 5 rfl (by kernel_rfl) rfl rfl rfl (fun a F w=>rMv F rfl) H qq0 ?_)))));clear F a;intro a F
  refine eTakeF (k := 6) (i := 6) rfl (by kernel_rfl) F rfl rfl rfl (fun w => rIx underlying23 sizeOf5 F rfl rfl ?_) H (fun _ _ _ h => h) ?_
  focus (first | omega | decide | (simp; omega))
  clear F a; intro a F;refine eT 7 rfl (by kernel_rfl) F rfl rfl rfl rfl (fun w H=>rLd isAgg5 F rfl (H.bytCell 0 rfl (by omega))) H qq0 (qTF 8 rfl (by kernel_rfl) rfl rfl rfl (fun a F w=>rMv F rfl) H qq0 (qTF 9 rfl (by kernel_rfl) rfl rfl rfl (fun a F w=>rMv F rfl) H qq0 ?_));clear F a;intro a F
  refine eTakeF (k := 10) (i := 10) rfl (by kernel_rfl) F rfl rfl rfl (fun w => rIx underlying23 sizeOf5 F rfl rfl ?_) H (fun _ _ _ h => h) ?_
  focus (first | omega | decide | (simp; omega))
  clear F a; intro a F;refine eT 11 rfl (by kernel_rfl) F rfl rfl rfl rfl (fun w H=>rLd isAgg5 F rfl (H.bytCell 0 rfl (by omega))) H qq0 ?_;clear F a;intro a F
  refine eTakeF (k := 12) (i := 12) rfl (by kernel_rfl) F rfl rfl rfl (fun w => rIx underlying23 sizeOf5 F rfl rfl ?_) H (fun _ _ _ h => h) ?_
  focus (first | omega | decide | (simp; omega))
  clear F a; intro a F;refine eOne (k := 13) (i := 13) rfl (by kernel_rfl) F rfl (oStY H 0 sizeOf5 F rfl rfl rfl (by omega) ?_);clear H; intro w H;refine ePartO (by kernel_rfl) H ?_
  refine eTakeF (k := 14) (i := 14) rfl (by kernel_rfl) F rfl rfl rfl (fun w => rIx underlying23 sizeOf5 F rfl rfl ?_) H (fun _ _ _ h => h) ?_
  focus (first | omega | decide | (simp; omega))
  clear F a; intro a F;refine eOne (k := 15) (i := 15) rfl (by kernel_rfl) F rfl (oStY H 0 sizeOf5 F rfl rfl rfl (by omega) ?_);clear H; intro w H;refine ePartO (by kernel_rfl) H ?_;refine eNil (k := 16) (by kernel_rfl) ?_;refine hK2 _ _ (cSR fun K3 hK3=>sMv F rfl rfl rfl ?_);clear hK2;clear F a;intro a F
  refine sBin F rfl rfl rfl rfl (bAddN (j := 1) ?_) ?_
  focus omega
  clear F a; intro a F;refine sMv F rfl rfl rfl ?_;clear F a;intro a F
  refine sBin F rfl rfl rfl rfl (bSubN (j := 1) ?_ ?_) ?_
  focus omega
  focus omega
  clear F a; intro a F;refine sAs F rfl rfl rfl (qAs rfl rfl rfl (qNK hK3 ?_));clear hK3;clear F a;intro a F
  refine cSeqJ [0, 1, 11] (fun ups w => ∃ (i : Nat) (e : By), ups = [(10, .int .i64 ((i : Nat) : Int))] ∧ Pt lo up i (up - 1) e ∧ Sm lo up d e ∧ (i ≤ up - 1 → ¬ (e i).toNat < (e lo).toNat) ∧ Own W row w (.byt g n c e :: rs)) F (by repeat (first | exact SubR.nil | (apply SubR.cons; · rfl))) ?_ ?_
  ·
   refine wp_block ?_
   refine cLoopR [0, 1, 11] (fun m ups w => ∃ (i : Nat) (e : By), m = up - i ∧ ups = [(10, .int .i64 ((i : Nat) : Int))] ∧ Pt lo up i (up - 1) e ∧ Sm lo up d e ∧ Own W row w (.byt g n c e :: rs)) F (up - (lo + 1)) [(10, .int .i64 ((lo + 1 : Nat) : Int))] (by repeat (first | exact SubR.nil | (apply SubR.cons; · rfl))) ?_ ?_ ?_
   · exact ⟨lo + 1, _, rfl, rfl, ⟨Nat.le_refl _, by omega, by omega, by omega, fun k h1 h2 => by omega, fun k h1 h2 => by omega⟩, Sm.swap d (by omega) (by omega) (by omega) (by omega), swp_now H⟩
   · repeat (first | exact trivial | refine Le.cons rfl ?_)
   clear F
   clear H
   intro m ups a w hI F
   obtain ⟨i, e, rfl, rfl, hpt, hsm, H⟩ := hI; have q1 := hpt.lo; have q2 := hpt.ij; have q3 := hpt.jb; have q4 := hpt.aj
   refine cSeq (fun K4 hK4 => ?_);refine cSeq (fun K5 hK5 => ?_);refine cRegRO (by kernel_rfl) H ?_;replace H := H.drew;refine eTF 0 rfl (by kernel_rfl) F rfl rfl rfl (fun w=>rMv F rfl) H qq0 (qTF 1 rfl (by kernel_rfl) rfl rfl rfl (fun a F w=>rMv F rfl) H qq0 (qTF 2 rfl (by kernel_rfl) rfl rfl rfl (fun a F w=>rBin F rfl rfl bLeq) H qq0 (qTF 3 rfl (by kernel_rfl) rfl rfl rfl (fun a F w=>rMv F rfl) H qq0 ?_)));clear F a;intro a F
   refine F.split 33 rfl ?_ ?_ <;> (clear F; intro h33 F)
   ·
    replace h33 := of_decide_eq_true h33;refine eTF 4 rfl (by kernel_rfl) F rfl rfl rfl (fun w=>rMv F rfl) H qq0 (qTF 5 rfl (by kernel_rfl) rfl rfl rfl (fun a F w=>rMv F rfl) H qq0 ?_);clear F a;intro a F
    refine eTakeF (k := 6) (i := 6) rfl (by kernel_rfl) F rfl rfl rfl (fun w => rIx underlying23 sizeOf5 F rfl rfl ?_) H (fun _ _ _ h => h) ?_
    focus (first | omega | decide | (simp; omega))
    clear F a; intro a F;refine eT 7 rfl (by kernel_rfl) F rfl rfl rfl rfl (fun w H=>rLd isAgg5 F rfl (H.bytCell 0 rfl (by omega))) H qq0 (qTF 8 rfl (by kernel_rfl) rfl rfl rfl (fun a F w=>rMv F rfl) H qq0 (qTF 9 rfl (by kernel_rfl) rfl rfl rfl (fun a F w=>rMv F rfl) H qq0 ?_));clear F a;intro a F
    refine eTakeF (k := 10) (i := 10) rfl (by kernel_rfl) F rfl rfl rfl (fun w => rIx underlying23 sizeOf5 F rfl rfl ?_) H (fun _ _ _ h => h) ?_
    focus (first | omega | decide | (simp; omega))
    clear F a; intro a F;refine eT 11 rfl (by kernel_rfl) F rfl rfl rfl rfl (fun w H=>rLd isAgg5 F rfl (H.bytCell 0 rfl (by omega))) H qq0 ?_;clear F a;intro a F;refine eOne (k := 12) (i := 12) rfl (by kernel_rfl) F rfl (oCall call117 F rfl rfl (less_any (e i) (e lo) _) ?_);rintro e w ⟨rfl, hb⟩;replace H := H.grow hb; clear hb;refine ⟨_, rfl, ?_⟩;clear F a; intro a F;refine ePartO (by kernel_rfl) H ?_;refine eTF 13 rfl (by kernel_rfl) F rfl rfl rfl (fun w=>rPk F rfl rfl) H qq0 ?_;clear F a;intro a F;refine eNil (k := 14) (by kernel_rfl) ?_;refine hK5 _ _ ?_;clear hK5
    refine cIf F rfl (fun h43 => ?_) (fun h43 => ?_)
    ·
     refine wp_skip (hK4 _ _ ?_);clear hK4;refine wp_block ?_;refine cReg (sMv F rfl rfl rfl ?_);clear F a;intro a F
     refine sBin F rfl rfl rfl rfl (bAddN (j := 1) ?_) ?_
     focus omega
     clear F a; intro a F;refine sAs F rfl rfl rfl ?_;clear F a;intro a F;refine sNil ?_
     exact ⟨_, by omega, _, ⟨i + 1, e, rfl, rfl, hpt.up (by omega) (of_decide_eq_true h43), hsm, H⟩, F.to (by repeat (first | exact trivial | refine Le.cons rfl ?_))⟩
    refine wp_exit ?_
    first
    | exact ⟨_, ⟨i, e, rfl, hpt, hsm, fun _ => of_decide_eq_false h43, H⟩, F.to (by repeat (first | exact trivial | refine Le.cons rfl ?_))⟩
    | exact ⟨_, ⟨i, e, rfl, hpt, hsm, fun h => absurd h (by omega), H⟩, F.to (by repeat (first | exact trivial | refine Le.cons rfl ?_))⟩
   replace h33 := of_decide_eq_false h33;refine eSF 4 rfl (by kernel_rfl) F rfl rfl rfl H qq0 (qSF 5 rfl (by kernel_rfl) rfl rfl rfl H qq0 (qSF 6 rfl (by kernel_rfl) rfl rfl rfl H qq0 (qSF 7 rfl (by kernel_rfl) rfl rfl rfl H qq0 (qSF 8 rfl (by kernel_rfl) rfl rfl rfl H qq0 (qSF 9 rfl (by kernel_rfl) rfl rfl rfl H qq0 (qSF 10 rfl (by kernel_rfl) rfl rfl rfl H qq0 (qSF 11 rfl (by kernel_rfl) rfl rfl rfl H qq0 (qSF 12 rfl (by kernel_rfl) rfl rfl rfl H qq0 (qTF 13 rfl (by kernel_rfl) rfl rfl rfl (fun a F w=>rPk F rfl rfl) H qq0 ?_)))))))));clear F a;intro a F;refine eNil (k := 14) (by kernel_rfl) ?_;refine hK5 _ _ ?_;clear hK5;refine cIfF F rfl ?_;refine wp_exit ?_
   first
   | exact ⟨_, ⟨i, e, rfl, hpt, hsm, fun _ => of_decide_eq_false h43, H⟩, F.to (by repeat (first | exact trivial | refine Le.cons rfl ?_))⟩
   | exact ⟨_, ⟨i, e, rfl, hpt, hsm, fun h => absurd h (by omega), H⟩, F.to (by repeat (first | exact trivial | refine Le.cons rfl ?_))⟩
  clear F H
  intro ups a w hI F
  obtain ⟨i, e, rfl, hpt, hsm, hge, H⟩ := hI; have q1 := hpt.lo; have q2 := hpt.ij; have q3 := hpt.jb; have q4 := hpt.aj
  refine cSeqJ [0, 1, 10] (fun ups w => ∃ j : Nat, ups = [(11, .int .i64 ((j : Nat) : Int))] ∧ Pt lo up i j e ∧ (i ≤ j → ¬ (e i).toNat < (e lo).toNat) ∧ (i ≤ j → (e j).toNat < (e lo).toNat) ∧ j < up ∧ Own W row w (.byt g n c e :: rs)) F (by repeat (first | exact SubR.nil | (apply SubR.cons; · rfl))) ?_ ?_
  ·
   refine wp_block ?_
   refine cLoopR [0, 1, 10] (fun m ups w => ∃ (j : Nat), m = j + 1 ∧ ups = [(11, .int .i64 ((j : Nat) : Int))] ∧ Pt lo up i j e ∧ (i ≤ j → ¬ (e i).toNat < (e lo).toNat) ∧ j < up ∧ Own W row w (.byt g n c e :: rs)) F (up - 1 + 1) [(11, .int .i64 ((up - 1 : Nat) : Int))] (by repeat (first | exact SubR.nil | (apply SubR.cons; · rfl))) ?_ ?_ ?_
   · exact ⟨up - 1, rfl, rfl, hpt, hge, by omega, H⟩
   · repeat (first | exact trivial | refine Le.cons rfl ?_)
   clear F
   clear H
   intro m ups a w hI F
   clear hpt q2 q3 q4; obtain ⟨j, rfl, rfl, hpt, hir, hju, H⟩ := hI; have q2 := hpt.ij; have q4 := hpt.aj
   refine cSeq (fun K6 hK6 => ?_);refine cSeq (fun K7 hK7 => ?_);refine cRegRO (by kernel_rfl) H ?_;replace H := H.drew;refine eTF 0 rfl (by kernel_rfl) F rfl rfl rfl (fun w=>rMv F rfl) H qq0 (qTF 1 rfl (by kernel_rfl) rfl rfl rfl (fun a F w=>rMv F rfl) H qq0 (qTF 2 rfl (by kernel_rfl) rfl rfl rfl (fun a F w=>rBin F rfl rfl bLeq) H qq0 (qTF 3 rfl (by kernel_rfl) rfl rfl rfl (fun a F w=>rMv F rfl) H qq0 ?_)));clear F a;intro a F
   refine F.split 49 rfl ?_ ?_ <;> (clear F; intro h49 F)
   ·
    replace h49 := of_decide_eq_true h49;refine eTF 4 rfl (by kernel_rfl) F rfl rfl rfl (fun w=>rMv F rfl) H qq0 (qTF 5 rfl (by kernel_rfl) rfl rfl rfl (fun a F w=>rMv F rfl) H qq0 ?_);clear F a;intro a F
    refine eTakeF (k := 6) (i := 6) rfl (by kernel_rfl) F rfl rfl rfl (fun w => rIx underlying23 sizeOf5 F rfl rfl ?_) H (fun _ _ _ h => h) ?_
    focus (first | omega | decide | (simp; omega))
    clear F a; intro a F;refine eT 7 rfl (by kernel_rfl) F rfl rfl rfl rfl (fun w H=>rLd isAgg5 F rfl (H.bytCell 0 rfl (by omega))) H qq0 (qTF 8 rfl (by kernel_rfl) rfl rfl rfl (fun a F w=>rMv F rfl) H qq0 (qTF 9 rfl (by kernel_rfl) rfl rfl rfl (fun a F w=>rMv F rfl) H qq0 ?_));clear F a;intro a F
    refine eTakeF (k := 10) (i := 10) rfl (by kernel_rfl) F rfl rfl rfl (fun w => rIx underlying23 sizeOf5 F rfl rfl ?_) H (fun _ _ _ h => h) ?_
    focus (first | omega | decide | (simp; omega))
    clear F a; intro a F;refine eT 11 rfl (by kernel_rfl) F rfl rfl rfl rfl (fun w H=>rLd isAgg5 F rfl (H.bytCell 0 rfl (by omega))) H qq0 ?_;clear F a;intro a F;refine eOne (k := 12) (i := 12) rfl (by kernel_rfl) F rfl (oCall call117 F rfl rfl (less_any (e j) (e lo) _) ?_);rintro e w ⟨rfl, hb⟩;replace H := H.grow hb; clear hb;refine ⟨_, rfl, ?_⟩;clear F a; intro a F;refine ePartO (by kernel_rfl) H ?_;refine eTF 13 rfl (by kernel_rfl) F rfl rfl rfl (fun w=>rNot F rfl) H qq0 (qTF 14 rfl (by kernel_rfl) rfl rfl rfl (fun a F w=>rPk F rfl rfl) H qq0 ?_);clear F a;intro a F;refine eNil (k := 15) (by kernel_rfl) ?_;refine hK7 _ _ ?_;clear hK7
    refine cIf F rfl (fun h60 => ?_) (fun h60 => ?_)
    ·
     replace h60 := notT h60;refine wp_skip (hK6 _ _ ?_);clear hK6;refine wp_block ?_;refine cReg (sMv F rfl rfl rfl ?_);clear F a;intro a F
     refine sBin F rfl rfl rfl rfl (bSubN (j := 1) ?_ ?_) ?_
     focus omega
     focus omega
     clear F a; intro a F;refine sAs F rfl rfl rfl ?_;clear F a;intro a F;refine sNil ?_
     have h60' : ¬ (e j).toNat < (e lo).toNat := by simpa using h60
     exact ⟨_, by omega, _, ⟨j - 1, rfl, rfl, hpt.down (by omega) h60', fun h => hir (by omega), by omega, H⟩, F.to (by repeat (first | exact trivial | refine Le.cons rfl ?_))⟩
    replace h60 := notF h60;refine wp_exit ?_
    first
    | exact ⟨_, ⟨j, rfl, hpt, hir, fun _ => of_decide_eq_true h60, hju, H⟩, F.to (by repeat (first | exact trivial | refine Le.cons rfl ?_))⟩
    | exact ⟨_, ⟨j, rfl, hpt, hir, fun h => absurd h (by omega), hju, H⟩, F.to (by repeat (first | exact trivial | refine Le.cons rfl ?_))⟩
   replace h49 := of_decide_eq_false h49;refine eSF 4 rfl (by kernel_rfl) F rfl rfl rfl H qq0 (qSF 5 rfl (by kernel_rfl) rfl rfl rfl H qq0 (qSF 6 rfl (by kernel_rfl) rfl rfl rfl H qq0 (qSF 7 rfl (by kernel_rfl) rfl rfl rfl H qq0 (qSF 8 rfl (by kernel_rfl) rfl rfl rfl H qq0 (qSF 9 rfl (by kernel_rfl) rfl rfl rfl H qq0 (qSF 10 rfl (by kernel_rfl) rfl rfl rfl H qq0 (qSF 11 rfl (by kernel_rfl) rfl rfl rfl H qq0 (qSF 12 rfl (by kernel_rfl) rfl rfl rfl H qq0 (qSF 13 rfl (by kernel_rfl) rfl rfl rfl H qq0 (qTF 14 rfl (by kernel_rfl) rfl rfl rfl (fun a F w=>rPk F rfl rfl) H qq0 ?_))))))))));clear F a;intro a F;refine eNil (k := 15) (by kernel_rfl) ?_;refine hK7 _ _ ?_;clear hK7;refine cIfF F rfl ?_;refine wp_exit ?_
   first
   | exact ⟨_, ⟨j, rfl, hpt, hir, fun _ => of_decide_eq_true h60, hju, H⟩, F.to (by repeat (first | exact trivial | refine Le.cons rfl ?_))⟩
   | exact ⟨_, ⟨j, rfl, hpt, hir, fun h => absurd h (by omega), hju, H⟩, F.to (by repeat (first | exact trivial | refine Le.cons rfl ?_))⟩
  clear F H
  intro ups a w hI F
  clear hpt q2 q4; obtain ⟨j, rfl, hpt, hir, hls, hju, H⟩ := hI; have q2 := hpt.ij; have q4 := hpt.aj
  refine cSeq (fun K8 hK8 => ?_);refine cSR fun K9 hK9=>sMv F rfl rfl rfl (qMv rfl rfl rfl (qBin rfl rfl rfl rfl bGtr (qNK hK9 ?_)));clear hK9;clear F a;intro a F
  refine cIf F rfl (fun h65 => ?_) (fun h65 => ?_)
  ·
   replace h65 := of_decide_eq_true h65;refine cSeq (fun K10 hK10 => ?_);refine cRegRO (by kernel_rfl) H ?_;replace H := H.drew;refine eTF 0 rfl (by kernel_rfl) F rfl rfl rfl (fun w=>rMv F rfl) H qq0 (qTF 1 rfl (by kernel_rfl) rfl rfl rfl (fun a F w=>rMv F rfl) H qq0 (qTF 2 rfl (by kernel_rfl) rfl rfl rfl (fun a F w=>rMv F rfl) H qq0 (qTF 3 rfl (by kernel_rfl) rfl rfl rfl (fun a F w=>rMv F rfl) H qq0 (qTF 4 rfl (by kernel_rfl) rfl rfl rfl (fun a F w=>rMv F rfl) H qq0 (qTF 5 rfl (by kernel_rfl) rfl rfl rfl (fun a F w=>rMv F rfl) H qq0 ?_)))));clear F a;intro a F
   refine eTakeF (k := 6) (i := 6) rfl (by kernel_rfl) F rfl rfl rfl (fun w => rIx underlying23 sizeOf5 F rfl rfl ?_) H (fun _ _ _ h => h) ?_
   focus (first | omega | decide | (simp; omega))
   clear F a; intro a F;refine eT 7 rfl (by kernel_rfl) F rfl rfl rfl rfl (fun w H=>rLd isAgg5 F rfl (H.bytCell 0 rfl (by omega))) H qq0 (qTF 8 rfl (by kernel_rfl) rfl rfl rfl (fun a F w=>rMv F rfl) H qq0 (qTF 9 rfl (by kernel_rfl) rfl rfl rfl (fun a F w=>rMv F rfl) H qq0 ?_));clear F a;intro a F
   refine eTakeF (k := 10) (i := 10) rfl (by kernel_rfl) F rfl rfl rfl (fun w => rIx underlying23 sizeOf5 F rfl rfl ?_) H (fun _ _ _ h => h) ?_
   focus (first | omega | decide | (simp; omega))
   clear F a; intro a F;refine eT 11 rfl (by kernel_rfl) F rfl rfl rfl rfl (fun w H=>rLd isAgg5 F rfl (H.bytCell 0 rfl (by omega))) H qq0 ?_;clear F a;intro a F
   refine eTakeF (k := 12) (i := 12) rfl (by kernel_rfl) F rfl rfl rfl (fun w => rIx underlying23 sizeOf5 F rfl rfl ?_) H (fun _ _ _ h => h) ?_
   focus (first | omega | decide | (simp; omega))
   clear F a; intro a F;refine eOne (k := 13) (i := 13) rfl (by kernel_rfl) F rfl (oStY H 0 sizeOf5 F rfl rfl rfl (by omega) ?_);clear H; intro w H;refine ePartO (by kernel_rfl) H ?_
   refine eTakeF (k := 14) (i := 14) rfl (by kernel_rfl) F rfl rfl rfl (fun w => rIx underlying23 sizeOf5 F rfl rfl ?_) H (fun _ _ _ h => h) ?_
   focus (first | omega | decide | (simp; omega))
   clear F a; intro a F;refine eOne (k := 15) (i := 15) rfl (by kernel_rfl) F rfl (oStY H 0 sizeOf5 F rfl rfl rfl (by omega) ?_);clear H; intro w H;refine ePartO (by kernel_rfl) H ?_;refine eNil (k := 16) (by kernel_rfl) ?_;refine hK10 _ _ (cSR fun K11 hK11=>sMv F rfl rfl rfl (qAs rfl rfl rfl (qAs rfl rfl rfl (qNK hK11 ?_))));clear hK10 hK11;clear F a;intro a F;refine wp_ret ?_;simp only [Exit.then];refine bRet2 results119 F rfl rfl ?_
   first
   | exact ⟨j, true, _, rfl, hsm.trans (Sm.swap e (by omega) (by omega) (by omega) (by omega)), hpt.done (by omega), swp_now H⟩
   | exact ⟨j5, false, _, rfl, hsm3.trans (Sm.swap e3 (by omega) (by omega) (by omega) (by omega)), hpt3.done (by omega), swp_now H⟩
  replace h65 := of_decide_eq_false h65;refine wp_skip (hK8 _ _ ?_);clear hK8;refine cSeq (fun K12 hK12 => ?_);refine cRegRO (by kernel_rfl) H ?_;replace H := H.drew;refine eTF 0 rfl (by kernel_rfl) F rfl rfl rfl (fun w=>rMv F rfl) H qq0 (qTF 1 rfl (by kernel_rfl) rfl rfl rfl (fun a F w=>rMv F rfl) H qq0 (qTF 2 rfl (by kernel_rfl) rfl rfl rfl (fun a F w=>rMv F rfl) H qq0 (qTF 3 rfl (by kernel_rfl) rfl rfl rfl (fun a F w=>rMv F rfl) H qq0 (qTF 4 rfl (by kernel_rfl) rfl rfl rfl (fun a F w=>rMv F rfl) H qq0 (qTF 5 rfl (by kernel_rfl) rfl rfl rfl (fun a F w=>rMv F rfl) H qq0 ?_)))));clear F a;intro a F
  refine eTakeF (k := 6) (i := 6) rfl (by kernel_rfl) F rfl rfl rfl (fun w => rIx underlying23 sizeOf5 F rfl rfl ?_) H (fun _ _ _ h => h) ?_
  focus (first | omega | decide | (simp; omega))
  clear F a; intro a F;refine eT 7 rfl (by kernel_rfl) F rfl rfl rfl rfl (fun w H=>rLd isAgg5 F rfl (H.bytCell 0 rfl (by omega))) H qq0 (qTF 8 rfl (by kernel_rfl) rfl rfl rfl (fun a F w=>rMv F rfl) H qq0 (qTF 9 rfl (by kernel_rfl) rfl rfl rfl (fun a F w=>rMv F rfl) H qq0 ?_));clear F a;intro a F
  refine eTakeF (k := 10) (i := 10) rfl (by kernel_rfl) F rfl rfl rfl (fun w => rIx underlying23 sizeOf5 F rfl rfl ?_) H (fun _ _ _ h => h) ?_
  focus (first | omega | decide | (simp; omega))
  clear F a; intro a F;refine eT 11 rfl (by kernel_rfl) F rfl rfl rfl rfl (fun w H=>rLd isAgg5 F rfl (H.bytCell 0 rfl (by omega))) H qq0 ?_;clear F a;intro a F
  refine eTakeF (k := 12) (i := 12) rfl (by kernel_rfl) F rfl rfl rfl (fun w => rIx underlying23 sizeOf5 F rfl rfl ?_) H (fun _ _ _ h => h) ?_
  focus (first | omega | decide | (simp; omega))
  clear F a; intro a F;refine eOne (k := 13) (i := 13) rfl (by kernel_rfl) F rfl (oStY H 0 sizeOf5 F rfl rfl rfl (by omega) ?_);clear H; intro w H;refine ePartO (by kernel_rfl) H ?_
  refine eTakeF (k := 14) (i := 14) rfl (by kernel_rfl) F rfl rfl rfl (fun w => rIx underlying23 sizeOf5 F rfl rfl ?_) H (fun _ _ _ h => h) ?_
  focus (first | omega | decide | (simp; omega))
  clear F a; intro a F;refine eOne (k := 15) (i := 15) rfl (by kernel_rfl) F rfl (oStY H 0 sizeOf5 F rfl rfl rfl (by omega) ?_);clear H; intro w H;refine ePartO (by kernel_rfl) H ?_;refine eNil (k := 16) (by kernel_rfl) ?_;refine hK12 _ _ (cSR fun K13 hK13=>sMv F rfl rfl rfl ?_);clear hK12;clear F a;intro a F
  refine sBin F rfl rfl rfl rfl (bAddN (j := 1) ?_) ?_
  focus omega
  clear F a; intro a F;refine sAs F rfl rfl rfl (qNK hK13 (qSR fun K14 hK14=>qMv rfl rfl rfl ?_));clear hK13;clear F a;intro a F
  refine sBin F rfl rfl rfl rfl (bSubN (j := 1) ?_ ?_) ?_
  focus omega
  focus omega
  clear F a; intro a F;refine sAs F rfl rfl rfl (qNK hK14 ?_);clear hK14;clear F a;intro a F;refine cSeq (fun K15 hK15 => ?_);refine wp_block ?_
  have hjl : i ≤ j := by omega
  have h60' : (e j).toNat < (e lo).toNat := hls hjl
  have hne : i ≠ j := fun h => by
    have := hir hjl
    rw [h] at this; omega
  have hpt3 := hpt.swap hjl hne (hir hjl) h60'
  have hsm3 := hsm.trans (Sm.swap e (a := lo) (b := up) (i := i) (j := j) (by omega) (by omega) (by omega) (by omega))
  generalize hgi : i + 1 = i3 at hpt3 F
  generalize hgj : j - 1 = j3 at hpt3 F
  replace H := swp_now H
  generalize swp e i j = e3 at H hpt3 hsm3
  clear hir hpt hsm q1 q2 q4
  refine cLoopR [0, 1] (fun m ups w => ∃ (i j : Nat) (e : By), m = j + 1 ∧ ups = [(10, .int .i64 ((i : Nat) : Int)), (11, .int .i64 ((j : Nat) : Int))] ∧ Pt lo up i j e ∧ Sm lo up d e ∧ Own W row w (.byt g n c e :: rs)) F (j3 + 1) [(10, .int .i64 ((i3 : Nat) : Int)), (11, .int .i64 ((j3 : Nat) : Int))] (by repeat (first | exact SubR.nil | (apply SubR.cons; · rfl))) ?_ ?_ ?_
  · exact ⟨i3, j3, e3, rfl, rfl, hpt3, hsm3, H⟩
  · repeat (first | exact trivial | refine Le.cons rfl ?_)
  clear F
  clear H
  intro m ups a w hI F
  clear hpt3 hsm3; obtain ⟨i3, j3, e3, rfl, rfl, hpt3, hsm3, H⟩ := hI
  refine wp_block ?_
  refine cSeqJ [0, 1, 11] (fun ups w => ∃ i4 : Nat, ups = [(10, .int .i64 ((i4 : Nat) : Int))] ∧ Pt lo up i4 j3 e3 ∧ (i4 ≤ j3 → ¬ (e3 i4).toNat < (e3 lo).toNat) ∧ Own W row w (.byt g n c e3 :: rs)) F (by repeat (first | exact SubR.nil | (apply SubR.cons; · rfl))) ?_ ?_
  ·
   refine wp_block ?_
   refine cLoopR [0, 1, 11] (fun m ups w => ∃ (i : Nat), m = j3 + 1 - i ∧ ups = [(10, .int .i64 ((i : Nat) : Int))] ∧ Pt lo up i j3 e3 ∧ Own W row w (.byt g n c e3 :: rs)) F (j3 + 1 - i3) [(10, .int .i64 ((i3 : Nat) : Int))] (by repeat (first | exact SubR.nil | (apply SubR.cons; · rfl))) ?_ ?_ ?_
   · exact ⟨i3, rfl, rfl, hpt3, H⟩
   · repeat (first | exact trivial | refine Le.cons rfl ?_)
   clear F
   clear H
   intro m ups a w hI F
   clear hpt3; obtain ⟨i4, rfl, rfl, hpt3, H⟩ := hI; have q1 := hpt3.lo; have q2 := hpt3.ij; have q3 := hpt3.jb; have q4 := hpt3.aj
   refine cSeq (fun K16 hK16 => ?_);refine cSeq (fun K17 hK17 => ?_);refine cRegRO (by kernel_rfl) H ?_;replace H := H.drew;refine eTF 0 rfl (by kernel_rfl) F rfl rfl rfl (fun w=>rMv F rfl) H qq0 (qTF 1 rfl (by kernel_rfl) rfl rfl rfl (fun a F w=>rMv F rfl) H qq0 (qTF 2 rfl (by kernel_rfl) rfl rfl rfl (fun a F w=>rBin F rfl rfl bLeq) H qq0 (qTF 3 rfl (by kernel_rfl) rfl rfl rfl (fun a F w=>rMv F rfl) H qq0 ?_)));clear F a;intro a F
   refine F.split 102 rfl ?_ ?_ <;> (clear F; intro h102 F)
   ·
    replace h102 := of_decide_eq_true h102;refine eTF 4 rfl (by kernel_rfl) F rfl rfl rfl (fun w=>rMv F rfl) H qq0 (qTF 5 rfl (by kernel_rfl) rfl rfl rfl (fun a F w=>rMv F rfl) H qq0 ?_);clear F a;intro a F
    refine eTakeF (k := 6) (i := 6) rfl (by kernel_rfl) F rfl rfl rfl (fun w => rIx underlying23 sizeOf5 F rfl rfl ?_) H (fun _ _ _ h => h) ?_
    focus (first | omega | decide | (simp; omega))
    clear F a; intro a F;refine eT 7 rfl (by kernel_rfl) F rfl rfl rfl rfl (fun w H=>rLd isAgg5 F rfl (H.bytCell 0 rfl (by omega))) H qq0 (qTF 8 rfl (by kernel_rfl) rfl rfl rfl (fun a F w=>rMv F rfl) H qq0 (qTF 9 rfl (by kernel_rfl) rfl rfl rfl (fun a F w=>rMv F rfl) H qq0 ?_));clear F a;intro a F
    refine eTakeF (k := 10) (i := 10) rfl (by kernel_rfl) F rfl rfl rfl (fun w => rIx underlying23 sizeOf5 F rfl rfl ?_) H (fun _ _ _ h => h) ?_
    focus (first | omega | decide | (simp; omega))
    clear F a; intro a F;refine eT 11 rfl (by kernel_rfl) F rfl rfl rfl rfl (fun w H=>rLd isAgg5 F rfl (H.bytCell 0 rfl (by omega))) H qq0 ?_;clear F a;intro a F;refine eOne (k := 12) (i := 12) rfl (by kernel_rfl) F rfl (oCall call117 F rfl rfl (less_any (e3 i4) (e3 lo) _) ?_);rintro e w ⟨rfl, hb⟩;replace H := H.grow hb; clear hb;refine ⟨_, rfl, ?_⟩;clear F a; intro a F;refine ePartO (by kernel_rfl) H ?_;refine eTF 13 rfl (by kernel_rfl) F rfl rfl rfl (fun w=>rPk F rfl rfl) H qq0 ?_;clear F a;intro a F;refine eNil (k := 14) (by kernel_rfl) ?_;refine hK17 _ _ ?_;clear hK17
    refine cIf F rfl (fun h112 => ?_) (fun h112 => ?_)
    ·
     refine wp_skip (hK16 _ _ ?_);clear hK16;refine wp_block ?_;refine cReg (sMv F rfl rfl rfl ?_);clear F a;intro a F
     refine sBin F rfl rfl rfl rfl (bAddN (j := 1) ?_) ?_
     focus omega
     clear F a; intro a F;refine sAs F rfl rfl rfl ?_;clear F a;intro a F;refine sNil ?_
     exact ⟨_, by omega, _, ⟨i4 + 1, rfl, rfl, hpt3.up (by omega) (of_decide_eq_true h112), H⟩, F.to (by repeat (first | exact trivial | refine Le.cons rfl ?_))⟩
    refine wp_exit ?_
    first
    | exact ⟨_, ⟨i4, rfl, hpt3, fun _ => of_decide_eq_false h112, H⟩, F.to (by repeat (first | exact trivial | refine Le.cons rfl ?_))⟩
    | exact ⟨_, ⟨i4, rfl, hpt3, fun h => absurd h (by omega), H⟩, F.to (by repeat (first | exact trivial | refine Le.cons rfl ?_))⟩
   replace h102 := of_decide_eq_false h102;refine eSF 4 rfl (by kernel_rfl) F rfl rfl rfl H qq0 (qSF 5 rfl (by kernel_rfl) rfl rfl rfl H qq0 (qSF 6 rfl (by kernel_rfl) rfl rfl rfl H qq0 (qSF 7 rfl (by kernel_rfl) rfl rfl rfl H qq0 (qSF 8 rfl (by kernel_rfl) rfl rfl rfl H qq0 (qSF 9 rfl (by kernel_rfl) rfl rfl rfl H qq0 (qSF 10 rfl (by kernel_rfl) rfl rfl rfl H qq0 (qSF 11 rfl (by kernel_rfl) rfl rfl rfl H qq0 (qSF 12 rfl (by kernel_rfl) rfl rfl rfl H qq0 (qTF 13 rfl (by kernel_rfl) rfl rfl rfl (fun a F w=>rPk F rfl rfl) H qq0 ?_)))))))));clear F a;intro a F;refine eNil (k := 14) (by kernel_rfl) ?_;refine hK17 _ _ ?_;clear hK17;refine cIfF F rfl ?_;refine wp_exit ?_
   first
   | exact ⟨_, ⟨i4, rfl, hpt3, fun _ => of_decide_eq_false h112, H⟩, F.to (by repeat (first | exact trivial | refine Le.cons rfl ?_))⟩
   | exact ⟨_, ⟨i4, rfl, hpt3, fun h => absurd h (by omega), H⟩, F.to (by repeat (first | exact trivial | refine Le.cons rfl ?_))⟩
  clear F H
  intro ups a w hI F
  clear hpt3; obtain ⟨i4, rfl, hpt3, hge3, H⟩ := hI; have q1 := hpt3.lo; have q2 := hpt3.ij; have q3 := hpt3.jb; have q4 := hpt3.aj
  refine cSeqJ [0, 1, 10] (fun ups w => ∃ j5 : Nat, ups = [(11, .int .i64 ((j5 : Nat) : Int))] ∧ Pt lo up i4 j5 e3 ∧ (i4 ≤ j5 → ¬ (e3 i4).toNat < (e3 lo).toNat) ∧ (i4 ≤ j5 → (e3 j5).toNat < (e3 lo).toNat) ∧ j5 ≤ j3 ∧ Own W row w (.byt g n c e3 :: rs)) F (by repeat (first | exact SubR.nil | (apply SubR.cons; · rfl))) ?_ ?_
  ·
   refine wp_block ?_
   refine cLoopR [0, 1, 10] (fun m ups w => ∃ (j : Nat), m = j + 1 ∧ ups = [(11, .int .i64 ((j : Nat) : Int))] ∧ Pt lo up i4 j e3 ∧ (i4 ≤ j → ¬ (e3 i4).toNat < (e3 lo).toNat) ∧ j ≤ j3 ∧ Own W row w (.byt g n c e3 :: rs)) F (j3 + 1) [(11, .int .i64 ((j3 : Nat) : Int))] (by repeat (first | exact SubR.nil | (apply SubR.cons; · rfl))) ?_ ?_ ?_
   · exact ⟨j3, rfl, rfl, hpt3, hge3, Nat.le_refl _, H⟩
   · repeat (first | exact trivial | refine Le.cons rfl ?_)
   clear F
   clear H
   intro m ups a w hI F
   clear hpt3 q2 q4; obtain ⟨j5, rfl, rfl, hpt3, hir, hjj, H⟩ := hI; have q2 := hpt3.ij; have q4 := hpt3.aj
   refine cSeq (fun K18 hK18 => ?_);refine cSeq (fun K19 hK19 => ?_);refine cRegRO (by kernel_rfl) H ?_;replace H := H.drew;refine eTF 0 rfl (by kernel_rfl) F rfl rfl rfl (fun w=>rMv F rfl) H qq0 (qTF 1 rfl (by kernel_rfl) rfl rfl rfl (fun a F w=>rMv F rfl) H qq0 (qTF 2 rfl (by kernel_rfl) rfl rfl rfl (fun a F w=>rBin F rfl rfl bLeq) H qq0 (qTF 3 rfl (by kernel_rfl) rfl rfl rfl (fun a F w=>rMv F rfl) H qq0 ?_)));clear F a;intro a F
   refine F.split 118 rfl ?_ ?_ <;> (clear F; intro h118 F)
   ·
    replace h118 := of_decide_eq_true h118;refine eTF 4 rfl (by kernel_rfl) F rfl rfl rfl (fun w=>rMv F rfl) H qq0 (qTF 5 rfl (by kernel_rfl) rfl rfl rfl (fun a F w=>rMv F rfl) H qq0 ?_);clear F a;intro a F
    refine eTakeF (k := 6) (i := 6) rfl (by kernel_rfl) F rfl rfl rfl (fun w => rIx underlying23 sizeOf5 F rfl rfl ?_) H (fun _ _ _ h => h) ?_
    focus (first | omega | decide | (simp; omega))
    clear F a; intro a F;refine eT 7 rfl (by kernel_rfl) F rfl rfl rfl rfl (fun w H=>rLd isAgg5 F rfl (H.bytCell 0 rfl (by omega))) H qq0 (qTF 8 rfl (by kernel_rfl) rfl rfl rfl (fun a F w=>rMv F rfl) H qq0 (qTF 9 rfl (by kernel_rfl) rfl rfl rfl (fun a F w=>rMv F rfl) H qq0 ?_));clear F a;intro a F
    refine eTakeF (k := 10) (i := 10) rfl (by kernel_rfl) F rfl rfl rfl (fun w => rIx underlying23 sizeOf5 F rfl rfl ?_) H (fun _ _ _ h => h) ?_
    focus (first | omega | decide | (simp; omega))
    clear F a; intro a F;refine eT 11 rfl (by kernel_rfl) F rfl rfl rfl rfl (fun w H=>rLd isAgg5 F rfl (H.bytCell 0 rfl (by omega))) H qq0 ?_;clear F a;intro a F;refine eOne (k := 12) (i := 12) rfl (by kernel_rfl) F rfl (oCall call117 F rfl rfl (less_any (e3 j5) (e3 lo) _) ?_);rintro e w ⟨rfl, hb⟩;replace H := H.grow hb; clear hb;refine ⟨_, rfl, ?_⟩;clear F a; intro a F;refine ePartO (by kernel_rfl) H ?_;refine eTF 13 rfl (by kernel_rfl) F rfl rfl rfl (fun w=>rNot F rfl) H qq0 (qTF 14 rfl (by kernel_rfl) rfl rfl rfl (fun a F w=>rPk F rfl rfl) H qq0 ?_);clear F a;intro a F;refine eNil (k := 15) (by kernel_rfl) ?_;refine hK19 _ _ ?_;clear hK19
    refine cIf F rfl (fun h129 => ?_) (fun h129 => ?_)
    ·
     replace h129 := notT h129;refine wp_skip (hK18 _ _ ?_);clear hK18;refine wp_block ?_;refine cReg (sMv F rfl rfl rfl ?_);clear F a;intro a F
     refine sBin F rfl rfl rfl rfl (bSubN (j := 1) ?_ ?_) ?_
     focus omega
     focus omega
     clear F a; intro a F;refine sAs F rfl rfl rfl ?_;clear F a;intro a F;refine sNil ?_
     have h129' : ¬ (e3 j5).toNat < (e3 lo).toNat := by simpa using h129
     exact ⟨_, by omega, _, ⟨j5 - 1, rfl, rfl, hpt3.down (by omega) h129', fun h => hir (by omega), by omega, H⟩, F.to (by repeat (first | exact trivial | refine Le.cons rfl ?_))⟩
    replace h129 := notF h129;refine wp_exit ?_
    first
    | exact ⟨_, ⟨j5, rfl, hpt3, hir, fun _ => of_decide_eq_true h129, hjj, H⟩, F.to (by repeat (first | exact trivial | refine Le.cons rfl ?_))⟩
    | exact ⟨_, ⟨j5, rfl, hpt3, hir, fun h => absurd h (by omega), hjj, H⟩, F.to (by repeat (first | exact trivial | refine Le.cons rfl ?_))⟩
   replace h118 := of_decide_eq_false h118;refine eSF 4 rfl (by kernel_rfl) F rfl rfl rfl H qq0 (qSF 5 rfl (by kernel_rfl) rfl rfl rfl H qq0 (qSF 6 rfl (by kernel_rfl) rfl rfl rfl H qq0 (qSF 7 rfl (by kernel_rfl) rfl rfl rfl H qq0 (qSF 8 rfl (by kernel_rfl) rfl rfl rfl H qq0 (qSF 9 rfl (by kernel_rfl) rfl rfl rfl H qq0 (qSF 10 rfl (by kernel_rfl) rfl rfl rfl H qq0 (qSF 11 rfl (by kernel_rfl) rfl rfl rfl H qq0 (qSF 12 rfl (by kernel_rfl) rfl rfl rfl H qq0 (qSF 13 rfl (by kernel_rfl) rfl rfl rfl H qq0 (qTF 14 rfl (by kernel_rfl) rfl rfl rfl (fun a F w=>rPk F rfl rfl) H qq0 ?_))))))))));clear F a;intro a F;refine eNil (k := 15) (by kernel_rfl) ?_;refine hK19 _ _ ?_;clear hK19;refine cIfF F rfl ?_;refine wp_exit ?_
   first
   | exact ⟨_, ⟨j5, rfl, hpt3, hir, fun _ => of_decide_eq_true h129, hjj, H⟩, F.to (by repeat (first | exact trivial | refine Le.cons rfl ?_))⟩
   | exact ⟨_, ⟨j5, rfl, hpt3, hir, fun h => absurd h (by omega), hjj, H⟩, F.to (by repeat (first | exact trivial | refine Le.cons rfl ?_))⟩
  clear F H
  intro ups a w hI F
  clear hpt3 q2 q4; obtain ⟨j5, rfl, hpt3, hir, hls, hjj, H⟩ := hI; have q2 := hpt3.ij; have q4 := hpt3.aj
  refine cSeq (fun K20 hK20 => ?_);refine cSR fun K21 hK21=>sMv F rfl rfl rfl (qMv rfl rfl rfl (qBin rfl rfl rfl rfl bGtr (qNK hK21 ?_)));clear hK21;clear F a;intro a F
  refine cIf F rfl (fun h134 => ?_) (fun h134 => ?_)
  ·
   replace h134 := of_decide_eq_true h134;refine wp_exit ?_;refine hK15 _ _ ?_;clear hK15;refine cSeq (fun K22 hK22 => ?_);refine cRegRO (by kernel_rfl) H ?_;replace H := H.drew;refine eTF 0 rfl (by kernel_rfl) F rfl rfl rfl (fun w=>rMv F rfl) H qq0 (qTF 1 rfl (by kernel_rfl) rfl rfl rfl (fun a F w=>rMv F rfl) H qq0 (qTF 2 rfl (by kernel_rfl) rfl rfl rfl (fun a F w=>rMv F rfl) H qq0 (qTF 3 rfl (by kernel_rfl) rfl rfl rfl (fun a F w=>rMv F rfl) H qq0 (qTF 4 rfl (by kernel_rfl) rfl rfl rfl (fun a F w=>rMv F rfl) H qq0 (qTF 5 rfl (by kernel_rfl) rfl rfl rfl (fun a F w=>rMv F rfl) H qq0 ?_)))));clear F a;intro a F
   refine eTakeF (k := 6) (i := 6) rfl (by kernel_rfl) F rfl rfl rfl (fun w => rIx underlying23 sizeOf5 F rfl rfl ?_) H (fun _ _ _ h => h) ?_
   focus (first | omega | decide | (simp; omega))
   clear F a; intro a F;refine eT 7 rfl (by kernel_rfl) F rfl rfl rfl rfl (fun w H=>rLd isAgg5 F rfl (H.bytCell 0 rfl (by omega))) H qq0 (qTF 8 rfl (by kernel_rfl) rfl rfl rfl (fun a F w=>rMv F rfl) H qq0 (qTF 9 rfl (by kernel_rfl) rfl rfl rfl (fun a F w=>rMv F rfl) H qq0 ?_));clear F a;intro a F
   refine eTakeF (k := 10) (i := 10) rfl (by kernel_rfl) F rfl rfl rfl (fun w => rIx underlying23 sizeOf5 F rfl rfl ?_) H (fun _ _ _ h => h) ?_
   focus (first | omega | decide | (simp; omega))
   clear F a; intro a F;refine eT 11 rfl (by kernel_rfl) F rfl rfl rfl rfl (fun w H=>rLd isAgg5 F rfl (H.bytCell 0 rfl (by omega))) H qq0 ?_;clear F a;intro a F
   refine eTakeF (k := 12) (i := 12) rfl (by kernel_rfl) F rfl rfl rfl (fun w => rIx underlying23 sizeOf5 F rfl rfl ?_) H (fun _ _ _ h => h) ?_
   focus (first | omega | decide | (simp; omega))
   clear F a; intro a F;refine eOne (k := 13) (i := 13) rfl (by kernel_rfl) F rfl (oStY H 0 sizeOf5 F rfl rfl rfl (by omega) ?_);clear H; intro w H;refine ePartO (by kernel_rfl) H ?_
   refine eTakeF (k := 14) (i := 14) rfl (by kernel_rfl) F rfl rfl rfl (fun w => rIx underlying23 sizeOf5 F rfl rfl ?_) H (fun _ _ _ h => h) ?_
   focus (first | omega | decide | (simp; omega))
   clear F a; intro a F;refine eOne (k := 15) (i := 15) rfl (by kernel_rfl) F rfl (oStY H 0 sizeOf5 F rfl rfl rfl (by omega) ?_);clear H; intro w H;refine ePartO (by kernel_rfl) H ?_;refine eNil (k := 16) (by kernel_rfl) ?_;refine hK22 _ _ (cSR fun K23 hK23=>sMv F rfl rfl rfl (qAs rfl rfl rfl (qAs rfl rfl rfl (qNK hK23 ?_))));clear hK22 hK23;clear F a;intro a F;refine wp_ret ?_;refine bRet2 results119 F rfl rfl ?_
   first
   | exact ⟨j, true, _, rfl, hsm.trans (Sm.swap e (by omega) (by omega) (by omega) (by omega)), hpt.done (by omega), swp_now H⟩
   | exact ⟨j5, false, _, rfl, hsm3.trans (Sm.swap e3 (by omega) (by omega) (by omega) (by omega)), hpt3.done (by omega), swp_now H⟩
  replace h134 := of_decide_eq_false h134;refine wp_skip (hK20 _ _ ?_);clear hK20;refine cSeq (fun K24 hK24 => ?_);refine cRegRO (by kernel_rfl) H ?_;replace H := H.drew;refine eTF 0 rfl (by kernel_rfl) F rfl rfl rfl (fun w=>rMv F rfl) H qq0 (qTF 1 rfl (by kernel_rfl) rfl rfl rfl (fun a F w=>rMv F rfl) H qq0 (qTF 2 rfl (by kernel_rfl) rfl rfl rfl (fun a F w=>rMv F rfl) H qq0 (qTF 3 rfl (by kernel_rfl) rfl rfl rfl (fun a F w=>rMv F rfl) H qq0 (qTF 4 rfl (by kernel_rfl) rfl rfl rfl (fun a F w=>rMv F rfl) H qq0 (qTF 5 rfl (by kernel_rfl) rfl rfl rfl (fun a F w=>rMv F rfl) H qq0 ?_)))));clear F a;intro a F
  refine eTakeF (k := 6) (i := 6) rfl (by kernel_rfl) F rfl rfl rfl (fun w => rIx underlying23 sizeOf5 F rfl rfl ?_) H (fun _ _ _ h => h) ?_
  focus (first | omega | decide | (simp; omega))
  clear F a; intro a F;refine eT 7 rfl (by kernel_rfl) F rfl rfl rfl rfl (fun w H=>rLd isAgg5 F rfl (H.bytCell 0 rfl (by omega))) H qq0 (qTF 8 rfl (by kernel_rfl) rfl rfl rfl (fun a F w=>rMv F rfl) H qq0 (qTF 9 rfl (by kernel_rfl) rfl rfl rfl (fun a F w=>rMv F rfl) H qq0 ?_));clear F a;intro a F
  refine eTakeF (k := 10) (i := 10) rfl (by kernel_rfl) F rfl rfl rfl (fun w => rIx underlying23 sizeOf5 F rfl rfl ?_) H (fun _ _ _ h => h) ?_
  focus (first | omega | decide | (simp; omega))
  clear F a; intro a F;refine eT 11 rfl (by kernel_rfl) F rfl rfl rfl rfl (fun w H=>rLd isAgg5 F rfl (H.bytCell 0 rfl (by omega))) H qq0 ?_;clear F a;intro a F
  refine eTakeF (k := 12) (i := 12) rfl (by kernel_rfl) F rfl rfl rfl (fun w => rIx underlying23 sizeOf5 F rfl rfl ?_) H (fun _ _ _ h => h) ?_
  focus (first | omega | decide | (simp; omega))
  clear F a; intro a F;refine eOne (k := 13) (i := 13) rfl (by kernel_rfl) F rfl (oStY H 0 sizeOf5 F rfl rfl rfl (by omega) ?_);clear H; intro w H;refine ePartO (by kernel_rfl) H ?_
  refine eTakeF (k := 14) (i := 14) rfl (by kernel_rfl) F rfl rfl rfl (fun w => rIx underlying23 sizeOf5 F rfl rfl ?_) H (fun _ _ _ h => h) ?_
  focus (first | omega | decide | (simp; omega))
  clear F a; intro a F;refine eOne (k := 15) (i := 15) rfl (by kernel_rfl) F rfl (oStY H 0 sizeOf5 F rfl rfl rfl (by omega) ?_);clear H; intro w H;refine ePartO (by kernel_rfl) H ?_;refine eNil (k := 16) (by kernel_rfl) ?_;refine hK24 _ _ (cSR fun K25 hK25=>sMv F rfl rfl rfl ?_);clear hK24;clear F a;intro a F
  refine sBin F rfl rfl rfl rfl (bAddN (j := 1) ?_) ?_
  focus omega
  clear F a; intro a F;refine sAs F rfl rfl rfl (qNK hK25 (qReg (qMv rfl rfl rfl ?_)));clear hK25;clear F a;intro a F
  refine sBin F rfl rfl rfl rfl (bSubN (j := 1) ?_ ?_) ?_
  focus omega
  focus omega
  clear F a; intro a F;refine sAs F rfl rfl rfl ?_;clear F a;intro a F;refine sNil ?_
  first
  | (have hjl5 : i4 ≤ j5 := by omega
     have h129' : (e3 j5).toNat < (e3 lo).toNat := hls hjl5
     have hne : i4 ≠ j5 := fun h => by
       have := hir hjl5
       rw [h] at this; omega
     exact ⟨_, by omega, _, ⟨i4 + 1, j5 - 1, _, rfl, rfl, hpt3.swap hjl5 hne (hir hjl5) h129', hsm3.trans (Sm.swap e3 (by omega) (by omega) (by omega) (by omega)), swp_now H⟩, F.to (by repeat (first | exact trivial | refine Le.cons rfl ?_))⟩)
  | (exfalso; omega)
end Go.Proofs.YtklpiodciblabaaGreatDoor
