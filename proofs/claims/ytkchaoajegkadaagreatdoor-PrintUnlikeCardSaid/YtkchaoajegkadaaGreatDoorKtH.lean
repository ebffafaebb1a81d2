/-
  WALK2. seisinkit: SameTexts, SameBytes, SameInses, SameThreads, SameConds, SameCond, SameProg: both answers. Conditions: the arguments lie in memory.
-/
import Derived.Test.YtkchaoajegkadaaGreatDoorJn9
set_option linter.unusedSimpArgs false
set_option linter.unusedVariables false
namespace Go.Proofs.YtkchaoajegkadaaGreatDoor
open Go.Proofs.Tryz
open Go.RowKit
set_option maxRecDepth 100000
set_option maxHeartbeats 2000000 in
theorem sameTexts2 (A B : Option Addr) (CA CB : Nat) (l k : List ByteArray) (w0 : World) (hA : RowsAt w0 A 1 (l.map fun s => [.string s])) (hB : RowsAt w0 B 1 (k.map fun s => [.string s])) (hl : l.length ≤ 9223372036854775807) (hk : k.length ≤ 9223372036854775807) :
    Calls Tryz.prog 28 #[.slice A l.length CA, .slice B k.length CB] w0 fun e w' => (∃ b : Bool, e = .returned (.bool b) ∧ (b = true ↔ l = k)) ∧ Below w0.heap.size w0 w' := by
  have H := Own.start w0 none
  refine enterF func28 rfl ntmps28 rfl (fun a F => ?_);refine cSR fun K1 hK1=>sAs F rfl rfl rfl (qNK hK1 ?_);clear hK1;clear F a;intro a F;refine cSeq (fun K2 hK2 => ?_);refine cSR fun K3 hK3=>sMv F rfl rfl rfl (qLen underlying22 rfl rfl rfl (qMv rfl rfl rfl (qLen underlying22 rfl rfl rfl (qBin rfl rfl rfl rfl bNeq (qNK hK3 ?_)))));clear hK3;clear F a;intro a F
  refine cIf F rfl (fun h10 => ?_) (fun h10 => ?_)
  ·
   replace h10 := bneT h10
   have hne : l.length ≠ k.length := by intro e; apply h10; rw [e]
   refine cSR fun K4 hK4=>sAs F rfl rfl rfl (qNK hK4 ?_);clear hK4;clear F a;intro a F;refine wp_ret ?_;simp only [Exit.then];refine bRet results28 F rfl ?_
   first
   | exact ⟨⟨_, rfl, by simp only [Bool.false_eq_true, false_iff]; intro e; exact hne (by rw [e])⟩, H.below⟩
   | exact ⟨⟨_, rfl, by
       simp only [Bool.false_eq_true, false_iff]; intro e
       subst e
       obtain rfl : x = y := Option.some.inj (hx.symm.trans hy)
       first | exact absurd rfl h25 | simp at h25⟩, H.below⟩
   | exact ⟨⟨_, rfl, by
       simp only [true_iff]
       refine List.ext_getElem? fun j => ?_
       by_cases hj : j < i
       · exact hsm j hj
       · rw [List.getElem?_eq_none (by omega), List.getElem?_eq_none (by omega)]⟩, H.below⟩
  replace h10 := bneF h10
  have hq : l.length = k.length := by omega
  refine wp_skip (hK2 _ _ ?_);clear hK2;refine cSeq (fun K5 hK5 => ?_);refine cSR fun K6 hK6=>sAs F rfl rfl rfl (qNK hK6 ?_);clear hK6;clear F a;intro a F;refine wp_block ?_
  refine cLoopR [0, 1] (fun m ups w => ∃ i : Nat, m = l.length - i ∧ ups = [(5, .int .i64 ((i : Nat) : Int))] ∧ i ≤ l.length ∧ (∀ j, j < i → l[j]? = k[j]?) ∧ Own w0 none w []) F (l.length) [(5, .int .i64 ((0 : Nat) : Int))] (by repeat (first | exact SubR.nil | (apply SubR.cons; · rfl))) ?_ ?_ ?_
  · exact ⟨0, rfl, rfl, by omega, fun j h => by omega, H.sel [] rfl rfl⟩
  · repeat (first | exact trivial | refine Le.cons rfl ?_)
  clear F
  clear H
  intro m ups a w hI F
  obtain ⟨i, rfl, rfl, hi, hsm, H⟩ := hI
  refine cSeq (fun K7 hK7 => ?_);refine cSR fun K8 hK8=>sMv F rfl rfl rfl (qMv rfl rfl rfl (qLen underlying22 rfl rfl rfl (qBin rfl rfl rfl rfl bLss (qNK hK8 ?_))));clear hK8;clear F a;intro a F
  refine cIf F rfl (fun h14 => ?_) (fun h14 => ?_)
  ·
   replace h14 := of_decide_eq_true h14
   obtain ⟨x, hx⟩ : ∃ x, l[i]? = some x := ⟨_, List.getElem?_eq_getElem (by omega)⟩
   obtain ⟨y, hy⟩ : ∃ y, k[i]? = some y := ⟨_, List.getElem?_eq_getElem (by omega)⟩
   obtain ⟨bA, oA, rfl, hAx⟩ := mapAt hA hx
   obtain ⟨bB, oB, rfl, hBx⟩ := mapAt hB hy
   refine wp_skip (hK7 _ _ ?_);clear hK7;refine cSeq (fun K9 hK9 => ?_);refine wp_block ?_;refine cSeq (fun K10 hK10 => ?_);refine cRegRO (by kernel_rfl) H ?_;replace H := H.drew;refine eTF 0 rfl (by kernel_rfl) F rfl rfl rfl (fun w=>rMv F rfl) H qq0 (qTF 1 rfl (by kernel_rfl) rfl rfl rfl (fun a F w=>rMv F rfl) H qq0 ?_);clear F a;intro a F
   refine eTakeF (k := 2) (i := 2) rfl (by kernel_rfl) F rfl rfl rfl (fun w => rIx underlying22 sizeOf9 F rfl rfl ?_) H (fun _ _ _ h => h) ?_
   focus (first | omega | decide | (simp; omega))
   clear F a; intro a F;refine eT 3 rfl (by kernel_rfl) F rfl rfl rfl rfl (fun w H=>rLd isAgg9 F rfl (H.arg (hAx 0 _ rfl))) H qq0 (qTF 4 rfl (by kernel_rfl) rfl rfl rfl (fun a F w=>rMv F rfl) H qq0 (qTF 5 rfl (by kernel_rfl) rfl rfl rfl (fun a F w=>rMv F rfl) H qq0 ?_));clear F a;intro a F
   refine eTakeF (k := 6) (i := 6) rfl (by kernel_rfl) F rfl rfl rfl (fun w => rIx underlying22 sizeOf9 F rfl rfl ?_) H (fun _ _ _ h => h) ?_
   focus (first | omega | decide | (simp; omega))
   clear F a; intro a F;refine eT 7 rfl (by kernel_rfl) F rfl rfl rfl rfl (fun w H=>rLd isAgg9 F rfl (H.arg (hBx 0 _ rfl))) H qq0 (qTF 8 rfl (by kernel_rfl) rfl rfl rfl (fun a F w=>rBin F rfl rfl bStrNe) H qq0 ?_);clear F a;intro a F;refine eNil (k := 9) (by kernel_rfl) ?_;refine hK10 _ _ ?_;clear hK10
   refine cIf F rfl (fun h25 => ?_) (fun h25 => ?_)
   ·
    replace h25 := nbeqT h25;refine cSR fun K11 hK11=>sAs F rfl rfl rfl (qNK hK11 ?_);clear hK11;clear F a;intro a F;refine wp_ret ?_;simp only [Exit.inBlock, Exit.then];refine bRet results28 F rfl ?_
    first
    | exact ⟨⟨_, rfl, by simp only [Bool.false_eq_true, false_iff]; intro e; exact hne (by rw [e])⟩, H.below⟩
    | exact ⟨⟨_, rfl, by
        simp only [Bool.false_eq_true, false_iff]; intro e
        subst e
        obtain rfl : x = y := Option.some.inj (hx.symm.trans hy)
        first | exact absurd rfl h25 | simp at h25⟩, H.below⟩
    | exact ⟨⟨_, rfl, by
        simp only [true_iff]
        refine List.ext_getElem? fun j => ?_
        by_cases hj : j < i
        · exact hsm j hj
        · rw [List.getElem?_eq_none (by omega), List.getElem?_eq_none (by omega)]⟩, H.below⟩
   replace h25 := nbeqF h25;refine wp_skip (hK9 _ _ (cReg (sMv F rfl rfl rfl ?_)));clear hK9;clear F a;intro a F
   refine sBin F rfl rfl rfl rfl (bAddN (j := 1) ?_) ?_
   focus omega
   clear F a; intro a F;refine sAs F rfl rfl rfl ?_;clear F a;intro a F;refine sNil ?_
   have hxy : x = y := eq_of_toList (by first | exact h25 | simpa using h25)
   exact ⟨_, by omega, _, ⟨i + 1, rfl, rfl, by omega, fun j hj => by rcases Nat.lt_succ_iff_lt_or_eq.1 hj with h | rfl; exact hsm j h; rw [hx, hy, hxy], H.sel [] rfl rfl⟩, F.to (by repeat (first | exact trivial | refine Le.cons rfl ?_))⟩
  replace h14 := of_decide_eq_false h14;refine wp_exit ?_;refine hK5 _ _ (cSR fun K12 hK12=>sAs F rfl rfl rfl (qNK hK12 ?_));clear hK5 hK12;clear F a;intro a F;refine wp_ret ?_;refine bRet results28 F rfl ?_
  first
  | exact ⟨⟨_, rfl, by simp only [Bool.false_eq_true, false_iff]; intro e; exact hne (by rw [e])⟩, H.below⟩
  | exact ⟨⟨_, rfl, by
      simp only [Bool.false_eq_true, false_iff]; intro e
      subst e
      obtain rfl : x = y := Option.some.inj (hx.symm.trans hy)
      first | exact absurd rfl h25 | simp at h25⟩, H.below⟩
  | exact ⟨⟨_, rfl, by
      simp only [true_iff]
      refine List.ext_getElem? fun j => ?_
      by_cases hj : j < i
      · exact hsm j hj
      · rw [List.getElem?_eq_none (by omega), List.getElem?_eq_none (by omega)]⟩, H.below⟩
set_option maxHeartbeats 2000000 in
theorem sameBytes2 (A B : Option Addr) (CA CB : Nat) (l k : List UInt8) (w0 : World) (hA : RowsAt w0 A 1 (l.map fun x => [Go.Proofs.YtkchaoajegkadaaGreatDoor.b8 x])) (hB : RowsAt w0 B 1 (k.map fun x => [Go.Proofs.YtkchaoajegkadaaGreatDoor.b8 x])) (hl : l.length ≤ 9223372036854775807) (hk : k.length ≤ 9223372036854775807) :
    Calls Tryz.prog 29 #[.slice A l.length CA, .slice B k.length CB] w0 fun e w' => (∃ b : Bool, e = .returned (.bool b) ∧ (b = true ↔ l = k)) ∧ Below w0.heap.size w0 w' := by
  have H := Own.start w0 none
  refine enterF func29 rfl ntmps29 rfl (fun a F => ?_);refine cSR fun K1 hK1=>sAs F rfl rfl rfl (qNK hK1 ?_);clear hK1;clear F a;intro a F;refine cSeq (fun K2 hK2 => ?_);refine cSR fun K3 hK3=>sMv F rfl rfl rfl (qLen underlying23 rfl rfl rfl (qMv rfl rfl rfl (qLen underlying23 rfl rfl rfl (qBin rfl rfl rfl rfl bNeq (qNK hK3 ?_)))));clear hK3;clear F a;intro a F
  refine cIf F rfl (fun h10 => ?_) (fun h10 => ?_)
  ·
   replace h10 := bneT h10
   have hne : l.length ≠ k.length := by intro e; apply h10; rw [e]
   refine cSR fun K4 hK4=>sAs F rfl rfl rfl (qNK hK4 ?_);clear hK4;clear F a;intro a F;refine wp_ret ?_;simp only [Exit.then];refine bRet results29 F rfl ?_
   first
   | exact ⟨⟨_, rfl, by simp only [Bool.false_eq_true, false_iff]; intro e; exact hne (by rw [e])⟩, H.below⟩
   | exact ⟨⟨_, rfl, by
       simp only [Bool.false_eq_true, false_iff]; intro e
       subst e
       obtain rfl : x = y := Option.some.inj (hx.symm.trans hy)
       first | exact absurd rfl h25 | simp at h25⟩, H.below⟩
   | exact ⟨⟨_, rfl, by
       simp only [true_iff]
       refine List.ext_getElem? fun j => ?_
       by_cases hj : j < i
       · exact hsm j hj
       · rw [List.getElem?_eq_none (by omega), List.getElem?_eq_none (by omega)]⟩, H.below⟩
  replace h10 := bneF h10
  have hq : l.length = k.length := by omega
  refine wp_skip (hK2 _ _ ?_);clear hK2;refine cSeq (fun K5 hK5 => ?_);refine cSR fun K6 hK6=>sAs F rfl rfl rfl (qNK hK6 ?_);clear hK6;clear F a;intro a F;refine wp_block ?_
  refine cLoopR [0, 1] (fun m ups w => ∃ i : Nat, m = l.length - i ∧ ups = [(5, .int .i64 ((i : Nat) : Int))] ∧ i ≤ l.length ∧ (∀ j, j < i → l[j]? = k[j]?) ∧ Own w0 none w []) F (l.length) [(5, .int .i64 ((0 : Nat) : Int))] (by repeat (first | exact SubR.nil | (apply SubR.cons; · rfl))) ?_ ?_ ?_
  · exact ⟨0, rfl, rfl, by omega, fun j h => by omega, H.sel [] rfl rfl⟩
  · repeat (first | exact trivial | refine Le.cons rfl ?_)
  clear F
  clear H
  intro m ups a w hI F
  obtain ⟨i, rfl, rfl, hi, hsm, H⟩ := hI
  refine cSeq (fun K7 hK7 => ?_);refine cSR fun K8 hK8=>sMv F rfl rfl rfl (qMv rfl rfl rfl (qLen underlying23 rfl rfl rfl (qBin rfl rfl rfl rfl bLss (qNK hK8 ?_))));clear hK8;clear F a;intro a F
  refine cIf F rfl (fun h14 => ?_) (fun h14 => ?_)
  ·
   replace h14 := of_decide_eq_true h14
   obtain ⟨x, hx⟩ : ∃ x, l[i]? = some x := ⟨_, List.getElem?_eq_getElem (by omega)⟩
   obtain ⟨y, hy⟩ : ∃ y, k[i]? = some y := ⟨_, List.getElem?_eq_getElem (by omega)⟩
   obtain ⟨bA, oA, rfl, hAx⟩ := mapAt hA hx
   obtain ⟨bB, oB, rfl, hBx⟩ := mapAt hB hy
   refine wp_skip (hK7 _ _ ?_);clear hK7;refine cSeq (fun K9 hK9 => ?_);refine wp_block ?_;refine cSeq (fun K10 hK10 => ?_);refine cRegRO (by kernel_rfl) H ?_;replace H := H.drew;refine eTF 0 rfl (by kernel_rfl) F rfl rfl rfl (fun w=>rMv F rfl) H qq0 (qTF 1 rfl (by kernel_rfl) rfl rfl rfl (fun a F w=>rMv F rfl) H qq0 ?_);clear F a;intro a F
   refine eTakeF (k := 2) (i := 2) rfl (by kernel_rfl) F rfl rfl rfl (fun w => rIx underlying23 sizeOf5 F rfl rfl ?_) H (fun _ _ _ h => h) ?_
   focus (first | omega | decide | (simp; omega))
   clear F a; intro a F;refine eT 3 rfl (by kernel_rfl) F rfl rfl rfl rfl (fun w H=>rLd isAgg5 F rfl (H.arg (hAx 0 _ rfl))) H qq0 (qTF 4 rfl (by kernel_rfl) rfl rfl rfl (fun a F w=>rMv F rfl) H qq0 (qTF 5 rfl (by kernel_rfl) rfl rfl rfl (fun a F w=>rMv F rfl) H qq0 ?_));clear F a;intro a F
   refine eTakeF (k := 6) (i := 6) rfl (by kernel_rfl) F rfl rfl rfl (fun w => rIx underlying23 sizeOf5 F rfl rfl ?_) H (fun _ _ _ h => h) ?_
   focus (first | omega | decide | (simp; omega))
   clear F a; intro a F;refine eT 7 rfl (by kernel_rfl) F rfl rfl rfl rfl (fun w H=>rLd isAgg5 F rfl (H.arg (hBx 0 _ rfl))) H qq0 (qTF 8 rfl (by kernel_rfl) rfl rfl rfl (fun a F w=>rBin F rfl rfl bNeqB) H qq0 ?_);clear F a;intro a F;refine eNil (k := 9) (by kernel_rfl) ?_;refine hK10 _ _ ?_;clear hK10
   refine cIf F rfl (fun h25 => ?_) (fun h25 => ?_)
   ·
    replace h25 := bneT h25;refine cSR fun K11 hK11=>sAs F rfl rfl rfl (qNK hK11 ?_);clear hK11;clear F a;intro a F;refine wp_ret ?_;simp only [Exit.inBlock, Exit.then];refine bRet results29 F rfl ?_
    first
    | exact ⟨⟨_, rfl, by simp only [Bool.false_eq_true, false_iff]; intro e; exact hne (by rw [e])⟩, H.below⟩
    | exact ⟨⟨_, rfl, by
        simp only [Bool.false_eq_true, false_iff]; intro e
        subst e
        obtain rfl : x = y := Option.some.inj (hx.symm.trans hy)
        first | exact absurd rfl h25 | simp at h25⟩, H.below⟩
    | exact ⟨⟨_, rfl, by
        simp only [true_iff]
        refine List.ext_getElem? fun j => ?_
        by_cases hj : j < i
        · exact hsm j hj
        · rw [List.getElem?_eq_none (by omega), List.getElem?_eq_none (by omega)]⟩, H.below⟩
   replace h25 := bneF h25;refine wp_skip (hK9 _ _ (cReg (sMv F rfl rfl rfl ?_)));clear hK9;clear F a;intro a F
   refine sBin F rfl rfl rfl rfl (bAddN (j := 1) ?_) ?_
   focus omega
   clear F a; intro a F;refine sAs F rfl rfl rfl ?_;clear F a;intro a F;refine sNil ?_
   have hxy : x = y := by first | exact h25 | simpa using h25
   exact ⟨_, by omega, _, ⟨i + 1, rfl, rfl, by omega, fun j hj => by rcases Nat.lt_succ_iff_lt_or_eq.1 hj with h | rfl; exact hsm j h; rw [hx, hy, hxy], H.sel [] rfl rfl⟩, F.to (by repeat (first | exact trivial | refine Le.cons rfl ?_))⟩
  replace h14 := of_decide_eq_false h14;refine wp_exit ?_;refine hK5 _ _ (cSR fun K12 hK12=>sAs F rfl rfl rfl (qNK hK12 ?_));clear hK5 hK12;clear F a;intro a F;refine wp_ret ?_;refine bRet results29 F rfl ?_
  first
  | exact ⟨⟨_, rfl, by simp only [Bool.false_eq_true, false_iff]; intro e; exact hne (by rw [e])⟩, H.below⟩
  | exact ⟨⟨_, rfl, by
      simp only [Bool.false_eq_true, false_iff]; intro e
      subst e
      obtain rfl : x = y := Option.some.inj (hx.symm.trans hy)
      first | exact absurd rfl h25 | simp at h25⟩, H.below⟩
  | exact ⟨⟨_, rfl, by
      simp only [true_iff]
      refine List.ext_getElem? fun j => ?_
      by_cases hj : j < i
      · exact hsm j hj
      · rw [List.getElem?_eq_none (by omega), List.getElem?_eq_none (by omega)]⟩, H.below⟩
set_option maxHeartbeats 2000000 in
theorem sameInses2 (A B : Option Addr) (CA CB : Nat) (l k : List Ins) (w0 : World) (hA : RowsAt w0 A 10 (l.map Ins.cells)) (hB : RowsAt w0 B 10 (k.map Ins.cells)) (hl : l.length ≤ 9223372036854775807) (hk : k.length ≤ 9223372036854775807) :
    Calls Tryz.prog 60 #[.slice A l.length CA, .slice B k.length CB] w0 fun e w' => (∃ b : Bool, e = .returned (.bool b) ∧ (b = true ↔ l = k)) ∧ Below w0.heap.size w0 w' := by
  have H := Own.start w0 none
  refine enterF func60 rfl ntmps60 rfl (fun a F => ?_);refine cSR fun K1 hK1=>sAs F rfl rfl rfl (qNK hK1 ?_);clear hK1;clear F a;intro a F;refine cSeq (fun K2 hK2 => ?_);refine cSR fun K3 hK3=>sMv F rfl rfl rfl (qLen underlying52 rfl rfl rfl (qMv rfl rfl rfl (qLen underlying52 rfl rfl rfl (qBin rfl rfl rfl rfl bNeq (qNK hK3 ?_)))));clear hK3;clear F a;intro a F
  refine cIf F rfl (fun h10 => ?_) (fun h10 => ?_)
  ·
   replace h10 := bneT h10
   have hne : l.length ≠ k.length := by intro e; apply h10; rw [e]
   refine cSR fun K4 hK4=>sAs F rfl rfl rfl (qNK hK4 ?_);clear hK4;clear F a;intro a F;refine wp_ret ?_;simp only [Exit.then];refine bRet results60 F rfl ?_
   first
   | exact ⟨⟨_, rfl, by simp only [Bool.false_eq_true, false_iff]; intro e; exact hne (by rw [e])⟩, H.below⟩
   | exact ⟨⟨_, rfl, by
       simp only [Bool.false_eq_true, false_iff]; intro e
       subst e
       obtain rfl : x = y := Option.some.inj (hx.symm.trans hy)
       rw [ceqI] at h25; exact absurd h25 (by decide)⟩, H.below⟩
   | exact ⟨⟨_, rfl, by
       simp only [true_iff]
       refine List.ext_getElem? fun j => ?_
       by_cases hj : j < i
       · exact hsm j hj
       · rw [List.getElem?_eq_none (by omega), List.getElem?_eq_none (by omega)]⟩, H.below⟩
  replace h10 := bneF h10
  have hq : l.length = k.length := by omega
  refine wp_skip (hK2 _ _ ?_);clear hK2;refine cSeq (fun K5 hK5 => ?_);refine cSR fun K6 hK6=>sAs F rfl rfl rfl (qNK hK6 ?_);clear hK6;clear F a;intro a F;refine wp_block ?_
  refine cLoopR [0, 1] (fun m ups w => ∃ i : Nat, m = l.length - i ∧ ups = [(5, .int .i64 ((i : Nat) : Int))] ∧ i ≤ l.length ∧ (∀ j, j < i → l[j]? = k[j]?) ∧ Own w0 none w []) F (l.length) [(5, .int .i64 ((0 : Nat) : Int))] (by repeat (first | exact SubR.nil | (apply SubR.cons; · rfl))) ?_ ?_ ?_
  · exact ⟨0, rfl, rfl, by omega, fun j h => by omega, H.sel [] rfl rfl⟩
  · repeat (first | exact trivial | refine Le.cons rfl ?_)
  clear F
  clear H
  intro m ups a w hI F
  obtain ⟨i, rfl, rfl, hi, hsm, H⟩ := hI
  refine cSeq (fun K7 hK7 => ?_);refine cSR fun K8 hK8=>sMv F rfl rfl rfl (qMv rfl rfl rfl (qLen underlying52 rfl rfl rfl (qBin rfl rfl rfl rfl bLss (qNK hK8 ?_))));clear hK8;clear F a;intro a F
  refine cIf F rfl (fun h14 => ?_) (fun h14 => ?_)
  ·
   replace h14 := of_decide_eq_true h14
   obtain ⟨x, hx⟩ : ∃ x, l[i]? = some x := ⟨_, List.getElem?_eq_getElem (by omega)⟩
   obtain ⟨y, hy⟩ : ∃ y, k[i]? = some y := ⟨_, List.getElem?_eq_getElem (by omega)⟩
   obtain ⟨bA, oA, rfl, hAx⟩ := mapAt hA hx
   obtain ⟨bB, oB, rfl, hBx⟩ := mapAt hB hy
   refine wp_skip (hK7 _ _ ?_);clear hK7;refine cSeq (fun K9 hK9 => ?_);refine wp_block ?_;refine cSeq (fun K10 hK10 => ?_);refine cRegRO (by kernel_rfl) H ?_;replace H := H.drew;refine eTF 0 rfl (by kernel_rfl) F rfl rfl rfl (fun w=>rMv F rfl) H qq0 (qTF 1 rfl (by kernel_rfl) rfl rfl rfl (fun a F w=>rMv F rfl) H qq0 ?_);clear F a;intro a F
   refine eTakeF (k := 2) (i := 2) rfl (by kernel_rfl) F rfl rfl rfl (fun w => rIx underlying52 sizeOf44 F rfl rfl ?_) H (fun _ _ _ h => h) ?_
   focus (first | omega | decide | (simp; omega))
   clear F a; intro a F
   refine eTake (k := 3) (i := 3) rfl (by kernel_rfl) F rfl rfl rfl rfl (fun w H => rLr underlying44 rfl ?si F rfl (H.argR hAx)) H (fun _ _ _ h => h) ?_
   case si => exact info_size sizeOf44
   clear F a; intro a F;refine eTF 4 rfl (by kernel_rfl) F rfl rfl rfl (fun w=>rMv F rfl) H qq0 (qTF 5 rfl (by kernel_rfl) rfl rfl rfl (fun a F w=>rMv F rfl) H qq0 ?_);clear F a;intro a F
   refine eTakeF (k := 6) (i := 6) rfl (by kernel_rfl) F rfl rfl rfl (fun w => rIx underlying52 sizeOf44 F rfl rfl ?_) H (fun _ _ _ h => h) ?_
   focus (first | omega | decide | (simp; omega))
   clear F a; intro a F
   refine eTake (k := 7) (i := 7) rfl (by kernel_rfl) F rfl rfl rfl rfl (fun w H => rLr underlying44 rfl ?si F rfl (H.argR hBx)) H (fun _ _ _ h => h) ?_
   case si => exact info_size sizeOf44
   clear F a; intro a F;refine eTF 8 rfl (by kernel_rfl) F rfl rfl rfl (fun w=>rBin F rfl rfl bNeI2) H qq0 ?_;clear F a;intro a F;refine eNil (k := 9) (by kernel_rfl) ?_;refine hK10 _ _ ?_;clear hK10
   refine cIf F rfl (fun h25 => ?_) (fun h25 => ?_)
   ·
    refine cSR fun K11 hK11=>sAs F rfl rfl rfl (qNK hK11 ?_);clear hK11;clear F a;intro a F;refine wp_ret ?_;simp only [Exit.inBlock, Exit.then];refine bRet results60 F rfl ?_
    first
    | exact ⟨⟨_, rfl, by simp only [Bool.false_eq_true, false_iff]; intro e; exact hne (by rw [e])⟩, H.below⟩
    | exact ⟨⟨_, rfl, by
        simp only [Bool.false_eq_true, false_iff]; intro e
        subst e
        obtain rfl : x = y := Option.some.inj (hx.symm.trans hy)
        rw [ceqI] at h25; exact absurd h25 (by decide)⟩, H.below⟩
    | exact ⟨⟨_, rfl, by
        simp only [true_iff]
        refine List.ext_getElem? fun j => ?_
        by_cases hj : j < i
        · exact hsm j hj
        · rw [List.getElem?_eq_none (by omega), List.getElem?_eq_none (by omega)]⟩, H.below⟩
   refine wp_skip (hK9 _ _ (cReg (sMv F rfl rfl rfl ?_)));clear hK9;clear F a;intro a F
   refine sBin F rfl rfl rfl rfl (bAddN (j := 1) ?_) ?_
   focus omega
   clear F a; intro a F;refine sAs F rfl rfl rfl ?_;clear F a;intro a F;refine sNil ?_
   have hxy : x = y := ceq_ins (by simpa using h25)
   exact ⟨_, by omega, _, ⟨i + 1, rfl, rfl, by omega, fun j hj => by rcases Nat.lt_succ_iff_lt_or_eq.1 hj with h | rfl; exact hsm j h; rw [hx, hy, hxy], H.sel [] rfl rfl⟩, F.to (by repeat (first | exact trivial | refine Le.cons rfl ?_))⟩
  replace h14 := of_decide_eq_false h14;refine wp_exit ?_;refine hK5 _ _ (cSR fun K12 hK12=>sAs F rfl rfl rfl (qNK hK12 ?_));clear hK5 hK12;clear F a;intro a F;refine wp_ret ?_;refine bRet results60 F rfl ?_
  first
  | exact ⟨⟨_, rfl, by simp only [Bool.false_eq_true, false_iff]; intro e; exact hne (by rw [e])⟩, H.below⟩
  | exact ⟨⟨_, rfl, by
      simp only [Bool.false_eq_true, false_iff]; intro e
      subst e
      obtain rfl : x = y := Option.some.inj (hx.symm.trans hy)
      rw [ceqI] at h25; exact absurd h25 (by decide)⟩, H.below⟩
  | exact ⟨⟨_, rfl, by
      simp only [true_iff]
      refine List.ext_getElem? fun j => ?_
      by_cases hj : j < i
      · exact hsm j hj
      · rw [List.getElem?_eq_none (by omega), List.getElem?_eq_none (by omega)]⟩, H.below⟩
set_option maxHeartbeats 2000000 in
theorem sameThreads2 (A B : Option Addr) (CA CB : Nat) (l k : List (List Ins)) (w0 : World) (hA : ThreadsAt w0 A l) (hB : ThreadsAt w0 B k) (hl : l.length ≤ 9223372036854775807) (hk : k.length ≤ 9223372036854775807) :
    Calls Tryz.prog 30 #[.slice A l.length CA, .slice B k.length CB] w0 fun e w' => (∃ b : Bool, e = .returned (.bool b) ∧ (b = true ↔ l = k)) ∧ Below w0.heap.size w0 w' := by
  have H := Own.start w0 none
  refine enterF func30 rfl ntmps30 rfl (fun a F => ?_);refine cSR fun K1 hK1=>sAs F rfl rfl rfl (qNK hK1 ?_);clear hK1;clear F a;intro a F;refine cSeq (fun K2 hK2 => ?_);refine cSR fun K3 hK3=>sMv F rfl rfl rfl (qLen underlying24 rfl rfl rfl (qMv rfl rfl rfl (qLen underlying24 rfl rfl rfl (qBin rfl rfl rfl rfl bNeq (qNK hK3 ?_)))));clear hK3;clear F a;intro a F
  refine cIf F rfl (fun h10 => ?_) (fun h10 => ?_)
  ·
   replace h10 := bneT h10
   have hne : l.length ≠ k.length := by intro e; apply h10; rw [e]
   refine cSR fun K4 hK4=>sAs F rfl rfl rfl (qNK hK4 ?_);clear hK4;clear F a;intro a F;refine wp_ret ?_;simp only [Exit.then];refine bRet results30 F rfl ?_
   first
   | exact ⟨⟨_, rfl, by simp only [Bool.false_eq_true, false_iff]; intro e; exact hne (by rw [e])⟩, H.below⟩
   | exact ⟨⟨_, rfl, by
       simp only [Bool.false_eq_true, false_iff]; intro e
       subst e
       obtain rfl : x = y := Option.some.inj (hx.symm.trans hy)
       (have hf : sb = false := by first | exact h26 | simpa using h26); rw [hsb.2 rfl] at hf; cases hf⟩, H.below⟩
   | exact ⟨⟨_, rfl, by
       simp only [true_iff]
       refine List.ext_getElem? fun j => ?_
       by_cases hj : j < i
       · exact hsm j hj
       · rw [List.getElem?_eq_none (by omega), List.getElem?_eq_none (by omega)]⟩, H.below⟩
  replace h10 := bneF h10
  have hq : l.length = k.length := by omega
  refine wp_skip (hK2 _ _ ?_);clear hK2;refine cSeq (fun K5 hK5 => ?_);refine cSR fun K6 hK6=>sAs F rfl rfl rfl (qNK hK6 ?_);clear hK6;clear F a;intro a F;refine wp_block ?_
  refine cLoopR [0, 1] (fun m ups w => ∃ i : Nat, m = l.length - i ∧ ups = [(5, .int .i64 ((i : Nat) : Int))] ∧ i ≤ l.length ∧ (∀ j, j < i → l[j]? = k[j]?) ∧ Own w0 none w []) F (l.length) [(5, .int .i64 ((0 : Nat) : Int))] (by repeat (first | exact SubR.nil | (apply SubR.cons; · rfl))) ?_ ?_ ?_
  · exact ⟨0, rfl, rfl, by omega, fun j h => by omega, H.sel [] rfl rfl⟩
  · repeat (first | exact trivial | refine Le.cons rfl ?_)
  clear F
  clear H
  intro m ups a w hI F
  obtain ⟨i, rfl, rfl, hi, hsm, H⟩ := hI
  refine cSeq (fun K7 hK7 => ?_);refine cSR fun K8 hK8=>sMv F rfl rfl rfl (qMv rfl rfl rfl (qLen underlying24 rfl rfl rfl (qBin rfl rfl rfl rfl bLss (qNK hK8 ?_))));clear hK8;clear F a;intro a F
  refine cIf F rfl (fun h14 => ?_) (fun h14 => ?_)
  ·
   replace h14 := of_decide_eq_true h14
   obtain ⟨x, hx⟩ : ∃ x, l[i]? = some x := ⟨_, List.getElem?_eq_getElem (by omega)⟩
   obtain ⟨y, hy⟩ : ∃ y, k[i]? = some y := ⟨_, List.getElem?_eq_getElem (by omega)⟩
   obtain ⟨bA, oA, XA, XCA, rfl, hAx, hRA, hxl⟩ := hA i x hx
   obtain ⟨bB, oB, XB, XCB, rfl, hBx, hRB, hyl⟩ := hB i y hy
   refine wp_skip (hK7 _ _ ?_);clear hK7;refine cSeq (fun K9 hK9 => ?_);refine wp_block ?_;refine cSeq (fun K10 hK10 => ?_);refine cRegRO (by kernel_rfl) H ?_;replace H := H.drew;refine eTF 0 rfl (by kernel_rfl) F rfl rfl rfl (fun w=>rMv F rfl) H qq0 (qTF 1 rfl (by kernel_rfl) rfl rfl rfl (fun a F w=>rMv F rfl) H qq0 ?_);clear F a;intro a F
   refine eTakeF (k := 2) (i := 2) rfl (by kernel_rfl) F rfl rfl rfl (fun w => rIx underlying24 sizeOf52 F rfl rfl ?_) H (fun _ _ _ h => h) ?_
   focus (first | omega | decide | (simp; omega))
   clear F a; intro a F;refine eT 3 rfl (by kernel_rfl) F rfl rfl rfl rfl (fun w H=>rLd isAgg52 F rfl (H.arg hAx)) H qq0 (qTF 4 rfl (by kernel_rfl) rfl rfl rfl (fun a F w=>rMv F rfl) H qq0 (qTF 5 rfl (by kernel_rfl) rfl rfl rfl (fun a F w=>rMv F rfl) H qq0 ?_));clear F a;intro a F
   refine eTakeF (k := 6) (i := 6) rfl (by kernel_rfl) F rfl rfl rfl (fun w => rIx underlying24 sizeOf52 F rfl rfl ?_) H (fun _ _ _ h => h) ?_
   focus (first | omega | decide | (simp; omega))
   clear F a; intro a F;refine eT 7 rfl (by kernel_rfl) F rfl rfl rfl rfl (fun w H=>rLd isAgg52 F rfl (H.arg hBx)) H qq0 ?_;clear F a;intro a F;refine eOne (k := 8) (i := 8) rfl (by kernel_rfl) F rfl (oCall call60 F rfl rfl (sameInses2 XA XB XCA XCB x y _ (hRA.own H) (hRB.own H) hxl hyl) ?_);rintro e w ⟨⟨sb, rfl, hsb⟩, hb⟩;replace H := H.grow hb; clear hb;refine ⟨_, rfl, ?_⟩;clear F a; intro a F;refine ePartO (by kernel_rfl) H ?_;refine eTF 9 rfl (by kernel_rfl) F rfl rfl rfl (fun w=>rNot F rfl) H qq0 ?_;clear F a;intro a F;refine eNil (k := 10) (by kernel_rfl) ?_;refine hK10 _ _ ?_;clear hK10
   refine cIf F rfl (fun h26 => ?_) (fun h26 => ?_)
   ·
    replace h26 := notT h26;refine cSR fun K11 hK11=>sAs F rfl rfl rfl (qNK hK11 ?_);clear hK11;clear F a;intro a F;refine wp_ret ?_;simp only [Exit.inBlock, Exit.then];refine bRet results30 F rfl ?_
    first
    | exact ⟨⟨_, rfl, by simp only [Bool.false_eq_true, false_iff]; intro e; exact hne (by rw [e])⟩, H.below⟩
    | exact ⟨⟨_, rfl, by
        simp only [Bool.false_eq_true, false_iff]; intro e
        subst e
        obtain rfl : x = y := Option.some.inj (hx.symm.trans hy)
        (have hf : sb = false := by first | exact h26 | simpa using h26); rw [hsb.2 rfl] at hf; cases hf⟩, H.below⟩
    | exact ⟨⟨_, rfl, by
        simp only [true_iff]
        refine List.ext_getElem? fun j => ?_
        by_cases hj : j < i
        · exact hsm j hj
        · rw [List.getElem?_eq_none (by omega), List.getElem?_eq_none (by omega)]⟩, H.below⟩
   replace h26 := notF h26;refine wp_skip (hK9 _ _ (cReg (sMv F rfl rfl rfl ?_)));clear hK9;clear F a;intro a F
   refine sBin F rfl rfl rfl rfl (bAddN (j := 1) ?_) ?_
   focus omega
   clear F a; intro a F;refine sAs F rfl rfl rfl ?_;clear F a;intro a F;refine sNil ?_
   have hxy : x = y := hsb.1 (by first | exact h26 | simpa using h26)
   exact ⟨_, by omega, _, ⟨i + 1, rfl, rfl, by omega, fun j hj => by rcases Nat.lt_succ_iff_lt_or_eq.1 hj with h | rfl; exact hsm j h; rw [hx, hy, hxy], H.sel [] rfl rfl⟩, F.to (by repeat (first | exact trivial | refine Le.cons rfl ?_))⟩
  replace h14 := of_decide_eq_false h14;refine wp_exit ?_;refine hK5 _ _ (cSR fun K12 hK12=>sAs F rfl rfl rfl (qNK hK12 ?_));clear hK5 hK12;clear F a;intro a F;refine wp_ret ?_;refine bRet results30 F rfl ?_
  first
  | exact ⟨⟨_, rfl, by simp only [Bool.false_eq_true, false_iff]; intro e; exact hne (by rw [e])⟩, H.below⟩
  | exact ⟨⟨_, rfl, by
      simp only [Bool.false_eq_true, false_iff]; intro e
      subst e
      obtain rfl : x = y := Option.some.inj (hx.symm.trans hy)
      (have hf : sb = false := by first | exact h26 | simpa using h26); rw [hsb.2 rfl] at hf; cases hf⟩, H.below⟩
  | exact ⟨⟨_, rfl, by
      simp only [true_iff]
      refine List.ext_getElem? fun j => ?_
      by_cases hj : j < i
      · exact hsm j hj
      · rw [List.getElem?_eq_none (by omega), List.getElem?_eq_none (by omega)]⟩, H.below⟩
def SameC2 (h : Nat) : Prop := ∀ (h2 : Nat) (cs1 cs2 : List Value) (c d : Cnd) (w0 : World), CondAt w0 h cs1 c → CondAt w0 h2 cs2 d →
  Calls Tryz.prog 16 #[.agg cs1.toArray, .agg cs2.toArray] w0 fun e w' => (∃ b : Bool, e = .returned (.bool b) ∧ (b = true ↔ c = d)) ∧ Below w0.heap.size w0 w'
set_option maxHeartbeats 2000000 in
theorem sameConds2 (A B : Option Addr) (CA CB : Nat) (l k : List Cnd) (w0 : World) (h h2 : Nat) (ih : SameC2 h) (hA : ∀ j kid, l[j]? = some kid → ∃ b off cs', A = some ⟨b, off, none⟩ ∧ w0.rangeAt b (off + j * 5) cs' ∧ CondAt w0 h cs' kid) (hB : ∀ j kid, k[j]? = some kid → ∃ b off cs', B = some ⟨b, off, none⟩ ∧ w0.rangeAt b (off + j * 5) cs' ∧ CondAt w0 h2 cs' kid) (hl : l.length ≤ 9223372036854775807) (hk : k.length ≤ 9223372036854775807) :
    Calls Tryz.prog 36 #[.slice A l.length CA, .slice B k.length CB] w0 fun e w' => (∃ b : Bool, e = .returned (.bool b) ∧ (b = true ↔ l = k)) ∧ Below w0.heap.size w0 w' := by
  have H := Own.start w0 none
  refine enterF func36 rfl ntmps36 rfl (fun a F => ?_);refine cSR fun K1 hK1=>sAs F rfl rfl rfl (qNK hK1 ?_);clear hK1;clear F a;intro a F;refine cSeq (fun K2 hK2 => ?_);refine cSR fun K3 hK3=>sMv F rfl rfl rfl (qLen underlying25 rfl rfl rfl (qMv rfl rfl rfl (qLen underlying25 rfl rfl rfl (qBin rfl rfl rfl rfl bNeq (qNK hK3 ?_)))));clear hK3;clear F a;intro a F
  refine cIf F rfl (fun h10 => ?_) (fun h10 => ?_)
  ·
   replace h10 := bneT h10
   have hne : l.length ≠ k.length := by intro e; apply h10; rw [e]
   refine cSR fun K4 hK4=>sAs F rfl rfl rfl (qNK hK4 ?_);clear hK4;clear F a;intro a F;refine wp_ret ?_;simp only [Exit.then];refine bRet results36 F rfl ?_
   first
   | exact ⟨⟨_, rfl, by simp only [Bool.false_eq_true, false_iff]; intro e; exact hne (by rw [e])⟩, H.below⟩
   | exact ⟨⟨_, rfl, by
       simp only [Bool.false_eq_true, false_iff]; intro e
       subst e
       obtain rfl : x = y := Option.some.inj (hx.symm.trans hy)
       (have hf : sb = false := by first | exact h26 | simpa using h26); rw [hsb.2 rfl] at hf; cases hf⟩, H.below⟩
   | exact ⟨⟨_, rfl, by
       simp only [true_iff]
       refine List.ext_getElem? fun j => ?_
       by_cases hj : j < i
       · exact hsm j hj
       · rw [List.getElem?_eq_none (by omega), List.getElem?_eq_none (by omega)]⟩, H.below⟩
  replace h10 := bneF h10
  have hq : l.length = k.length := by omega
  refine wp_skip (hK2 _ _ ?_);clear hK2;refine cSeq (fun K5 hK5 => ?_);refine cSR fun K6 hK6=>sAs F rfl rfl rfl (qNK hK6 ?_);clear hK6;clear F a;intro a F;refine wp_block ?_
  refine cLoopR [0, 1] (fun m ups w => ∃ i : Nat, m = l.length - i ∧ ups = [(5, .int .i64 ((i : Nat) : Int))] ∧ i ≤ l.length ∧ (∀ j, j < i → l[j]? = k[j]?) ∧ Own w0 none w []) F (l.length) [(5, .int .i64 ((0 : Nat) : Int))] (by repeat (first | exact SubR.nil | (apply SubR.cons; · rfl))) ?_ ?_ ?_
  · exact ⟨0, rfl, rfl, by omega, fun j h => by omega, H.sel [] rfl rfl⟩
  · repeat (first | exact trivial | refine Le.cons rfl ?_)
  clear F
  clear H
  intro m ups a w hI F
  obtain ⟨i, rfl, rfl, hi, hsm, H⟩ := hI
  refine cSeq (fun K7 hK7 => ?_);refine cSR fun K8 hK8=>sMv F rfl rfl rfl (qMv rfl rfl rfl (qLen underlying25 rfl rfl rfl (qBin rfl rfl rfl rfl bLss (qNK hK8 ?_))));clear hK8;clear F a;intro a F
  refine cIf F rfl (fun h14 => ?_) (fun h14 => ?_)
  ·
   replace h14 := of_decide_eq_true h14
   obtain ⟨x, hx⟩ : ∃ x, l[i]? = some x := ⟨_, List.getElem?_eq_getElem (by omega)⟩
   obtain ⟨y, hy⟩ : ∃ y, k[i]? = some y := ⟨_, List.getElem?_eq_getElem (by omega)⟩
   obtain ⟨bA, oA, csA, rfl, hAx, hCA⟩ := hA i x hx
   obtain ⟨bB, oB, csB, rfl, hBx, hCB⟩ := hB i y hy
   obtain ⟨a1, a2, a3, a4, a5, a6, a7, rfl⟩ := condShape hCA
   obtain ⟨c1, c2, c3, c4, c5, c6, c7, rfl⟩ := condShape hCB
   refine wp_skip (hK7 _ _ ?_);clear hK7;refine cSeq (fun K9 hK9 => ?_);refine wp_block ?_;refine cSeq (fun K10 hK10 => ?_);refine cRegRO (by kernel_rfl) H ?_;replace H := H.drew;refine eTF 0 rfl (by kernel_rfl) F rfl rfl rfl (fun w=>rMv F rfl) H qq0 (qTF 1 rfl (by kernel_rfl) rfl rfl rfl (fun a F w=>rMv F rfl) H qq0 ?_);clear F a;intro a F
   refine eTakeF (k := 2) (i := 2) rfl (by kernel_rfl) F rfl rfl rfl (fun w => rIx underlying25 sizeOf27 F rfl rfl ?_) H (fun _ _ _ h => h) ?_
   focus (first | omega | decide | (simp; omega))
   clear F a; intro a F
   refine eTake (k := 3) (i := 3) rfl (by kernel_rfl) F rfl rfl rfl rfl (fun w H => rLr underlying27 rfl ?si F rfl (H.argR hAx)) H (fun _ _ _ h => h) ?_
   case si => exact info_size sizeOf27
   clear F a; intro a F;refine eTF 4 rfl (by kernel_rfl) F rfl rfl rfl (fun w=>rMv F rfl) H qq0 (qTF 5 rfl (by kernel_rfl) rfl rfl rfl (fun a F w=>rMv F rfl) H qq0 ?_);clear F a;intro a F
   refine eTakeF (k := 6) (i := 6) rfl (by kernel_rfl) F rfl rfl rfl (fun w => rIx underlying25 sizeOf27 F rfl rfl ?_) H (fun _ _ _ h => h) ?_
   focus (first | omega | decide | (simp; omega))
   clear F a; intro a F
   refine eTake (k := 7) (i := 7) rfl (by kernel_rfl) F rfl rfl rfl rfl (fun w H => rLr underlying27 rfl ?si F rfl (H.argR hBx)) H (fun _ _ _ h => h) ?_
   case si => exact info_size sizeOf27
   clear F a; intro a F;refine eOne (k := 8) (i := 8) rfl (by kernel_rfl) F rfl (oCall call16 F rfl rfl (ih h2 _ _ x y _ (CondAt.grown H.grown rfl _ _ _ hCA) (CondAt.grown H.grown rfl _ _ _ hCB)) ?_);rintro e w ⟨⟨sb, rfl, hsb⟩, hb⟩;replace H := H.grow hb; clear hb;refine ⟨_, rfl, ?_⟩;clear F a; intro a F;refine ePartO (by kernel_rfl) H ?_;refine eTF 9 rfl (by kernel_rfl) F rfl rfl rfl (fun w=>rNot F rfl) H qq0 ?_;clear F a;intro a F;refine eNil (k := 10) (by kernel_rfl) ?_;refine hK10 _ _ ?_;clear hK10
   refine cIf F rfl (fun h26 => ?_) (fun h26 => ?_)
   ·
    replace h26 := notT h26;refine cSR fun K11 hK11=>sAs F rfl rfl rfl (qNK hK11 ?_);clear hK11;clear F a;intro a F;refine wp_ret ?_;simp only [Exit.inBlock, Exit.then];refine bRet results36 F rfl ?_
    first
    | exact ⟨⟨_, rfl, by simp only [Bool.false_eq_true, false_iff]; intro e; exact hne (by rw [e])⟩, H.below⟩
    | exact ⟨⟨_, rfl, by
        simp only [Bool.false_eq_true, false_iff]; intro e
        subst e
        obtain rfl : x = y := Option.some.inj (hx.symm.trans hy)
        (have hf : sb = false := by first | exact h26 | simpa using h26); rw [hsb.2 rfl] at hf; cases hf⟩, H.below⟩
    | exact ⟨⟨_, rfl, by
        simp only [true_iff]
        refine List.ext_getElem? fun j => ?_
        by_cases hj : j < i
        · exact hsm j hj
        · rw [List.getElem?_eq_none (by omega), List.getElem?_eq_none (by omega)]⟩, H.below⟩
   replace h26 := notF h26;refine wp_skip (hK9 _ _ (cReg (sMv F rfl rfl rfl ?_)));clear hK9;clear F a;intro a F
   refine sBin F rfl rfl rfl rfl (bAddN (j := 1) ?_) ?_
   focus omega
   clear F a; intro a F;refine sAs F rfl rfl rfl ?_;clear F a;intro a F;refine sNil ?_
   have hxy : x = y := hsb.1 (by first | exact h26 | simpa using h26)
   exact ⟨_, by omega, _, ⟨i + 1, rfl, rfl, by omega, fun j hj => by rcases Nat.lt_succ_iff_lt_or_eq.1 hj with h | rfl; exact hsm j h; rw [hx, hy, hxy], H.sel [] rfl rfl⟩, F.to (by repeat (first | exact trivial | refine Le.cons rfl ?_))⟩
  replace h14 := of_decide_eq_false h14;refine wp_exit ?_;refine hK5 _ _ (cSR fun K12 hK12=>sAs F rfl rfl rfl (qNK hK12 ?_));clear hK5 hK12;clear F a;intro a F;refine wp_ret ?_;refine bRet results36 F rfl ?_
  first
  | exact ⟨⟨_, rfl, by simp only [Bool.false_eq_true, false_iff]; intro e; exact hne (by rw [e])⟩, H.below⟩
  | exact ⟨⟨_, rfl, by
      simp only [Bool.false_eq_true, false_iff]; intro e
      subst e
      obtain rfl : x = y := Option.some.inj (hx.symm.trans hy)
      (have hf : sb = false := by first | exact h26 | simpa using h26); rw [hsb.2 rfl] at hf; cases hf⟩, H.below⟩
  | exact ⟨⟨_, rfl, by
      simp only [true_iff]
      refine List.ext_getElem? fun j => ?_
      by_cases hj : j < i
      · exact hsm j hj
      · rw [List.getElem?_eq_none (by omega), List.getElem?_eq_none (by omega)]⟩, H.below⟩
set_option maxHeartbeats 4000000 in
theorem sameCond2 (h : Nat) : SameC2 h := by
  induction h with
  | zero => exact fun _ _ _ _ _ _ h => h.elim
  | succ h ih =>
    intro h2 cs1 cs2 c d w0 hc1 hc2
    obtain ⟨k, t, n, v, kids⟩ := c
    obtain ⟨k', t', n', v', kids'⟩ := d
    obtain ⟨A, CA, rfl, hkl, hA⟩ := hc1
    obtain ⟨q2, rfl⟩ : ∃ q, h2 = q + 1 := by
      cases h2 with
      | zero => exact hc2.elim
      | succ q => exact ⟨q, rfl⟩
    obtain ⟨B, CB, rfl, hkl', hB⟩ := hc2
    have H := Own.start w0 none
    refine enterF func16 rfl ntmps16 rfl (fun a F => ?_);refine cSR fun K1 hK1=>?_;refine sBx H F rfl rfl rfl ?_;clear F a H; intro b2 a w F H;refine sBx H F rfl rfl rfl ?_;clear F a H; intro b3 a w F H;refine sAs F rfl rfl rfl (qNK hK1 (qSR fun K2 hK2=>qFa (f := 0) (k := 0) underlying27 rfl sizeOf5 rfl rfl rfl rfl rfl (qLd isAgg5 rfl rfl rfl (H.cell 1 rfl rfl) (qFa (f := 0) (k := 0) underlying27 rfl sizeOf5 rfl rfl rfl rfl rfl (qLd isAgg5 rfl rfl rfl (H.cell 0 rfl rfl) (qBin rfl rfl rfl rfl bEqlB (qMv rfl rfl rfl ?_)))))));clear hK1;clear F a;intro a F
    refine F.split 10 rfl ?_ ?_ <;> (clear F; intro h10 F)
    ·
     replace h10 := beqT h10;refine sFa (f := 1) (k := 1) underlying27 rfl sizeOf5 rfl rfl F rfl rfl rfl (qLd isAgg5 rfl rfl rfl (H.cell 1 rfl rfl) (qFa (f := 1) (k := 1) underlying27 rfl sizeOf5 rfl rfl rfl rfl rfl (qLd isAgg5 rfl rfl rfl (H.cell 0 rfl rfl) (qBin rfl rfl rfl rfl bEqlB (qPk rfl rfl rfl rfl (qMv rfl rfl rfl ?_))))));clear F a;intro a F
     refine F.split 17 rfl ?_ ?_ <;> (clear F; intro h17 F)
     ·
      replace h17 := beqT h17;refine sFa (f := 2) (k := 2) underlying27 rfl sizeOf5 rfl rfl F rfl rfl rfl (qLd isAgg5 rfl rfl rfl (H.cell 1 rfl rfl) (qFa (f := 2) (k := 2) underlying27 rfl sizeOf5 rfl rfl rfl rfl rfl (qLd isAgg5 rfl rfl rfl (H.cell 0 rfl rfl) (qBin rfl rfl rfl rfl bEqlB (qPk rfl rfl rfl rfl (qMv rfl rfl rfl ?_))))));clear F a;intro a F
      refine F.split 24 rfl ?_ ?_ <;> (clear F; intro h24 F)
      ·
       replace h24 := beqT h24;refine sFa (f := 3) (k := 3) underlying27 rfl sizeOf5 rfl rfl F rfl rfl rfl (qLd isAgg5 rfl rfl rfl (H.cell 1 rfl rfl) (qFa (f := 3) (k := 3) underlying27 rfl sizeOf5 rfl rfl rfl rfl rfl (qLd isAgg5 rfl rfl rfl (H.cell 0 rfl rfl) (qBin rfl rfl rfl rfl bEqlB (qPk rfl rfl rfl rfl (qMv rfl rfl rfl ?_))))));clear F a;intro a F
       refine F.split 31 rfl ?_ ?_ <;> (clear F; intro h31 F)
       ·
        replace h31 := beqT h31;refine sFa (f := 4) (k := 4) underlying27 rfl sizeOf25 rfl rfl F rfl rfl rfl (qLd isAgg25 rfl rfl rfl (H.cell 1 rfl rfl) (qFa (f := 4) (k := 4) underlying27 rfl sizeOf25 rfl rfl rfl rfl rfl (qLd isAgg25 rfl rfl rfl (H.cell 0 rfl rfl) ?_)));clear F a;intro a F;refine sCall call36 F rfl rfl rfl (sameConds2 A B CA CB kids kids' _ h q2 ih (fun j kid hj => by obtain ⟨b, o, cs, h1, h2, h3⟩ := hA j kid hj; exact ⟨b, o, cs, h1, H.argR h2, CondAt.grown H.grown rfl _ _ _ h3⟩) (fun j kid hj => by obtain ⟨b, o, cs, h1, h2, h3⟩ := hB j kid hj; exact ⟨b, o, cs, h1, H.argR h2, CondAt.grown H.grown rfl _ _ _ h3⟩) hkl hkl') ?_;rintro e w ⟨⟨sb, rfl, hsb⟩, hb⟩;replace H := H.grow hb; clear hb;refine ⟨_, rfl, ?_⟩;clear F a; intro a F;refine sPk F rfl rfl rfl rfl (qAs rfl rfl rfl (qNK hK2 ?_));clear hK2;clear F a;intro a F;refine wp_ret ?_;refine bRet results16 F rfl ?_
        first
        | exact ⟨⟨_, rfl, by simp only [Bool.false_eq_true, false_iff]; intro e; cases e; simp_all; done⟩, H.below⟩
        | exact ⟨⟨_, rfl, by
            rw [hsb]
            constructor
            · intro e; simp_all; done
            · intro e; cases e; rfl⟩, H.below⟩
       replace h31 := beqF h31;refine sSk F rfl rfl (qSk rfl rfl (qSk rfl rfl (qSk rfl rfl (qSk rfl rfl (qPk rfl rfl rfl rfl (qAs rfl rfl rfl (qNK hK2 ?_)))))));clear hK2;clear F a;intro a F;refine wp_ret ?_;refine bRet results16 F rfl ?_
       first
       | exact ⟨⟨_, rfl, by simp only [Bool.false_eq_true, false_iff]; intro e; cases e; simp_all; done⟩, H.below⟩
       | exact ⟨⟨_, rfl, by
           rw [hsb]
           constructor
           · intro e; simp_all; done
           · intro e; cases e; rfl⟩, H.below⟩
      replace h24 := beqF h24;refine sSk F rfl rfl (qSk rfl rfl (qSk rfl rfl (qSk rfl rfl (qSk rfl rfl (qPk rfl rfl rfl rfl (qMv rfl rfl rfl (qSk rfl rfl (qSk rfl rfl (qSk rfl rfl (qSk rfl rfl (qSk rfl rfl (qPk rfl rfl rfl rfl (qAs rfl rfl rfl (qNK hK2 ?_))))))))))))));clear hK2;clear F a;intro a F;refine wp_ret ?_;refine bRet results16 F rfl ?_
      first
      | exact ⟨⟨_, rfl, by simp only [Bool.false_eq_true, false_iff]; intro e; cases e; simp_all; done⟩, H.below⟩
      | exact ⟨⟨_, rfl, by
          rw [hsb]
          constructor
          · intro e; simp_all; done
          · intro e; cases e; rfl⟩, H.below⟩
     replace h17 := beqF h17;refine sSk F rfl rfl (qSk rfl rfl (qSk rfl rfl (qSk rfl rfl (qSk rfl rfl (qPk rfl rfl rfl rfl (qMv rfl rfl rfl (qSk rfl rfl (qSk rfl rfl (qSk rfl rfl (qSk rfl rfl (qSk rfl rfl (qPk rfl rfl rfl rfl (qMv rfl rfl rfl (qSk rfl rfl (qSk rfl rfl (qSk rfl rfl (qSk rfl rfl (qSk rfl rfl (qPk rfl rfl rfl rfl (qAs rfl rfl rfl (qNK hK2 ?_)))))))))))))))))))));clear hK2;clear F a;intro a F;refine wp_ret ?_;refine bRet results16 F rfl ?_
     first
     | exact ⟨⟨_, rfl, by simp only [Bool.false_eq_true, false_iff]; intro e; cases e; simp_all; done⟩, H.below⟩
     | exact ⟨⟨_, rfl, by
         rw [hsb]
         constructor
         · intro e; simp_all; done
         · intro e; cases e; rfl⟩, H.below⟩
    replace h10 := beqF h10;refine sSk F rfl rfl (qSk rfl rfl (qSk rfl rfl (qSk rfl rfl (qSk rfl rfl (qPk rfl rfl rfl rfl (qMv rfl rfl rfl (qSk rfl rfl (qSk rfl rfl (qSk rfl rfl (qSk rfl rfl (qSk rfl rfl (qPk rfl rfl rfl rfl (qMv rfl rfl rfl (qSk rfl rfl (qSk rfl rfl (qSk rfl rfl (qSk rfl rfl (qSk rfl rfl (qPk rfl rfl rfl rfl (qMv rfl rfl rfl (qSk rfl rfl (qSk rfl rfl (qSk rfl rfl (qSk rfl rfl (qSk rfl rfl (qPk rfl rfl rfl rfl (qAs rfl rfl rfl (qNK hK2 ?_))))))))))))))))))))))))))));clear hK2;clear F a;intro a F;refine wp_ret ?_;refine bRet results16 F rfl ?_
    first
    | exact ⟨⟨_, rfl, by simp only [Bool.false_eq_true, false_iff]; intro e; cases e; simp_all; done⟩, H.below⟩
    | exact ⟨⟨_, rfl, by
        rw [hsb]
        constructor
        · intro e; simp_all; done
        · intro e; cases e; rfl⟩, H.below⟩
set_option maxHeartbeats 8000000 in
theorem sameProg2 (cs1 cs2 : List Value) (p q : Prg) (LA : Option Addr) (LC : Nat) (IA : Option Addr) (IC : Nat) (TA : Option Addr) (TC h : Nat) (ccs : List Value) (LA2 : Option Addr) (LC2 : Nat) (IA2 : Option Addr) (IC2 : Nat) (TA2 : Option Addr) (TC2 h2 : Nat) (ccs2 : List Value) (w0 : World)
    (hp : ProgIn w0 cs1 p LA LC IA IC TA TC h ccs) (hq : ProgIn w0 cs2 q LA2 LC2 IA2 IC2 TA2 TC2 h2 ccs2) :
    Calls Tryz.prog 12 #[.agg cs1.toArray, .agg cs2.toArray] w0 fun e w' => (∃ b : Bool, e = .returned (.bool b) ∧ (b = true ↔ p = q)) ∧ Below w0.heap.size w0 w' := by
  obtain ⟨a1, a2, a3, a4, a5, a6, a7, rfl⟩ := condShape hp.cond
  obtain ⟨c1, c2, c3, c4, c5, c6, c7, rfl⟩ := condShape hq.cond
  have hcs := hp.cs
  have hcs2 := hq.cs
  simp only [List.cons_append, List.nil_append] at hcs hcs2
  subst hcs hcs2
  have H := Own.start w0 none
  refine enterF func12 rfl ntmps12 rfl (fun a F => ?_);refine cSR fun K1 hK1=>?_;refine sBx H F rfl rfl rfl ?_;clear F a H; intro b2 a w F H;refine sBx H F rfl rfl rfl ?_;clear F a H; intro b3 a w F H;refine sAs F rfl rfl rfl (qNK hK1 (qSR fun K2 hK2=>qFa (f := 0) (k := 0) underlying29 rfl sizeOf9 rfl rfl rfl rfl rfl (qLd isAgg9 rfl rfl rfl (H.cell 1 rfl rfl) (qFa (f := 0) (k := 0) underlying29 rfl sizeOf9 rfl rfl rfl rfl rfl (qLd isAgg9 rfl rfl rfl (H.cell 0 rfl rfl) (qBin rfl rfl rfl rfl bStrEq (qMv rfl rfl rfl ?_)))))));clear hK1;clear F a;intro a F
  refine F.split 10 rfl ?_ ?_ <;> (clear F; intro h10 F)
  ·
   replace h10 := beqT h10;refine sFa (f := 4) (k := 4) underlying29 rfl sizeOf5 rfl rfl F rfl rfl rfl (qLd isAgg5 rfl rfl rfl (H.cell 1 rfl rfl) (qFa (f := 4) (k := 4) underlying29 rfl sizeOf5 rfl rfl rfl rfl rfl (qLd isAgg5 rfl rfl rfl (H.cell 0 rfl rfl) (qBin rfl rfl rfl rfl bEqlB (qPk rfl rfl rfl rfl (qMv rfl rfl rfl ?_))))));clear F a;intro a F
   refine F.split 17 rfl ?_ ?_ <;> (clear F; intro h17 F)
   ·
    replace h17 := beqT h17;refine sFa (f := 1) (k := 1) underlying29 rfl sizeOf22 rfl rfl F rfl rfl rfl (qLd isAgg22 rfl rfl rfl (H.cell 1 rfl rfl) (qFa (f := 1) (k := 1) underlying29 rfl sizeOf22 rfl rfl rfl rfl rfl (qLd isAgg22 rfl rfl rfl (H.cell 0 rfl rfl) ?_)));clear F a;intro a F;refine sCall call28 F rfl rfl rfl (sameTexts2 LA LA2 LC LC2 p.locs q.locs _ (hp.locs.own H) (hq.locs.own H) hp.locsN hq.locsN) ?_;rintro e w ⟨⟨s22, rfl, h22⟩, hb⟩;replace H := H.grow hb; clear hb;refine ⟨_, rfl, ?_⟩;clear F a; intro a F;refine sPk F rfl rfl rfl rfl (qMv rfl rfl rfl ?_);clear F a;intro a F
    refine F.split 24 rfl ?_ ?_ <;> (clear F; intro h24 F)
    ·
     refine sFa (f := 2) (k := 2) underlying29 rfl sizeOf23 rfl rfl F rfl rfl rfl (qLd isAgg23 rfl rfl rfl (H.cell 1 rfl rfl) (qFa (f := 2) (k := 2) underlying29 rfl sizeOf23 rfl rfl rfl rfl rfl (qLd isAgg23 rfl rfl rfl (H.cell 0 rfl rfl) ?_)));clear F a;intro a F;refine sCall call29 F rfl rfl rfl (sameBytes2 IA IA2 IC IC2 p.init q.init _ (hp.init.own H) (hq.init.own H) hp.initN hq.initN) ?_;rintro e w ⟨⟨s29, rfl, h29⟩, hb⟩;replace H := H.grow hb; clear hb;refine ⟨_, rfl, ?_⟩;clear F a; intro a F;refine sPk F rfl rfl rfl rfl (qMv rfl rfl rfl ?_);clear F a;intro a F
     refine F.split 31 rfl ?_ ?_ <;> (clear F; intro h31 F)
     ·
      refine sFa (f := 3) (k := 3) underlying29 rfl sizeOf24 rfl rfl F rfl rfl rfl (qLd isAgg24 rfl rfl rfl (H.cell 1 rfl rfl) (qFa (f := 3) (k := 3) underlying29 rfl sizeOf24 rfl rfl rfl rfl rfl (qLd isAgg24 rfl rfl rfl (H.cell 0 rfl rfl) ?_)));clear F a;intro a F;refine sCall call30 F rfl rfl rfl (sameThreads2 TA TA2 TC TC2 p.threads q.threads _ (hp.threads.own H) (hq.threads.own H) hp.threadsN hq.threadsN) ?_;rintro e w ⟨⟨s36, rfl, h36⟩, hb⟩;replace H := H.grow hb; clear hb;refine ⟨_, rfl, ?_⟩;clear F a; intro a F;refine sPk F rfl rfl rfl rfl (qMv rfl rfl rfl ?_);clear F a;intro a F
      refine F.split 38 rfl ?_ ?_ <;> (clear F; intro h38 F)
      ·
       refine sFa (f := 5) (k := 5) underlying29 rfl sizeOf27 rfl rfl F rfl rfl rfl ?_;clear F a;intro a F
       refine sLr underlying27 rfl ?si F rfl rfl rfl (H.range 1 rfl _ 5) ?_
       case si => exact info_size sizeOf27
       clear F a; intro a F;refine sFa (f := 5) (k := 5) underlying29 rfl sizeOf27 rfl rfl F rfl rfl rfl ?_;clear F a;intro a F
       refine sLr underlying27 rfl ?si F rfl rfl rfl (H.range 0 rfl _ 5) ?_
       case si => exact info_size sizeOf27
       clear F a; intro a F;refine sCall call16 F rfl rfl rfl (sameCond2 h h2 _ _ p.cond q.cond _ (CondAt.grown H.grown rfl _ _ _ hp.cond) (CondAt.grown H.grown rfl _ _ _ hq.cond)) ?_;rintro e w ⟨⟨s43, rfl, h43⟩, hb⟩;replace H := H.grow hb; clear hb;refine ⟨_, rfl, ?_⟩;clear F a; intro a F;refine sPk F rfl rfl rfl rfl (qAs rfl rfl rfl (qNK hK2 ?_));clear hK2;clear F a;intro a F;refine wp_ret ?_;refine bRet results12 F rfl ?_
       refine ⟨⟨_, rfl, ?_⟩, H.below⟩
       rw [prg_ext]
       first
       | (simp only [Bool.false_eq_true, false_iff]; rintro ⟨e1, e2, e3, e4, e5, e6⟩; simp_all; done)
       | (have hn : p.name = q.name := eq_of_toList (by simp_all)
          simp_all; done)
      refine sSk F rfl rfl (qSk rfl rfl (qSk rfl rfl (qSk rfl rfl (qSk rfl rfl (qPk rfl rfl rfl rfl (qAs rfl rfl rfl (qNK hK2 ?_)))))));clear hK2;clear F a;intro a F;refine wp_ret ?_;refine bRet results12 F rfl ?_
      refine ⟨⟨_, rfl, ?_⟩, H.below⟩
      rw [prg_ext]
      first
      | (simp only [Bool.false_eq_true, false_iff]; rintro ⟨e1, e2, e3, e4, e5, e6⟩; simp_all; done)
      | (have hn : p.name = q.name := eq_of_toList (by simp_all)
         simp_all; done)
     refine sSk F rfl rfl (qSk rfl rfl (qSk rfl rfl (qSk rfl rfl (qSk rfl rfl (qPk rfl rfl rfl rfl (qMv rfl rfl rfl (qSk rfl rfl (qSk rfl rfl (qSk rfl rfl (qSk rfl rfl (qSk rfl rfl (qPk rfl rfl rfl rfl (qAs rfl rfl rfl (qNK hK2 ?_))))))))))))));clear hK2;clear F a;intro a F;refine wp_ret ?_;refine bRet results12 F rfl ?_
     refine ⟨⟨_, rfl, ?_⟩, H.below⟩
     rw [prg_ext]
     first
     | (simp only [Bool.false_eq_true, false_iff]; rintro ⟨e1, e2, e3, e4, e5, e6⟩; simp_all; done)
     | (have hn : p.name = q.name := eq_of_toList (by simp_all)
        simp_all; done)
    refine sSk F rfl rfl (qSk rfl rfl (qSk rfl rfl (qSk rfl rfl (qSk rfl rfl (qPk rfl rfl rfl rfl (qMv rfl rfl rfl (qSk rfl rfl (qSk rfl rfl (qSk rfl rfl (qSk rfl rfl (qSk rfl rfl (qPk rfl rfl rfl rfl (qMv rfl rfl rfl (qSk rfl rfl (qSk rfl rfl (qSk rfl rfl (qSk rfl rfl (qSk rfl rfl (qPk rfl rfl rfl rfl (qAs rfl rfl rfl (qNK hK2 ?_)))))))))))))))))))));clear hK2;clear F a;intro a F;refine wp_ret ?_;refine bRet results12 F rfl ?_
    refine ⟨⟨_, rfl, ?_⟩, H.below⟩
    rw [prg_ext]
    first
    | (simp only [Bool.false_eq_true, false_iff]; rintro ⟨e1, e2, e3, e4, e5, e6⟩; simp_all; done)
    | (have hn : p.name = q.name := eq_of_toList (by simp_all)
       simp_all; done)
   replace h17 := beqF h17;refine sSk F rfl rfl (qSk rfl rfl (qSk rfl rfl (qSk rfl rfl (qSk rfl rfl (qPk rfl rfl rfl rfl (qMv rfl rfl rfl (qSk rfl rfl (qSk rfl rfl (qSk rfl rfl (qSk rfl rfl (qSk rfl rfl (qPk rfl rfl rfl rfl (qMv rfl rfl rfl (qSk rfl rfl (qSk rfl rfl (qSk rfl rfl (qSk rfl rfl (qSk rfl rfl (qPk rfl rfl rfl rfl (qMv rfl rfl rfl (qSk rfl rfl (qSk rfl rfl (qSk rfl rfl (qSk rfl rfl (qSk rfl rfl (qPk rfl rfl rfl rfl (qAs rfl rfl rfl (qNK hK2 ?_))))))))))))))))))))))))))));clear hK2;clear F a;intro a F;refine wp_ret ?_;refine bRet results12 F rfl ?_
   refine ⟨⟨_, rfl, ?_⟩, H.below⟩
   rw [prg_ext]
   first
   | (simp only [Bool.false_eq_true, false_iff]; rintro ⟨e1, e2, e3, e4, e5, e6⟩; simp_all; done)
   | (have hn : p.name = q.name := eq_of_toList (by simp_all)
      simp_all; done)
  replace h10 := beqF h10;refine sSk F rfl rfl (qSk rfl rfl (qSk rfl rfl (qSk rfl rfl (qSk rfl rfl (qPk rfl rfl rfl rfl (qMv rfl rfl rfl (qSk rfl rfl (qSk rfl rfl (qSk rfl rfl (qSk rfl rfl (qSk rfl rfl (qPk rfl rfl rfl rfl (qMv rfl rfl rfl (qSk rfl rfl (qSk rfl rfl (qSk rfl rfl (qSk rfl rfl (qSk rfl rfl (qPk rfl rfl rfl rfl (qMv rfl rfl rfl (qSk rfl rfl (qSk rfl rfl (qSk rfl rfl (qSk rfl rfl (qSk rfl rfl (qPk rfl rfl rfl rfl (qMv rfl rfl rfl (qSk rfl rfl (qSk rfl rfl (qSk rfl rfl (qSk rfl rfl (qSk rfl rfl (qPk rfl rfl rfl rfl (qAs rfl rfl rfl (qNK hK2 ?_)))))))))))))))))))))))))))))))))));clear hK2;clear F a;intro a F;refine wp_ret ?_;refine bRet results12 F rfl ?_
  refine ⟨⟨_, rfl, ?_⟩, H.below⟩
  rw [prg_ext]
  first
  | (simp only [Bool.false_eq_true, false_iff]; rintro ⟨e1, e2, e3, e4, e5, e6⟩; simp_all; done)
  | (have hn : p.name = q.name := eq_of_toList (by simp_all)
     simp_all; done)
end Go.Proofs.YtkchaoajegkadaaGreatDoor
