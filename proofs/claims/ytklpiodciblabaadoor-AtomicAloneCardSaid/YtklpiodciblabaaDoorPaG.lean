/-
  WALK2. Package path: pairs. Conditions: the table lies in memory; the sets lie in a row.
-/
import Derived.Test.YtklpiodciblabaaDoorPaF
set_option linter.unusedSimpArgs false
set_option linter.unusedVariables false
namespace Go.Proofs.YtklpiodciblabaaDoor
open Go.RowKit
set_option maxRecDepth 100000
/-- The bits of a set, in increasing order. -/
def bitsF : Nat → Nat → List Nat
  | 0, _ => []
  | f + 1, n => if n = 0 then [] else tzN n :: bitsF f (n &&& (n - 1))
def bitsL (n : Nat) : List Nat := bitsF n n
theorem and_pred (n : Nat) : n &&& (n - 1) ≤ n - 1 := Nat.and_le_right
theorem bitsF_succ (f n : Nat) : bitsF (f + 1) n = if n = 0 then [] else tzN n :: bitsF f (n &&& (n - 1)) := rfl
theorem bitsF_more : ∀ (f n : Nat), n ≤ f → bitsF f n = bitsL n := by
  intro f
  induction f using Nat.strongRecOn with
  | _ f ih =>
    intro n h
    rcases Nat.eq_zero_or_pos n with h0 | h0
    · subst h0
      unfold bitsL
      cases f with
      | zero => rfl
      | succ f => rfl
    · obtain ⟨k, rfl⟩ : ∃ k, f = k + 1 := ⟨f - 1, by omega⟩
      obtain ⟨m, rfl⟩ : ∃ m, n = m + 1 := ⟨n - 1, by omega⟩
      have hp : (m + 1) &&& (m + 1 - 1) ≤ m := and_pred (m + 1)
      have e : bitsL (m + 1) = bitsF (m + 1) (m + 1) := rfl
      rw [e, bitsF_succ, bitsF_succ, if_neg (by omega), if_neg (by omega)]
      generalize (m + 1) &&& (m + 1 - 1) = q at hp ⊢
      rw [ih k (by omega) q (by omega)]
      rcases Nat.lt_or_ge m (k + 1) with h1 | h1
      · rw [ih m h1 q hp]
      · omega
theorem bits_zero : bitsL 0 = [] := rfl
theorem bits_pos {n : Nat} (h : 0 < n) : bitsL n = tzN n :: bitsL (n &&& (n - 1)) := by
  obtain ⟨m, rfl⟩ : ∃ m, n = m + 1 := ⟨n - 1, by omega⟩
  have hp : (m + 1) &&& (m + 1 - 1) ≤ m := and_pred (m + 1)
  have e : bitsL (m + 1) = bitsF (m + 1) (m + 1) := rfl
  rw [e, bitsF_succ, if_neg (by omega), bitsF_more m _ hp]
theorem bits_len : ∀ n, (bitsL n).length ≤ n := by
  intro n
  induction n using Nat.strongRecOn with
  | _ n ih =>
    rcases Nat.eq_zero_or_pos n with h0 | h0
    · subst h0; exact Nat.le_refl _
    · have h1 := and_pred n
      rw [bits_pos h0, List.length_cons]
      have := ih (n &&& (n - 1)) (by omega)
      omega
abbrev Pr := UInt8 × UInt8
def prC (q : Pr) : List Value := [b8 q.1, b8 q.2]
def pairOf (i k : Nat) : Pr := (UInt8.ofNat k, UInt8.ofNat i)
def rowP (i n : Nat) : List Pr := (bitsL n).map (pairOf i)
/-- The pairs of the first n sets. -/
def pairsP (f : Nat → Nat) : Nat → List Pr
  | 0 => []
  | n + 1 => pairsP f n ++ rowP n (f n)
theorem rowP_pos {i n : Nat} (h : 0 < n) : rowP i n = pairOf i (tzN n) :: rowP i (n &&& (n - 1)) := by
  unfold rowP
  rw [bits_pos h]
  rfl
theorem rowP_len (i n : Nat) : (rowP i n).length ≤ n := by unfold rowP; rw [List.length_map]; exact bits_len n
theorem pairsP_len {f : Nat → Nat} (hf : ∀ k, f k < 4294967296) : ∀ n, (pairsP f n).length ≤ 4294967296 * n
  | 0 => Nat.le_refl _
  | n + 1 => by
    have h1 := pairsP_len hf n
    have h2 := rowP_len n (f n)
    have h3 := hf n
    unfold pairsP
    rw [List.length_append]
    omega
theorem pairs_any (b o C n : Nat) (f : Nat → Nat) (w0 : World) (hT : TabAt w0) (hn : n ≤ 24) (hf : ∀ k, f k < 4294967296) (hS : ∀ k, k < n → w0.cell? ⟨b, o + k, none⟩ = some (u32 (f k))) :
    Calls Tryd.prog 44 #[.slice (some ⟨b, o, none⟩) n C] w0 fun e w' => ∃ A c, e = .returned (.slice A (pairsP f n).length c) ∧ Own w0 none w' [.rws 126 2 (.slice A (pairsP f n).length c) ((pairsP f n).map prC)] := by
  have H := Own.start w0 none
  have hlen := pairsP_len hf
  refine enterF Tryd.func44 rfl Tryd.ntmps44 rfl (fun a F => ?_)
  refine cSeq (fun K1 hK1 => ?_)
  refine cReg ?_
  refine sAs F rfl rfl rfl ?_;clear F a;intro a F
  refine sNil ?_
  refine hK1 _ _ ?_; clear hK1
  refine cSeq (fun K2 hK2 => ?_)
  refine cReg ?_
  refine sAs F rfl rfl rfl ?_;clear F a;intro a F
  replace H := H.nilRws 126 2
  refine sNil ?_
  refine hK2 _ _ ?_; clear hK2
  refine cSeq (fun K3 hK3 => ?_)
  refine cSeq (fun K4 hK4 => ?_)
  refine cReg ?_
  refine sMv F rfl rfl rfl ?_;clear F a;intro a F
  refine sLen Tryd.underlying111 F rfl rfl rfl ?_;clear F a;intro a F
  refine sMv F rfl rfl rfl ?_;clear F a;intro a F
  refine sNil ?_
  refine hK4 _ _ ?_; clear hK4
  refine wp_block ?_
  refine cLoopR [6, 7] (fun m ups w => ∃ (j : Nat) (A3 : Option Addr) (c3 : Nat), m = n - j ∧ ups = [(3, .slice A3 (pairsP f j).length c3), (8, .int .i64 ((j : Nat) : Int))] ∧ j ≤ n ∧ Own w0 none w [.rws 126 2 (.slice A3 (pairsP f j).length c3) ((pairsP f j).map prC)]) F (n) [(3, .slice none 0 0), (8, .int .i64 ((0 : Nat) : Int))] (by repeat (first | exact SubR.nil | (apply SubR.cons; · rfl))) ?_ ?_ ?_
  · exact ⟨0, none, 0, rfl, rfl, Nat.zero_le _, H⟩
  · repeat (first | exact trivial | refine Le.cons rfl ?_)
  clear F
  clear H
  intro m ups a w hI F
  obtain ⟨j, A3, c3, rfl, rfl, hj, H⟩ := hI
  refine cSeq (fun K5 hK5 => ?_)
  refine cReg ?_
  refine sBin F rfl rfl rfl rfl bLss ?_;clear F a;intro a F
  refine sNil ?_
  refine hK5 _ _ ?_; clear hK5
  refine cSeq (fun K6 hK6 => ?_)
  refine cIf F rfl (fun h9 => ?_) (fun h9 => ?_)
  ·
   replace h9 := of_decide_eq_true h9
   have hjn : j < n := by omega
   have hfj := hf j
   have hlj := hlen (j + 1)
   have hej : pairsP f (j + 1) = pairsP f j ++ rowP j (f j) := rfl
   refine wp_skip ?_
   refine hK6 _ _ ?_; clear hK6
   refine cSeq (fun K7 hK7 => ?_)
   refine wp_block ?_
   refine cSeq (fun K8 hK8 => ?_)
   refine cReg ?_
   refine sMv F rfl rfl rfl ?_;clear F a;intro a F
   refine sIx Tryd.underlying111 Tryd.sizeOf85 F rfl rfl rfl rfl ?_ ?_
   focus (first | omega | decide | (simp; omega))
   clear F a; intro a F
   refine sLd Tryd.isAgg85 F rfl rfl rfl (show _ = some (u32 (f j)) from H.arg (by rw [Nat.mul_one]; exact hS j hjn)) ?_;clear F a;intro a F
   refine sAs F rfl rfl rfl ?_;clear F a;intro a F
   refine sAs F rfl rfl rfl ?_;clear F a;intro a F
   refine sNil ?_
   refine hK8 _ _ ?_; clear hK8
   refine wp_block ?_
   refine cLoopR [4, 6, 7, 8] (fun m ups w => ∃ (s : Nat) (acc : List Pr) (rows : List (List Value)) (A3 : Option Addr) (c3 : Nat), s = m ∧ ups = [(3, .slice A3 rows.length c3), (5, .int .u32 ((s : Nat) : Int))] ∧ rows = acc.map prC ∧ s < 4294967296 ∧ acc ++ rowP j s = pairsP f (j + 1) ∧ Own w0 none w [.rws 126 2 (.slice A3 rows.length c3) rows]) F (f j) [(3, .slice A3 (pairsP f j).length c3), (5, .int .u32 ((f j : Nat) : Int))] (by repeat (first | exact SubR.nil | (apply SubR.cons; · rfl))) ?_ ?_ ?_
   · exact ⟨f j, pairsP f j, (pairsP f j).map prC, A3, c3, rfl, (by rw [List.length_map]), rfl, hfj, rfl, (by rw [List.length_map]; exact H)⟩
   · repeat (first | exact trivial | refine Le.cons rfl ?_)
   clear F
   clear H
   intro m ups a w hI F
   obtain ⟨s, acc, rows, A3, c3, rfl, rfl, hrows, hs, hacc, H⟩ := hI
   refine cSeq (fun K9 hK9 => ?_)
   refine cSeq (fun K10 hK10 => ?_)
   refine cReg ?_
   refine sMv F rfl rfl rfl ?_;clear F a;intro a F
   refine sBin F rfl rfl rfl rfl bNeq ?_;clear F a;intro a F
   refine sNil ?_
   refine hK10 _ _ ?_; clear hK10
   refine cIf F rfl (fun h14 => ?_) (fun h14 => ?_)
   ·
    replace h14 := bneT h14
    have hs0 : 0 < s := by omega
    have hrl : rows.length = acc.length := by rw [hrows, List.length_map]
    have hal : acc.length + (rowP j s).length = (pairsP f (j + 1)).length := by rw [← hacc, List.length_append]
    rw [rowP_pos hs0] at hacc hal
    rw [List.length_cons] at hal
    refine wp_skip ?_
    refine hK9 _ _ ?_; clear hK9
    refine cSeq (fun K11 hK11 => ?_)
    refine wp_block ?_
    refine cReg ?_
    refine sMv F rfl rfl rfl ?_;clear F a;intro a F
    refine sMv F rfl rfl rfl ?_;clear F a;intro a F
    refine sCall Tryd.call63 F rfl rfl rfl (tz_any s _ hs hs0 (hT.own H)) ?_
    rintro e w ⟨rfl, hb⟩
    replace H := H.grow hb; clear hb
    refine ⟨_, rfl, ?_⟩
    clear F a; intro a F
    refine sCv Tryd.underlying3 Tryd.underlying5 F rfl rfl rfl (wrap8 _) ?_;clear F a;intro a F
    refine sMv F rfl rfl rfl ?_;clear F a;intro a F
    refine sCv Tryd.underlying3 Tryd.underlying5 F rfl rfl rfl (wrap8 _) ?_;clear F a;intro a F
    refine sBaB zB126 Tryd.underlying126 Tryd.sizeOf5 F rfl rfl rfl (FillB.one rfl rfl (FillB.one rfl rfl FillB.nil)) ?_;clear F a;intro a F
    refine sBsA H Tryd.underlying43 Tryd.sizeOf126 Tryd.zeroValue126 rfl F rfl rfl rfl rfl rfl ?_
    clear F a H; intro b26 a w F H
    refine sApp1 (bytes := 2) H 1 Tryd.underlying43 Tryd.typeInfo126 rfl rfl rfl rfl rfl rfl F rfl rfl rfl rfl rfl (H.whole 0 rfl) rfl ?s1 ?s2 ?_
    case s1 => first | rfl | (repeat (first | exact one_nil | (apply one_cons; · first | rfl | assumption | exact one_bif rfl rfl)))
    case s2 => omega
    clear F a H; intro A27 c27 a w F H
    refine sAs F rfl rfl rfl ?_;clear F a;intro a F
    refine sNil ?_
    refine hK11 _ _ ?_; clear hK11
    refine cReg ?_
    refine sMv F rfl rfl rfl ?_;clear F a;intro a F
    refine sMv F rfl rfl rfl ?_;clear F a;intro a F
    refine sBin F rfl rfl rfl rfl (bSub32 (n := s) (m := 1) hs0 hs) ?_;clear F a;intro a F
    refine sBin F rfl rfl rfl rfl (bAnd32 (n := s) (m := s - 1) hs (by omega)) ?_;clear F a;intro a F
    refine sAs F rfl rfl rfl ?_;clear F a;intro a F
    refine sNil ?_
    (refine ⟨_, ?_, _, ⟨s &&& (s - 1), acc ++ [pairOf j (tzN s)], _, A27, c27, rfl, rfl, ?_, ?_, ?_, H.tail⟩, F.to (by repeat (first | exact trivial | refine Le.cons rfl ?_))⟩
     · have := and_pred s; omega
     · rw [List.map_append, ← hrows]; rfl
     · have := and_pred s; omega
     · rw [List.append_assoc]; exact hacc)
   replace h14 := bneF h14
   have hs0 : s = 0 := by omega
   rw [hs0] at hacc
   have hacc' : acc = pairsP f (j + 1) := by rw [← hacc]; exact (List.append_nil _).symm
   rw [hrows, List.length_map, hacc'] at F H
   refine wp_exit ?_
   refine hK7 _ _ ?_; clear hK7
   refine cReg ?_
   refine sBin F rfl rfl rfl rfl (bAddN (j := 1) ?_) ?_
   focus omega
   clear F a; intro a F
   refine sMv F rfl rfl rfl ?_;clear F a;intro a F
   refine sNil ?_
   (refine ⟨_, ?_, _, ⟨j + 1, A3, c3, rfl, rfl, hjn, H⟩, F.to (by repeat (first | exact trivial | refine Le.cons rfl ?_))⟩
    · omega)
  replace h9 := of_decide_eq_false h9
  have hjn : j = n := by omega
  subst hjn
  refine wp_exit ?_
  refine hK3 _ _ ?_; clear hK3
  refine cSeq (fun K12 hK12 => ?_)
  refine cReg ?_
  refine sMv F rfl rfl rfl ?_;clear F a;intro a F
  refine sAs F rfl rfl rfl ?_;clear F a;intro a F
  refine sNil ?_
  refine hK12 _ _ ?_; clear hK12
  refine wp_ret ?_
  refine bRet Tryd.results44 F rfl ?_
  exact ⟨_, _, rfl, H⟩
end Go.Proofs.YtklpiodciblabaaDoor
