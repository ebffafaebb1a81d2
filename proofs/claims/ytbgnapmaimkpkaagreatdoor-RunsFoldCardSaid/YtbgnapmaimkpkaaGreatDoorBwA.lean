/-
  WALK2. The laws of chapter 14: Buffering, Passes, of, plays, awake. Conditions: slices lie in memory; block 0 holds the table of needs.
-/
import Derived.Test.YtbgnapmaimkpkaaGreatDoorBfG
set_option linter.unusedSimpArgs false
set_option linter.unusedVariables false
namespace Go.Proofs.YtbgnapmaimkpkaaGreatDoor
open Go.Proofs.Tryz
open Go.RowKit
set_option maxRecDepth 100000

theorem RowsAt.ofRange {w : World} {b sz : Nat} : ∀ {rows : List (List Value)} {o : Nat}, w.rangeAt b o rows.flatten → (∀ r ∈ rows, r.length = sz) → RowsAt w (some ⟨b, o, none⟩) sz rows := by
  intro rows o h hr j cs hj
  refine ⟨b, o, rfl, fun k v hk => ?_⟩
  have key : ∀ (rows : List (List Value)), (∀ r ∈ rows, r.length = sz) → ∀ j cs, rows[j]? = some cs → ∀ k v, cs[k]? = some v → rows.flatten[j * sz + k]? = some v := by
    intro rows hr
    induction rows with
    | nil => intro j cs hj; simp at hj
    | cons r0 rest ih =>
      intro j cs hj k v hk
      have h0 : r0.length = sz := hr r0 (by simp)
      cases j with
      | zero =>
        simp at hj; subst hj
        have : k < r0.length := (List.getElem?_eq_some_iff.1 hk).1
        rw [List.flatten_cons, List.getElem?_append_left (by omega)]; simpa using hk
      | succ j =>
        rw [List.flatten_cons, List.getElem?_append_right (by rw [h0, Nat.add_mul]; omega), h0]
        have e1 : (j + 1) * sz + k - sz = j * sz + k := by rw [Nat.add_mul]; omega
        rw [e1]
        exact ih (fun r hm => hr r (by simp [hm])) j cs (by simpa using hj) k v hk
  have := h (j * sz + k) v (key rows hr j cs hj k v hk)
  rwa [Nat.add_assoc]
def sbP : Prg where
  name := ⟨#[115, 98]⟩
  locs := [⟨#[120]⟩, ⟨#[121]⟩]
  init := [0, 0]
  threads := [[⟨2, 0, 0, false, 1, false, 0, 0, 0, 0⟩, ⟨1, 0, 1, false, 0, false, 0, 0, 0, 0⟩], [⟨2, 0, 1, false, 1, false, 0, 0, 0, 0⟩, ⟨1, 0, 0, false, 0, false, 0, 0, 0, 0⟩]]
  ask := 1
  cond := .mk 0 0 0 0 []
def sbCells (b1 b2 b3 : Nat) : List Value := [.string ⟨#[115, 98]⟩, .slice (some ⟨b1, 0, none⟩) 2 2, .slice (some ⟨b2, 0, none⟩) 2 2, .slice (some ⟨b3, 0, none⟩) 2 2, b8 1, b8 0, b8 0, b8 0, b8 0, .slice none 0 0]
def sbRes (b1 b2 b3 b4 b5 : Nat) : List Res := [.blk b3 [.slice (some ⟨b4, 0, none⟩) 2 2, .slice (some ⟨b5, 0, none⟩) 2 2] 33, .blk b5 ((sbP.threads.getD 1 []).map Ins.cells).flatten 37, .blk b4 ((sbP.threads.getD 0 []).map Ins.cells).flatten 37, .blk b2 [b8 0, b8 0] 5, .blk b1 [.string ⟨#[120]⟩, .string ⟨#[121]⟩] 9]
theorem buffering_any (w0 : World) :
    Calls Tryz.prog 37 #[] w0 fun e w' => ∃ b1 b2 b3 b4 b5, e = .returned (.agg (sbCells b1 b2 b3).toArray) ∧ Own w0 none w' (sbRes b1 b2 b3 b4 b5) := by
  have H := Own.start w0 none
  refine enterF func37 rfl ntmps37 rfl (fun a F => ?_);refine cSR fun K1 hK1=>?_;refine sAl H zeroValue29 F rfl rfl ?_;clear F a H; intro b0 a w F H;refine nK hK1 (cSR fun K2 hK2=>?_);clear hK1;refine sBs H underlying22 sizeOf9 zeroValue9 rfl F rfl rfl rfl rfl rfl ?_;clear F a H; intro b1 a w F H;refine sBs H underlying23 sizeOf5 zeroValue5 rfl F rfl rfl rfl rfl rfl ?_;clear F a H; intro b2 a w F H;refine sBd (places := [(0, 1), (1, 1)]) zeroValue35 underlying35 (by kernel_rfl) F rfl rfl rfl rfl (qBd (places := [(0, 1), (1, 1), (2, 1), (3, 2), (5, 2), (7, 1), (8, 1), (9, 1)]) zeroValue37 underlying37 (by kernel_rfl) rfl rfl rfl rfl (qBd (places := [(0, 1), (1, 1), (2, 1), (3, 2), (5, 2), (7, 1), (8, 1), (9, 1)]) zeroValue37 underlying37 (by kernel_rfl) rfl rfl rfl rfl ?_));clear F a;intro a F;refine sBs H underlying33 sizeOf37 zeroValue37 rfl F rfl rfl rfl rfl rfl ?_;clear F a H; intro b6 a w F H;refine sBd (places := [(0, 1), (1, 1)]) zeroValue35 underlying35 (by kernel_rfl) F rfl rfl rfl rfl (qBd (places := [(0, 1), (1, 1), (2, 1), (3, 2), (5, 2), (7, 1), (8, 1), (9, 1)]) zeroValue37 underlying37 (by kernel_rfl) rfl rfl rfl rfl (qBd (places := [(0, 1), (1, 1), (2, 1), (3, 2), (5, 2), (7, 1), (8, 1), (9, 1)]) zeroValue37 underlying37 (by kernel_rfl) rfl rfl rfl rfl ?_));clear F a;intro a F;refine sBs H underlying33 sizeOf37 zeroValue37 rfl F rfl rfl rfl rfl rfl ?_;clear F a H; intro b10 a w F H;refine sBs H underlying24 sizeOf33 zeroValue33 rfl F rfl rfl rfl rfl rfl ?_
  clear F a H; intro b11 a w F H;refine sBd (places := [(0, 1), (1, 1), (2, 1), (3, 1), (4, 1), (5, 5)]) zeroValue29 underlying29 (by kernel_rfl) F rfl rfl rfl rfl ?_;clear F a;intro a F
  refine sSr H 5 ?si F rfl rfl rfl ?s1 rfl rfl ?_
  case si => exact info_size sizeOf29
  case s1 => first | rfl | (repeat (first | exact one_nil | (apply one_cons; · first | rfl | assumption | exact one_bif rfl rfl)))
  clear H; intro w H;refine nK hK2 ?_;clear hK2;refine wp_ret ?_;refine bRetC results37 F rfl underlying29 rfl H 5 rfl sizeOf29 rfl ?_
  exact ⟨_, _, _, _, _, rfl, H.sel [0, 1, 2, 3, 4] rfl rfl⟩
theorem sb_prog {w0 w : World} {row : Option Nat} {b1 b2 b3 b4 b5 : Nat} (H : Own w0 row w (sbRes b1 b2 b3 b4 b5)) : ProgAt w (sbCells b1 b2 b3) sbP := by
  refine ⟨some ⟨b1, 0, none⟩, 2, some ⟨b2, 0, none⟩, 2, some ⟨b3, 0, none⟩, 2, 1, [b8 0, b8 0, b8 0, b8 0, .slice none 0 0], ?_⟩
  have h3 := H.blk 0 rfl
  have h5 := H.whole 1 rfl
  have h4 := H.whole 2 rfl
  have h2 := H.whole 3 rfl
  have h1 := H.whole 4 rfl
  have hone : ∀ (l : List Ins) (r : List Value), r ∈ l.map Ins.cells → r.length = 10 := fun l r hr => by
    obtain ⟨x, _, rfl⟩ := List.mem_map.1 hr; rfl
  refine ⟨rfl, by decide, RowsAt.ofRange (sz := 1) (rows := [[_], [_]]) h1 (by simp), by decide, by decide, ?_, RowsAt.ofRange (sz := 1) (rows := [[_], [_]]) h2 (by simp), by decide, ?_, by decide, none, 0, rfl, by decide, fun j kid hj => by simp at hj⟩
  · intro s hs
    have : s = ⟨#[120]⟩ ∨ s = ⟨#[121]⟩ := by simpa [sbP] using hs
    rcases this with rfl | rfl <;> decide
  · intro j t hj
    match j, hj with
    | 0, hj => cases hj; exact ⟨b3, 0, some ⟨b4, 0, none⟩, 2, rfl, h3.cell 0 rfl, RowsAt.ofRange h4 (hone _), by decide⟩
    | 1, hj => cases hj; exact ⟨b3, 0, some ⟨b5, 0, none⟩, 2, rfl, h3.cell 1 rfl, RowsAt.ofRange h5 (hone _), by decide⟩
    | n + 2, hj => simp [sbP] at hj
theorem notEq {a : Bool} (h : a = true) (h2 : a = false) {G : Prop} : G := by rw [h] at h2; cases h2
theorem eq_at2 {α : Type} {l q : List α} (hl : l.length = q.length) (h : ∀ i, i < l.length → l[i]? = q[i]?) : l = q := by
  refine List.ext_getElem? fun i => ?_
  rcases Nat.lt_or_ge i l.length with h1 | h1
  · exact h i h1
  · rw [List.getElem?_eq_none h1, List.getElem?_eq_none (by omega)]
theorem passes_any (A B : Option Addr) (CA CB : Nat) (l q : List Pss) (w0 : World) (hA : RowsAt w0 A 3 (l.map Pss.cells)) (hB : RowsAt w0 B 3 (q.map Pss.cells)) (hl : l.length ≤ 9223372036854775807) (hq : q.length ≤ 9223372036854775807) :
    Calls Tryz.prog 25 #[.slice A l.length CA, .slice B q.length CB] w0 fun e w' => e = .returned (.bool (decide (l = q))) ∧ Below w0.heap.size w0 w' := by
  have H := Own.start w0 none
  refine enterF func25 rfl ntmps25 rfl (fun a F => ?_);refine cSR fun K1 hK1=>sAs F rfl rfl rfl (qNK hK1 ?_);clear hK1;clear F a;intro a F;refine cSeq (fun K2 hK2 => ?_);refine cSR fun K3 hK3=>sMv F rfl rfl rfl (qLen underlying58 rfl rfl rfl (qMv rfl rfl rfl (qLen underlying58 rfl rfl rfl (qBin rfl rfl rfl rfl bNeq (qNK hK3 ?_)))));clear hK3;clear F a;intro a F
  refine cIf F rfl (fun h10 => ?_) (fun h10 => ?_)
  ·
   replace h10 := bneT h10;refine cSR fun K4 hK4=>sAs F rfl rfl rfl (qNK hK4 ?_);clear hK4;clear F a;intro a F;refine wp_ret ?_;simp only [Exit.then];refine bRet results25 F rfl ?_
   refine ⟨retB ?_, H.below⟩
   clear F H
   first
     | exact (decide_eq_false (fun e => by subst e; omega)).symm
     | exact (decide_eq_false (fun e => by subst e; rw [hx] at hy; cases hy; simp at h24)).symm
     | exact (decide_eq_true (eq_at2 (show l.length = q.length by omega) (fun i hi => ht i (by omega)))).symm
  replace h10 := bneF h10;refine wp_skip (hK2 _ _ ?_);clear hK2;refine cSeq (fun K5 hK5 => ?_);refine cSR fun K6 hK6=>sMv F rfl rfl rfl (qLen underlying58 rfl rfl rfl (qMv rfl rfl rfl (qNK hK6 ?_)));clear hK6;clear F a;intro a F;refine wp_block ?_
  refine cLoopR [0, 1, 12] (fun m ups w => ∃ j : Nat, m = l.length - j ∧ ups = [(13, .int .i64 ((j : Nat) : Int))] ∧ j ≤ l.length ∧ (∀ i, i < j → l[i]? = q[i]?) ∧ Own w0 none w []) F (l.length) [(13, .int .i64 ((0 : Nat) : Int))] (by repeat (first | exact SubR.nil | (apply SubR.cons; · rfl))) ?_ ?_ ?_
  · exact ⟨0, rfl, rfl, by omega, fun i hi => absurd hi (by omega), H.sel [] rfl rfl⟩
  · repeat (first | exact trivial | refine Le.cons rfl ?_)
  clear F
  clear H
  intro m ups a w hI F
  obtain ⟨j, rfl, rfl, hj, ht, H⟩ := hI
  refine cSR fun K7 hK7=>sBin F rfl rfl rfl rfl bLss (qNK hK7 ?_);clear hK7;clear F a;intro a F;refine cSeq (fun K8 hK8 => ?_)
  refine cIf F rfl (fun h14 => ?_) (fun h14 => ?_)
  ·
   replace h14 := of_decide_eq_true h14
   obtain ⟨x, hx⟩ : ∃ x, l[j]? = some x := ⟨_, List.getElem?_eq_getElem (by omega)⟩
   obtain ⟨y, hy⟩ : ∃ y, q[j]? = some y := ⟨_, List.getElem?_eq_getElem (by omega)⟩
   obtain ⟨bA, oA, rfl, hAx⟩ := hA j x.cells (by rw [List.getElem?_map, hx]; rfl)
   obtain ⟨bB, oB, rfl, hBy⟩ := hB j y.cells (by rw [List.getElem?_map, hy]; rfl)
   refine wp_skip (hK8 _ _ ?_);clear hK8;refine cSeq (fun K9 hK9 => ?_);refine wp_block ?_;refine cSR fun K10 hK10=>sMv F rfl rfl rfl (qAs rfl rfl rfl (qNK hK10 ?_));clear hK10;clear F a;intro a F;refine cSeq (fun K11 hK11 => ?_);refine cRegRO (by kernel_rfl) H ?_;replace H := H.drew;refine eTF 0 rfl (by kernel_rfl) F rfl rfl rfl (fun w=>rMv F rfl) (H.sel [] rfl rfl) qq0 (qTF 1 rfl (by kernel_rfl) rfl rfl rfl (fun a F w=>rMv F rfl) (H.sel [] rfl rfl) qq0 ?_);clear F a;intro a F
   refine eTakeF (k := 2) (i := 2) rfl (by kernel_rfl) F rfl rfl rfl (fun w => rIx underlying58 sizeOf86 F rfl rfl ?_) (H.sel [] rfl rfl) (fun _ _ _ h => h) ?_
   focus (first | omega | decide | (simp; omega))
   clear F a; intro a F
   refine eTake (k := 3) (i := 3) rfl (by kernel_rfl) F rfl rfl rfl rfl (fun w H => rLr underlying86 rfl ?si F rfl (H.argR hAx)) (H.sel [] rfl rfl) (fun _ _ _ h => h) ?_
   case si => exact info_size sizeOf86
   clear F a; intro a F;refine eTF 4 rfl (by kernel_rfl) F rfl rfl rfl (fun w=>rMv F rfl) (H.sel [] rfl rfl) qq0 (qTF 5 rfl (by kernel_rfl) rfl rfl rfl (fun a F w=>rMv F rfl) (H.sel [] rfl rfl) qq0 ?_);clear F a;intro a F
   refine eTakeF (k := 6) (i := 6) rfl (by kernel_rfl) F rfl rfl rfl (fun w => rIx underlying58 sizeOf86 F rfl rfl ?_) (H.sel [] rfl rfl) (fun _ _ _ h => h) ?_
   focus (first | omega | decide | (simp; omega))
   clear F a; intro a F
   refine eTake (k := 7) (i := 7) rfl (by kernel_rfl) F rfl rfl rfl rfl (fun w H => rLr underlying86 rfl ?si F rfl (H.argR hBy)) (H.sel [] rfl rfl) (fun _ _ _ h => h) ?_
   case si => exact info_size sizeOf86
   clear F a; intro a F;refine eTF 8 rfl (by kernel_rfl) F rfl rfl rfl (fun w=>rBin F rfl rfl (bNeX (x := x) (y := y))) (H.sel [] rfl rfl) qq0 ?_;clear F a;intro a F;refine eNil (k := 9) (by kernel_rfl) ?_;refine hK11 _ _ ?_;clear hK11
   refine cIf F rfl (fun h24 => ?_) (fun h24 => ?_)
   ·
    refine cSR fun K12 hK12=>sAs F rfl rfl rfl (qNK hK12 ?_);clear hK12;clear F a;intro a F;refine wp_ret ?_;simp only [Exit.inBlock, Exit.then];refine bRet results25 F rfl ?_
    refine ⟨retB ?_, H.below⟩
    clear F H
    first
      | exact (decide_eq_false (fun e => by subst e; omega)).symm
      | exact (decide_eq_false (fun e => by subst e; rw [hx] at hy; cases hy; simp at h24)).symm
      | exact (decide_eq_true (eq_at2 (show l.length = q.length by omega) (fun i hi => ht i (by omega)))).symm
   refine wp_skip (hK9 _ _ (cReg ?_));clear hK9
   refine sBin F rfl rfl rfl rfl (bAddN (j := 1) ?_) ?_
   focus omega
   clear F a; intro a F;refine sMv F rfl rfl rfl ?_;clear F a;intro a F;refine sNil ?_
   (have hxy : x = y := by simpa using h24
    have hs : ∀ i, i < j + 1 → l[i]? = q[i]? := fun i hi => by
     rcases Nat.lt_or_ge i j with h1 | h1
     · exact ht i h1
     · obtain rfl : i = j := by omega
       rw [hx, hy, hxy]
    exact ⟨_, by omega, _, ⟨j + 1, rfl, rfl, by omega, hs, H.sel [] rfl rfl⟩, F.to (by repeat (first | exact trivial | refine Le.cons rfl ?_))⟩)
  replace h14 := of_decide_eq_false h14;refine wp_exit ?_;refine hK5 _ _ (cSR fun K13 hK13=>sAs F rfl rfl rfl (qNK hK13 ?_));clear hK5 hK13;clear F a;intro a F;refine wp_ret ?_;refine bRet results25 F rfl ?_
  refine ⟨retB ?_, H.below⟩
  clear F H
  first
    | exact (decide_eq_false (fun e => by subst e; omega)).symm
    | exact (decide_eq_false (fun e => by subst e; rw [hx] at hy; cases hy; simp at h24)).symm
    | exact (decide_eq_true (eq_at2 (show l.length = q.length by omega) (fun i hi => ht i (by omega)))).symm
end Go.Proofs.YtbgnapmaimkpkaaGreatDoor
