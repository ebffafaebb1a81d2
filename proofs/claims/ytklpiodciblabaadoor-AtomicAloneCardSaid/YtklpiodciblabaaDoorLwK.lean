/-
  WALK2. The laws' own functions: Ints, Buffering. Conditions: the slices lie in memory.
 
  WALK2. The laws' own functions: plays, awake. Conditions: block 0 holds the table of needs.
-/
import Derived.Test.YtklpiodciblabaaDoorAtK
import Derived.Test.YtklpiodciblabaaDoorVcL
set_option linter.unusedSimpArgs false
set_option linter.unusedVariables false
namespace Go.Proofs.YtklpiodciblabaaDoor
open Go.RowKit
set_option maxRecDepth 100000

/-- Rows that lie in a block, one behind the other. -/
theorem RowsAt.ofRange {w : World} {b sz : Nat} : ∀ {rows : List (List Value)} {o : Nat}, w.rangeAt b o rows.flatten → (∀ r ∈ rows, r.length = sz) → RowsAt w (some ⟨b, o, none⟩) sz rows := by
  intro rows o h hr j cs hj
  refine ⟨b, o, rfl, fun k v hk => ?_⟩
  have key : ∀ (rows : List (List Value)), (∀ r ∈ rows, r.length = sz) → ∀ j cs, rows[j]? = some cs → ∀ k v, cs[k]? = some v → rows.flatten[j * sz + k]? = some v := by
    intro rows hr
    induction rows with
    | nil => intro j cs hj; simp at hj
    | cons r0 rest ih =>
      intro j cs hj k v hk
      have h0 : r0.length = sz := hr r0 (by simp)
      cases j with
      | zero =>
        simp at hj; subst hj
        have : k < r0.length := (List.getElem?_eq_some_iff.1 hk).1
        rw [List.flatten_cons, List.getElem?_append_left (by omega)]; simpa using hk
      | succ j =>
        rw [List.flatten_cons, List.getElem?_append_right (by rw [h0, Nat.add_mul]; omega), h0]
        have e1 : (j + 1) * sz + k - sz = j * sz + k := by rw [Nat.add_mul]; omega
        rw [e1]
        exact ih (fun r hm => hr r (by simp [hm])) j cs (by simpa using hj) k v hk
  have := h (j * sz + k) v (key rows hr j cs hj k v hk)
  rwa [Nat.add_assoc]
def IntsAt (w : World) (A : Option Addr) (l : List Nat) : Prop := RowsAt w A 1 (intRows l)
theorem IntsAt.get {w : World} {A : Option Addr} {l : List Nat} (h : IntsAt w A l) {j t : Nat} (hj : l[j]? = some t) : ∃ b off, A = some ⟨b, off, none⟩ ∧ w.cell? ⟨b, off + j * 1, none⟩ = some (.int .i64 (t : Int)) := by
  obtain ⟨b, off, h1, h2⟩ := h j [.int .i64 (t : Int)] (by simp [intRows, hj])
  exact ⟨b, off, h1, by have := h2 0 _ rfl; rwa [Nat.add_zero] at this⟩
theorem Own.ints {w0 w : World} {row : Option Nat} {rs : List Res} (H : Own w0 row w rs) (i : Nat) {e : TypeId} {n c : Nat} {A : Option Addr} {l : List Nat} (hi : rs[i]? = some (.rws e 1 (.slice A n c) (intRows l))) : IntsAt w A l := H.rowsAt i hi (intRows_one l) (by omega)
theorem eq_at {l q : List Nat} (hl : l.length = q.length) (h : ∀ i, i < l.length → l[i]? = q[i]?) : (l == q) = true := by
  rw [beq_iff_eq]
  refine List.ext_getElem? fun i => ?_
  rcases Nat.lt_or_ge i l.length with h1 | h1
  · exact h i h1
  · rw [List.getElem?_eq_none h1, List.getElem?_eq_none (by omega)]
theorem ints_any (A B : Option Addr) (CA CB : Nat) (l q : List Nat) (w0 : World) (hA : IntsAt w0 A l) (hB : IntsAt w0 B q) (hl : l.length ≤ 9223372036854775807) (hq : q.length ≤ 9223372036854775807) :
    Calls Tryd.prog 14 #[.slice A l.length CA, .slice B q.length CB] w0 fun e w' => e = .returned (.bool (l == q)) ∧ Below w0.heap.size w0 w' := by
  have H := Own.start w0 none
  refine enterF Tryd.func14 rfl Tryd.ntmps14 rfl (fun a F => ?_)
  refine cSeq (fun K1 hK1 => ?_)
  refine cReg ?_
  refine sAs F rfl rfl rfl ?_;clear F a;intro a F
  refine sNil ?_
  refine hK1 _ _ ?_; clear hK1
  refine cSeq (fun K2 hK2 => ?_)
  refine cSeq (fun K3 hK3 => ?_)
  refine cReg ?_
  refine sMv F rfl rfl rfl ?_;clear F a;intro a F
  refine sLen Tryd.underlying39 F rfl rfl rfl ?_;clear F a;intro a F
  refine sMv F rfl rfl rfl ?_;clear F a;intro a F
  refine sLen Tryd.underlying39 F rfl rfl rfl ?_;clear F a;intro a F
  refine sBin F rfl rfl rfl rfl bNeq ?_;clear F a;intro a F
  refine sNil ?_
  refine hK3 _ _ ?_; clear hK3
  refine cIf F rfl (fun h10 => ?_) (fun h10 => ?_)
  ·
   replace h10 := bneT h10
   refine cSeq (fun K4 hK4 => ?_)
   refine cReg ?_
   refine sAs F rfl rfl rfl ?_;clear F a;intro a F
   refine sNil ?_
   refine hK4 _ _ ?_; clear hK4
   refine wp_ret ?_
   simp only [Exit.then]
   refine bRet Tryd.results14 F rfl ?_
   first
     | exact ⟨retB (beq_false_of_ne (fun e => by subst e; omega)).symm, H.below⟩
     | exact ⟨retB (beq_false_of_ne (fun e => by subst e; rw [hx] at hy; cases hy; omega)).symm, H.below⟩
     | exact ⟨retB (eq_at (by omega) (fun i hi => ht i (by omega))).symm, H.below⟩
  replace h10 := bneF h10
  refine wp_skip ?_
  refine hK2 _ _ ?_; clear hK2
  refine cSeq (fun K5 hK5 => ?_)
  refine cSeq (fun K6 hK6 => ?_)
  refine cReg ?_
  refine sMv F rfl rfl rfl ?_;clear F a;intro a F
  refine sLen Tryd.underlying39 F rfl rfl rfl ?_;clear F a;intro a F
  refine sMv F rfl rfl rfl ?_;clear F a;intro a F
  refine sNil ?_
  refine hK6 _ _ ?_; clear hK6
  refine wp_block ?_
  refine cLoopR [0, 1, 12] (fun m ups w => ∃ j : Nat, m = l.length - j ∧ ups = [(13, .int .i64 (j : Int))] ∧ j ≤ l.length ∧ (∀ i, i < j → l[i]? = q[i]?) ∧ Own w0 none w []) F (l.length) [(13, .int .i64 ((0 : Nat) : Int))] (by repeat (first | exact SubR.nil | (apply SubR.cons; · rfl))) ?_ ?_ ?_
  · exact ⟨0, rfl, rfl, by omega, fun i hi => by omega, H⟩
  · repeat (first | exact trivial | refine Le.cons rfl ?_)
  clear F
  clear H
  intro m ups a w hI F
  obtain ⟨j, rfl, rfl, hj, ht, H⟩ := hI
  refine cSeq (fun K7 hK7 => ?_)
  refine cReg ?_
  refine sBin F rfl rfl rfl rfl bLss ?_;clear F a;intro a F
  refine sNil ?_
  refine hK7 _ _ ?_; clear hK7
  refine cSeq (fun K8 hK8 => ?_)
  refine cIf F rfl (fun h14 => ?_) (fun h14 => ?_)
  ·
   replace h14 := of_decide_eq_true h14
   have hjl : j < l.length := by omega
   obtain ⟨x, hx⟩ : ∃ x, l[j]? = some x := ⟨_, List.getElem?_eq_getElem hjl⟩
   obtain ⟨y, hy⟩ : ∃ y, q[j]? = some y := ⟨_, List.getElem?_eq_getElem (by omega)⟩
   obtain ⟨bA, oA, rfl, hAx⟩ := hA.get hx
   obtain ⟨bB, oB, rfl, hBy⟩ := hB.get hy
   refine wp_skip ?_
   refine hK8 _ _ ?_; clear hK8
   refine cSeq (fun K9 hK9 => ?_)
   refine wp_block ?_
   refine cSeq (fun K10 hK10 => ?_)
   refine cReg ?_
   refine sMv F rfl rfl rfl ?_;clear F a;intro a F
   refine sAs F rfl rfl rfl ?_;clear F a;intro a F
   refine sNil ?_
   refine hK10 _ _ ?_; clear hK10
   refine cSeq (fun K11 hK11 => ?_)
   refine cRegRO (by kernel_rfl) H ?_
   replace H := H.drew
   refine eTakeF (k := 0) (i := 0) rfl (by kernel_rfl) F rfl rfl rfl (fun w => rMv F rfl) (H.sel [] rfl rfl) (fun _ _ _ h => h) ?_;clear F a;intro a F
   refine eTakeF (k := 1) (i := 1) rfl (by kernel_rfl) F rfl rfl rfl (fun w => rMv F rfl) (H.sel [] rfl rfl) (fun _ _ _ h => h) ?_;clear F a;intro a F
   refine eTakeF (k := 2) (i := 2) rfl (by kernel_rfl) F rfl rfl rfl (fun w => rIx Tryd.underlying39 Tryd.sizeOf3 F rfl rfl ?_) (H.sel [] rfl rfl) (fun _ _ _ h => h) ?_
   focus (first | omega | decide | (simp; omega))
   clear F a; intro a F
   refine eTake (k := 3) (i := 3) rfl (by kernel_rfl) F rfl rfl rfl rfl (fun w H => rLd Tryd.isAgg3 F rfl (H.arg hAx)) (H.sel [] rfl rfl) (fun _ _ _ h => h) ?_;clear F a;intro a F
   refine eTakeF (k := 4) (i := 4) rfl (by kernel_rfl) F rfl rfl rfl (fun w => rMv F rfl) (H.sel [] rfl rfl) (fun _ _ _ h => h) ?_;clear F a;intro a F
   refine eTakeF (k := 5) (i := 5) rfl (by kernel_rfl) F rfl rfl rfl (fun w => rMv F rfl) (H.sel [] rfl rfl) (fun _ _ _ h => h) ?_;clear F a;intro a F
   refine eTakeF (k := 6) (i := 6) rfl (by kernel_rfl) F rfl rfl rfl (fun w => rIx Tryd.underlying39 Tryd.sizeOf3 F rfl rfl ?_) (H.sel [] rfl rfl) (fun _ _ _ h => h) ?_
   focus (first | omega | decide | (simp; omega))
   clear F a; intro a F
   refine eTake (k := 7) (i := 7) rfl (by kernel_rfl) F rfl rfl rfl rfl (fun w H => rLd Tryd.isAgg3 F rfl (H.arg hBy)) (H.sel [] rfl rfl) (fun _ _ _ h => h) ?_;clear F a;intro a F
   refine eTakeF (k := 8) (i := 8) rfl (by kernel_rfl) F rfl rfl rfl (fun w => rBin F rfl rfl bNeq) (H.sel [] rfl rfl) (fun _ _ _ h => h) ?_;clear F a;intro a F
   refine eNil (k := 9) (by kernel_rfl) ?_
   refine hK11 _ _ ?_; clear hK11
   refine cIf F rfl (fun h24 => ?_) (fun h24 => ?_)
   ·
    replace h24 := bneT h24
    refine cSeq (fun K12 hK12 => ?_)
    refine cReg ?_
    refine sAs F rfl rfl rfl ?_;clear F a;intro a F
    refine sNil ?_
    refine hK12 _ _ ?_; clear hK12
    refine wp_ret ?_
    simp only [Exit.inBlock, Exit.then]
    refine bRet Tryd.results14 F rfl ?_
    first
      | exact ⟨retB (beq_false_of_ne (fun e => by subst e; omega)).symm, H.below⟩
      | exact ⟨retB (beq_false_of_ne (fun e => by subst e; rw [hx] at hy; cases hy; omega)).symm, H.below⟩
      | exact ⟨retB (eq_at (by omega) (fun i hi => ht i (by omega))).symm, H.below⟩
   replace h24 := bneF h24
   refine wp_skip ?_
   refine hK9 _ _ ?_; clear hK9
   refine cReg ?_
   refine sBin F rfl rfl rfl rfl (bAddN (j := 1) ?_) ?_
   focus omega
   clear F a; intro a F
   refine sMv F rfl rfl rfl ?_;clear F a;intro a F
   refine sNil ?_
   have hs : ∀ i, i < j + 1 → l[i]? = q[i]? := fun i hi => by
     rcases Nat.lt_or_ge i j with h1 | h1
     · exact ht i h1
     · obtain rfl : i = j := by omega
       rw [hx, hy, show x = y by omega]
   exact ⟨_, by omega, _, ⟨j + 1, rfl, rfl, by omega, hs, H⟩, F.to (by repeat (first | exact trivial | refine Le.cons rfl ?_))⟩
  replace h14 := of_decide_eq_false h14
  refine wp_exit ?_
  refine hK5 _ _ ?_; clear hK5
  refine cSeq (fun K13 hK13 => ?_)
  refine cReg ?_
  refine sAs F rfl rfl rfl ?_;clear F a;intro a F
  refine sNil ?_
  refine hK13 _ _ ?_; clear hK13
  refine wp_ret ?_
  refine bRet Tryd.results14 F rfl ?_
  first
    | exact ⟨retB (beq_false_of_ne (fun e => by subst e; omega)).symm, H.below⟩
    | exact ⟨retB (beq_false_of_ne (fun e => by subst e; rw [hx] at hy; cases hy; omega)).symm, H.below⟩
    | exact ⟨retB (eq_at (by omega) (fun i hi => ht i (by omega))).symm, H.below⟩
/-- The store buffering test. -/
def sbP : Prg where
  name := ⟨#[115, 98]⟩
  locs := [⟨#[120]⟩, ⟨#[121]⟩]
  init := [0, 0]
  threads := [[⟨2, 0, 0, false, 1, false, 0, 0, 0, 0⟩, ⟨1, 0, 1, false, 0, false, 0, 0, 0, 0⟩], [⟨2, 0, 1, false, 1, false, 0, 0, 0, 0⟩, ⟨1, 0, 0, false, 0, false, 0, 0, 0, 0⟩]]
  ask := 1
  cond := .mk 0 0 0 0 []
def sbCells (b1 b2 b3 : Nat) : List Value := [.string ⟨#[115, 98]⟩, .slice (some ⟨b1, 0, none⟩) 2 2, .slice (some ⟨b2, 0, none⟩) 2 2, .slice (some ⟨b3, 0, none⟩) 2 2, b8 1, b8 0, b8 0, b8 0, b8 0, .slice none 0 0]
def sbRes (b1 b2 b3 b4 b5 : Nat) : List Res := [.blk b3 [.slice (some ⟨b4, 0, none⟩) 2 2, .slice (some ⟨b5, 0, none⟩) 2 2] 33, .blk b5 ((sbP.threads.getD 1 []).map Ins.cells).flatten 76, .blk b4 ((sbP.threads.getD 0 []).map Ins.cells).flatten 76, .blk b2 [b8 0, b8 0] 5, .blk b1 [.string ⟨#[120]⟩, .string ⟨#[121]⟩] 9]
theorem buffering_any (w0 : World) :
    Calls Tryd.prog 11 #[] w0 fun e w' => ∃ b1 b2 b3 b4 b5, e = .returned (.agg (sbCells b1 b2 b3).toArray) ∧ Own w0 none w' (sbRes b1 b2 b3 b4 b5) := by
  have H := Own.start w0 none
  refine enterF Tryd.func11 rfl Tryd.ntmps11 rfl (fun a F => ?_)
  refine cSeq (fun K1 hK1 => ?_)
  refine cReg ?_
  refine sAl H Tryd.zeroValue29 F rfl rfl ?_
  clear F a H; intro b0 a w F H
  refine sNil ?_
  refine hK1 _ _ ?_; clear hK1
  refine cSeq (fun K2 hK2 => ?_)
  refine cReg ?_
  refine sBs H Tryd.underlying22 Tryd.sizeOf9 Tryd.zeroValue9 rfl F rfl rfl rfl rfl rfl ?_
  clear F a H; intro b1 a w F H
  refine sBs H Tryd.underlying23 Tryd.sizeOf5 Tryd.zeroValue5 rfl F rfl rfl rfl rfl rfl ?_
  clear F a H; intro b2 a w F H
  refine sBd (places := [(0, 1), (1, 1)]) Tryd.zeroValue74 Tryd.underlying74 (by kernel_rfl) F rfl rfl rfl rfl ?_;clear F a;intro a F
  refine sBd (places := [(0, 1), (1, 1), (2, 1), (3, 2), (5, 2), (7, 1), (8, 1), (9, 1)]) Tryd.zeroValue76 Tryd.underlying76 (by kernel_rfl) F rfl rfl rfl rfl ?_;clear F a;intro a F
  refine sBd (places := [(0, 1), (1, 1), (2, 1), (3, 2), (5, 2), (7, 1), (8, 1), (9, 1)]) Tryd.zeroValue76 Tryd.underlying76 (by kernel_rfl) F rfl rfl rfl rfl ?_;clear F a;intro a F
  refine sBs H Tryd.underlying33 Tryd.sizeOf76 Tryd.zeroValue76 rfl F rfl rfl rfl rfl rfl ?_
  clear F a H; intro b6 a w F H
  refine sBd (places := [(0, 1), (1, 1)]) Tryd.zeroValue74 Tryd.underlying74 (by kernel_rfl) F rfl rfl rfl rfl ?_;clear F a;intro a F
  refine sBd (places := [(0, 1), (1, 1), (2, 1), (3, 2), (5, 2), (7, 1), (8, 1), (9, 1)]) Tryd.zeroValue76 Tryd.underlying76 (by kernel_rfl) F rfl rfl rfl rfl ?_;clear F a;intro a F
  refine sBd (places := [(0, 1), (1, 1), (2, 1), (3, 2), (5, 2), (7, 1), (8, 1), (9, 1)]) Tryd.zeroValue76 Tryd.underlying76 (by kernel_rfl) F rfl rfl rfl rfl ?_;clear F a;intro a F
  refine sBs H Tryd.underlying33 Tryd.sizeOf76 Tryd.zeroValue76 rfl F rfl rfl rfl rfl rfl ?_
  clear F a H; intro b10 a w F H
  refine sBs H Tryd.underlying24 Tryd.sizeOf33 Tryd.zeroValue33 rfl F rfl rfl rfl rfl rfl ?_
  clear F a H; intro b11 a w F H
  refine sBd (places := [(0, 1), (1, 1), (2, 1), (3, 1), (4, 1), (5, 5)]) Tryd.zeroValue29 Tryd.underlying29 (by kernel_rfl) F rfl rfl rfl rfl ?_;clear F a;intro a F
  refine sSr H 5 ?si F rfl rfl rfl ?s1 rfl rfl ?_
  case si => exact info_size Tryd.sizeOf29
  case s1 => first | rfl | (repeat (first | exact one_nil | (apply one_cons; · first | rfl | assumption | exact one_bif rfl rfl)))
  clear H; intro w H
  refine sNil ?_
  refine hK2 _ _ ?_; clear hK2
  refine wp_ret ?_
  refine bRetC Tryd.results11 F rfl Tryd.underlying29 rfl H 5 rfl Tryd.sizeOf29 rfl ?_
  exact ⟨_, _, _, _, _, rfl, H.sel [0, 1, 2, 3, 4] rfl rfl⟩
end Go.Proofs.YtklpiodciblabaaDoor

namespace Go.Proofs.YtklpiodciblabaaDoor
open Go.RowKit
set_option maxRecDepth 100000

theorem sb_prog {w0 w : World} {row : Option Nat} {b1 b2 b3 b4 b5 : Nat} (H : Own w0 row w (sbRes b1 b2 b3 b4 b5)) : ProgAt w (sbCells b1 b2 b3) sbP := by
  refine ⟨some ⟨b1, 0, none⟩, 2, some ⟨b2, 0, none⟩, 2, some ⟨b3, 0, none⟩, 2, 1, [b8 0, b8 0, b8 0, b8 0, .slice none 0 0], ?_⟩
  have h3 := H.blk 0 rfl
  have h5 := H.whole 1 rfl
  have h4 := H.whole 2 rfl
  have h2 := H.whole 3 rfl
  have h1 := H.whole 4 rfl
  have hone : ∀ (l : List Ins) (r : List Value), r ∈ l.map Ins.cells → r.length = 10 := fun l r hr => by
    obtain ⟨x, _, rfl⟩ := List.mem_map.1 hr; rfl
  refine ⟨rfl, by decide, RowsAt.ofRange (sz := 1) (rows := [[_], [_]]) h1 (by simp), by decide, by decide, ?_, RowsAt.ofRange (sz := 1) (rows := [[_], [_]]) h2 (by simp), by decide, ?_, by decide, none, 0, rfl, by decide, fun j kid hj => by simp at hj⟩
  · intro s hs
    have : s = ⟨#[120]⟩ ∨ s = ⟨#[121]⟩ := by simpa [sbP] using hs
    rcases this with rfl | rfl <;> decide
  · intro j t hj
    match j, hj with
    | 0, hj => cases hj; exact ⟨b3, 0, some ⟨b4, 0, none⟩, 2, rfl, h3.cell 0 rfl, RowsAt.ofRange h4 (hone _), by decide⟩
    | 1, hj => cases hj; exact ⟨b3, 0, some ⟨b5, 0, none⟩, 2, rfl, h3.cell 1 rfl, RowsAt.ofRange h5 (hone _), by decide⟩
    | n + 2, hj => simp [sbP] at hj
/-- What plays tells. -/
def playsP (picks : List UInt8) (a b : UInt8) (order : List Nat) : Bool :=
  startE sbP == 0 && playF sbP picks 0 == a && playF sbP picks 8 == b && playF sbP picks 32 == 1 && playF sbP picks 33 == 1 && playO sbP picks == order
theorem plays_any (PA : Option Addr) (PC : Nat) (picks : List UInt8) (a b : UInt8) (OA : Option Addr) (OC : Nat) (order : List Nat) (w0 : World) (hN : NeedsAt w0) (hB : BytesAt w0 PA picks) (hBn : picks.length ≤ 9223372036854775807) (hO : IntsAt w0 OA order) (hOn : order.length ≤ 9223372036854775807) :
    Calls Tryd.prog 16 #[.slice PA picks.length PC, b8 a, b8 b, .slice OA order.length OC] w0 fun e w' => e = .returned (.bool (playsP picks a b order)) ∧ Below w0.heap.size w0 w' := by
  have H := Own.start w0 none
  refine enterF Tryd.func16 rfl Tryd.ntmps16 rfl (fun a F => ?_)
  refine cSeq (fun K1 hK1 => ?_)
  refine cReg ?_
  refine sAs F rfl rfl rfl ?_;clear F a;intro a F
  refine sNil ?_
  refine hK1 _ _ ?_; clear hK1
  refine cSeq (fun K2 hK2 => ?_)
  refine cReg ?_
  refine sCall Tryd.call11 F rfl rfl rfl (buffering_any _) ?_
  rintro e w ⟨b1, b2, b3, b4, b5, rfl, H2⟩
  replace H := H.join H2; clear H2
  refine ⟨_, rfl, ?_⟩
  clear F a; intro a F
  refine sMv F rfl rfl rfl ?_;clear F a;intro a F
  refine sCall Tryd.call6 F rfl rfl rfl (play_any _ sbP _ (sb_prog (H.sel [0, 1, 2, 3, 4] rfl rfl)) (hN.own H) PA PC picks (RowsAt.own hB H) hBn) ?_
  rintro e w ⟨A, c, rfl, H2⟩
  replace H := H.join H2; clear H2
  refine ⟨_, rfl, ?_⟩
  clear F a; intro a F
  refine sMv F rfl rfl rfl ?_;clear F a;intro a F
  refine sExt F rfl rfl rfl rfl ?_;clear F a;intro a F
  refine sExt F rfl rfl rfl rfl ?_;clear F a;intro a F
  refine sExt F rfl rfl rfl rfl ?_;clear F a;intro a F
  refine sAlB H zB38 F rfl rfl ?_
  clear F a H; intro b9 a w F H
  refine sSrB H 0 Tryd.sizeOf38 F rfl rfl rfl rfl (by omega) ?_
  clear H; intro w H
  rw [lay_all] at H
  refine sAs F rfl rfl rfl ?_;clear F a;intro a F
  refine sAs F rfl rfl rfl ?_;clear F a;intro a F
  refine sNil ?_
  refine hK2 _ _ ?_; clear hK2
  refine cSeq (fun K3 hK3 => ?_)
  refine cReg ?_
  refine sMv F rfl rfl rfl ?_;clear F a;intro a F
  refine sBin F rfl rfl rfl rfl bEql ?_;clear F a;intro a F
  refine sMv F rfl rfl rfl ?_;clear F a;intro a F
  refine F.split 21 rfl ?_ ?_ <;> (clear F; intro h21 F)
  ·
   replace h21 := beqT h21
   refine sFa (f := 0) (k := 0) Tryd.underlying38 rfl Tryd.sizeOf35 rfl rfl F rfl rfl rfl ?_;clear F a;intro a F
   refine sIa (j := 0) Tryd.underlying35 Tryd.sizeOf34 F rfl rfl rfl rfl ?_ ?_
   focus (first | omega | decide | (simp; omega))
   clear F a; intro a F
   refine sIa (j := 0) Tryd.underlying34 Tryd.sizeOf5 F rfl rfl rfl rfl ?_ ?_
   focus (first | omega | decide | (simp; omega))
   clear F a; intro a F
   refine sLd Tryd.isAgg5 F rfl rfl rfl (H.cellB 0 rfl (by omega)) ?_;clear F a;intro a F
   refine sMv F rfl rfl rfl ?_;clear F a;intro a F
   refine sBin F rfl rfl rfl rfl bEqlB ?_;clear F a;intro a F
   refine sPk F rfl rfl rfl rfl ?_;clear F a;intro a F
   refine sMv F rfl rfl rfl ?_;clear F a;intro a F
   refine F.split 29 rfl ?_ ?_ <;> (clear F; intro h29 F)
   ·
    replace h29 := beqT h29
    refine sFa (f := 0) (k := 0) Tryd.underlying38 rfl Tryd.sizeOf35 rfl rfl F rfl rfl rfl ?_;clear F a;intro a F
    refine sIa (j := 1) Tryd.underlying35 Tryd.sizeOf34 F rfl rfl rfl rfl ?_ ?_
    focus (first | omega | decide | (simp; omega))
    clear F a; intro a F
    refine sIa (j := 0) Tryd.underlying34 Tryd.sizeOf5 F rfl rfl rfl rfl ?_ ?_
    focus (first | omega | decide | (simp; omega))
    clear F a; intro a F
    refine sLd Tryd.isAgg5 F rfl rfl rfl (H.cellB 0 rfl (by omega)) ?_;clear F a;intro a F
    refine sMv F rfl rfl rfl ?_;clear F a;intro a F
    refine sBin F rfl rfl rfl rfl bEqlB ?_;clear F a;intro a F
    refine sPk F rfl rfl rfl rfl ?_;clear F a;intro a F
    refine sMv F rfl rfl rfl ?_;clear F a;intro a F
    refine F.split 37 rfl ?_ ?_ <;> (clear F; intro h37 F)
    ·
     replace h37 := beqT h37
     refine sFa (f := 1) (k := 32) Tryd.underlying38 rfl Tryd.sizeOf36 rfl rfl F rfl rfl rfl ?_;clear F a;intro a F
     refine sIa (j := 0) Tryd.underlying36 Tryd.sizeOf5 F rfl rfl rfl rfl ?_ ?_
     focus (first | omega | decide | (simp; omega))
     clear F a; intro a F
     refine sLd Tryd.isAgg5 F rfl rfl rfl (H.cellB 0 rfl (by omega)) ?_;clear F a;intro a F
     refine sBin F rfl rfl rfl rfl (bEqlB (y := 1)) ?_;clear F a;intro a F
     refine sPk F rfl rfl rfl rfl ?_;clear F a;intro a F
     refine sMv F rfl rfl rfl ?_;clear F a;intro a F
     refine F.split 43 rfl ?_ ?_ <;> (clear F; intro h43 F)
     ·
      replace h43 := beqT h43
      refine sFa (f := 1) (k := 32) Tryd.underlying38 rfl Tryd.sizeOf36 rfl rfl F rfl rfl rfl ?_;clear F a;intro a F
      refine sIa (j := 1) Tryd.underlying36 Tryd.sizeOf5 F rfl rfl rfl rfl ?_ ?_
      focus (first | omega | decide | (simp; omega))
      clear F a; intro a F
      refine sLd Tryd.isAgg5 F rfl rfl rfl (H.cellB 0 rfl (by omega)) ?_;clear F a;intro a F
      refine sBin F rfl rfl rfl rfl (bEqlB (y := 1)) ?_;clear F a;intro a F
      refine sPk F rfl rfl rfl rfl ?_;clear F a;intro a F
      refine sMv F rfl rfl rfl ?_;clear F a;intro a F
      refine F.split 49 rfl ?_ ?_ <;> (clear F; intro h49 F)
      ·
       replace h49 := beqT h49
       refine sMv F rfl rfl rfl ?_;clear F a;intro a F
       refine sMv F rfl rfl rfl ?_;clear F a;intro a F
       refine sCall Tryd.call14 F rfl rfl rfl (ints_any A OA c OC (playO sbP picks) order _ (H.ints 1 rfl) (RowsAt.own hO H) (by have := (H.rwsLen 1 rfl).2; simp only [maxLen] at this; omega) hOn) ?_
       rintro e w ⟨rfl, hb⟩
       replace H := H.grow hb; clear hb
       refine ⟨_, rfl, ?_⟩
       clear F a; intro a F
       refine sPk F rfl rfl rfl rfl ?_;clear F a;intro a F
       refine sAs F rfl rfl rfl ?_;clear F a;intro a F
       refine sNil ?_
       refine hK3 _ _ ?_; clear hK3
       refine wp_ret ?_
       refine bRet Tryd.results16 F rfl ?_
       refine ⟨retB ?_, H.below⟩
       clear F H
       simp [playsP, *]
      replace h49 := beqF h49
      refine sSk F rfl rfl ?_;clear F a;intro a F
      refine sSk F rfl rfl ?_;clear F a;intro a F
      refine sSk F rfl rfl ?_;clear F a;intro a F
      refine sPk F rfl rfl rfl rfl ?_;clear F a;intro a F
      refine sAs F rfl rfl rfl ?_;clear F a;intro a F
      refine sNil ?_
      refine hK3 _ _ ?_; clear hK3
      refine wp_ret ?_
      refine bRet Tryd.results16 F rfl ?_
      refine ⟨retB ?_, H.below⟩
      clear F H
      simp [playsP, *]
     replace h43 := beqF h43
     refine sSk F rfl rfl ?_;clear F a;intro a F
     refine sSk F rfl rfl ?_;clear F a;intro a F
     refine sSk F rfl rfl ?_;clear F a;intro a F
     refine sSk F rfl rfl ?_;clear F a;intro a F
     refine sPk F rfl rfl rfl rfl ?_;clear F a;intro a F
     refine sMv F rfl rfl rfl ?_;clear F a;intro a F
     refine sSk F rfl rfl ?_;clear F a;intro a F
     refine sSk F rfl rfl ?_;clear F a;intro a F
     refine sSk F rfl rfl ?_;clear F a;intro a F
     refine sPk F rfl rfl rfl rfl ?_;clear F a;intro a F
     refine sAs F rfl rfl rfl ?_;clear F a;intro a F
     refine sNil ?_
     refine hK3 _ _ ?_; clear hK3
     refine wp_ret ?_
     refine bRet Tryd.results16 F rfl ?_
     refine ⟨retB ?_, H.below⟩
     clear F H
     simp [playsP, *]
    replace h37 := beqF h37
    refine sSk F rfl rfl ?_;clear F a;intro a F
    refine sSk F rfl rfl ?_;clear F a;intro a F
    refine sSk F rfl rfl ?_;clear F a;intro a F
    refine sSk F rfl rfl ?_;clear F a;intro a F
    refine sPk F rfl rfl rfl rfl ?_;clear F a;intro a F
    refine sMv F rfl rfl rfl ?_;clear F a;intro a F
    refine sSk F rfl rfl ?_;clear F a;intro a F
    refine sSk F rfl rfl ?_;clear F a;intro a F
    refine sSk F rfl rfl ?_;clear F a;intro a F
    refine sSk F rfl rfl ?_;clear F a;intro a F
    refine sPk F rfl rfl rfl rfl ?_;clear F a;intro a F
    refine sMv F rfl rfl rfl ?_;clear F a;intro a F
    refine sSk F rfl rfl ?_;clear F a;intro a F
    refine sSk F rfl rfl ?_;clear F a;intro a F
    refine sSk F rfl rfl ?_;clear F a;intro a F
    refine sPk F rfl rfl rfl rfl ?_;clear F a;intro a F
    refine sAs F rfl rfl rfl ?_;clear F a;intro a F
    refine sNil ?_
    refine hK3 _ _ ?_; clear hK3
    refine wp_ret ?_
    refine bRet Tryd.results16 F rfl ?_
    refine ⟨retB ?_, H.below⟩
    clear F H
    simp [playsP, *]
   replace h29 := beqF h29
   refine sSk F rfl rfl ?_;clear F a;intro a F
   refine sSk F rfl rfl ?_;clear F a;intro a F
   refine sSk F rfl rfl ?_;clear F a;intro a F
   refine sSk F rfl rfl ?_;clear F a;intro a F
   refine sSk F rfl rfl ?_;clear F a;intro a F
   refine sSk F rfl rfl ?_;clear F a;intro a F
   refine sPk F rfl rfl rfl rfl ?_;clear F a;intro a F
   refine sMv F rfl rfl rfl ?_;clear F a;intro a F
   refine sSk F rfl rfl ?_;clear F a;intro a F
   refine sSk F rfl rfl ?_;clear F a;intro a F
   refine sSk F rfl rfl ?_;clear F a;intro a F
   refine sSk F rfl rfl ?_;clear F a;intro a F
   refine sPk F rfl rfl rfl rfl ?_;clear F a;intro a F
   refine sMv F rfl rfl rfl ?_;clear F a;intro a F
   refine sSk F rfl rfl ?_;clear F a;intro a F
   refine sSk F rfl rfl ?_;clear F a;intro a F
   refine sSk F rfl rfl ?_;clear F a;intro a F
   refine sSk F rfl rfl ?_;clear F a;intro a F
   refine sPk F rfl rfl rfl rfl ?_;clear F a;intro a F
   refine sMv F rfl rfl rfl ?_;clear F a;intro a F
   refine sSk F rfl rfl ?_;clear F a;intro a F
   refine sSk F rfl rfl ?_;clear F a;intro a F
   refine sSk F rfl rfl ?_;clear F a;intro a F
   refine sPk F rfl rfl rfl rfl ?_;clear F a;intro a F
   refine sAs F rfl rfl rfl ?_;clear F a;intro a F
   refine sNil ?_
   refine hK3 _ _ ?_; clear hK3
   refine wp_ret ?_
   refine bRet Tryd.results16 F rfl ?_
   refine ⟨retB ?_, H.below⟩
   clear F H
   simp [playsP, *]
  replace h21 := beqF h21
  refine sSk F rfl rfl ?_;clear F a;intro a F
  refine sSk F rfl rfl ?_;clear F a;intro a F
  refine sSk F rfl rfl ?_;clear F a;intro a F
  refine sSk F rfl rfl ?_;clear F a;intro a F
  refine sSk F rfl rfl ?_;clear F a;intro a F
  refine sSk F rfl rfl ?_;clear F a;intro a F
  refine sPk F rfl rfl rfl rfl ?_;clear F a;intro a F
  refine sMv F rfl rfl rfl ?_;clear F a;intro a F
  refine sSk F rfl rfl ?_;clear F a;intro a F
  refine sSk F rfl rfl ?_;clear F a;intro a F
  refine sSk F rfl rfl ?_;clear F a;intro a F
  refine sSk F rfl rfl ?_;clear F a;intro a F
  refine sSk F rfl rfl ?_;clear F a;intro a F
  refine sSk F rfl rfl ?_;clear F a;intro a F
  refine sPk F rfl rfl rfl rfl ?_;clear F a;intro a F
  refine sMv F rfl rfl rfl ?_;clear F a;intro a F
  refine sSk F rfl rfl ?_;clear F a;intro a F
  refine sSk F rfl rfl ?_;clear F a;intro a F
  refine sSk F rfl rfl ?_;clear F a;intro a F
  refine sSk F rfl rfl ?_;clear F a;intro a F
  refine sPk F rfl rfl rfl rfl ?_;clear F a;intro a F
  refine sMv F rfl rfl rfl ?_;clear F a;intro a F
  refine sSk F rfl rfl ?_;clear F a;intro a F
  refine sSk F rfl rfl ?_;clear F a;intro a F
  refine sSk F rfl rfl ?_;clear F a;intro a F
  refine sSk F rfl rfl ?_;clear F a;intro a F
  refine sPk F rfl rfl rfl rfl ?_;clear F a;intro a F
  refine sMv F rfl rfl rfl ?_;clear F a;intro a F
  refine sSk F rfl rfl ?_;clear F a;intro a F
  refine sSk F rfl rfl ?_;clear F a;intro a F
  refine sSk F rfl rfl ?_;clear F a;intro a F
  refine sPk F rfl rfl rfl rfl ?_;clear F a;intro a F
  refine sAs F rfl rfl rfl ?_;clear F a;intro a F
  refine sNil ?_
  refine hK3 _ _ ?_; clear hK3
  refine wp_ret ?_
  refine bRet Tryd.results16 F rfl ?_
  refine ⟨retB ?_, H.below⟩
  clear F H
  simp [playsP, *]
def fenceI : Ins := ⟨7, 0, 0, false, 0, false, 0, 0, 3, 0⟩
theorem notEq {a : Bool} (h : a = true) (h2 : a = false) {G : Prop} : G := by rw [h] at h2; cases h2
theorem awake_any (w0 : World) (hN : NeedsAt w0) :
    Calls Tryd.prog 5 #[] w0 fun e w' => e = .returned (.bool true) ∧ Below w0.heap.size w0 w' := by
  have H := Own.start w0 none
  refine enterF Tryd.func5 rfl Tryd.ntmps5 rfl (fun a F => ?_)
  refine cSeq (fun K1 hK1 => ?_)
  refine cReg ?_
  refine sAs F rfl rfl rfl ?_;clear F a;intro a F
  refine sNil ?_
  refine hK1 _ _ ?_; clear hK1
  refine cSeq (fun K2 hK2 => ?_)
  refine cReg ?_
  refine sCall Tryd.call11 F rfl rfl rfl (buffering_any _) ?_
  rintro e w ⟨x1, x2, x3, x4, x5, rfl, H2⟩
  replace H := H.join H2; clear H2
  refine ⟨_, rfl, ?_⟩
  clear F a; intro a F
  refine sCall Tryd.call10 F rfl rfl rfl (start_any _ sbP _ (sb_prog (H.sel [0, 1, 2, 3, 4] rfl rfl)) (hN.own H)) ?_
  rintro e w ⟨rfl, hb⟩
  replace H := H.grow hb; clear hb
  refine ⟨_, rfl, ?_⟩
  clear F a; intro a F
  refine sMv F rfl rfl rfl ?_;clear F a;intro a F
  refine sExt F rfl rfl rfl rfl ?_;clear F a;intro a F
  refine sExt F rfl rfl rfl rfl ?_;clear F a;intro a F
  refine sAlB H zB67 F rfl rfl ?_
  clear F a H; intro b1 a w F H
  refine sSrB H 0 Tryd.sizeOf67 F rfl rfl rfl rfl (by omega) ?_
  clear H; intro w H
  rw [lay_all] at H
  refine sAs F rfl rfl rfl ?_;clear F a;intro a F
  refine sNil ?_
  refine hK2 _ _ ?_; clear hK2
  refine cSeq (fun K3 hK3 => ?_)
  refine cReg ?_
  refine sBd (places := [(0, 1), (1, 1), (2, 1), (3, 2), (5, 2), (7, 1), (8, 1), (9, 1)]) Tryd.zeroValue76 Tryd.underlying76 (by kernel_rfl) F rfl rfl rfl rfl ?_;clear F a;intro a F
  refine sBdB (places := [(0, 1), (1, 8)]) zB59 Tryd.underlying59 (by kernel_rfl) F rfl rfl rfl (FillB.one (v := 3) rfl rfl FillB.nil) ?_;clear F a;intro a F
  refine sCall Tryd.call12 F rfl rfl rfl (local_any fenceI (put zb 0 3) _) ?_
  rintro e w ⟨rfl, hb⟩
  replace H := H.grow hb; clear hb
  refine ⟨_, rfl, ?_⟩
  clear F a; intro a F
  refine sMv F rfl rfl rfl ?_;clear F a;intro a F
  refine sExt F rfl rfl rfl rfl ?_;clear F a;intro a F
  refine sExt F rfl rfl rfl rfl ?_;clear F a;intro a F
  refine sAlB H zB59 F rfl rfl ?_
  clear F a H; intro b3 a w F H
  refine sSrB H 0 Tryd.sizeOf59 F rfl rfl rfl rfl (by omega) ?_
  clear H; intro w H
  rw [lay_all] at H
  refine sAs F rfl rfl rfl ?_;clear F a;intro a F
  refine sNil ?_
  refine hK3 _ _ ?_; clear hK3
  refine cSeq (fun K4 hK4 => ?_)
  refine cRegRO (by kernel_rfl) H ?_
  replace H := H.drew
  refine eTake (k := 0) (i := 1) rfl (by kernel_rfl) F rfl rfl rfl rfl (fun w H => rLrB Tryd.underlying67 rfl Tryd.sizeOf67 F rfl (H.whole 1 rfl)) (H.sel [0, 1, 2, 3, 4, 5, 6] rfl rfl) (fun _ _ _ h => h) ?_;clear F a;intro a F
  refine eJoin F H [1, 2, 3, 4] 7 [true, true, true, true, true, true, true, false, false] (fun rs ups w => ∃ b5, ups = [(22, .agg (bs 142 (moveS sbP (startS sbP) 2)).toArray), (23, .int .i64 (moveE sbP (startS sbP) 2)), (5, .pointer (some ⟨b5, 0, none⟩))] ∧ Own w0 none w ((.blk b5 (bs 142 zb) 67) :: rs)) (by repeat (first | exact SubR.nil | (apply SubR.cons; · rfl))) ?_ (fun hJ => ?_)
  rotate_left
  ·
   refine eTwo (k := 1) (i := 0) (j := 6) (by kernel_rfl) F rfl rfl rfl rfl ?_ ?_
   ·
    refine oCall Tryd.call11 F rfl rfl (buffering_any _) ?_
    rintro e w ⟨y1, y2, y3, y4, y5, rfl, H2⟩
    replace H := H.join H2; clear H2
    refine ⟨_, rfl, ?_⟩
    clear F a; intro a F
    refine eKeep (H.sel [5, 6, 7, 8, 9, 10, 11] rfl rfl) ?_
    refine eTwo (k := 2) (i := 2) (j := 6) (by kernel_rfl) F rfl rfl rfl rfl ?_ ?_
    ·
     refine oCall Tryd.call13 F rfl rfl (move_any _ sbP _ (sb_prog (H.sel [0, 1, 2, 3, 4] rfl rfl)) (hN.own H) (startS sbP) 2) ?_
     rintro e w ⟨rfl, hb⟩
     replace H := H.grow hb; clear hb
     refine ⟨_, rfl, ?_⟩
     clear F a; intro a F
     refine eKeep (H.sel [5, 6, 7, 8, 9, 10, 11] rfl rfl) ?_
     refine eTakeF (k := 3) (i := 3) rfl (by kernel_rfl) F rfl rfl rfl (fun w => rMv F rfl) (H.sel [5, 6, 7, 8, 9, 10, 11] rfl rfl) (fun _ _ _ h => h) ?_;clear F a;intro a F
     refine eTakeF (k := 4) (i := 4) rfl (by kernel_rfl) F rfl rfl rfl (fun w => rExt F rfl rfl) (H.sel [5, 6, 7, 8, 9, 10, 11] rfl rfl) (fun _ _ _ h => h) ?_;clear F a;intro a F
     refine eTakeF (k := 5) (i := 5) rfl (by kernel_rfl) F rfl rfl rfl (fun w => rExt F rfl rfl) (H.sel [5, 6, 7, 8, 9, 10, 11] rfl rfl) (fun _ _ _ h => h) ?_;clear F a;intro a F
     refine eOne (k := 6) (i := 6) rfl (by kernel_rfl) F rfl (oAlB H zB67 F rfl ?_)
     clear F a H; intro b5 a w F H
     refine eKeep (H.sel [6, 7, 8, 9, 10, 11, 12] rfl rfl) ?_
     exact eGo hJ (by kernel_rfl) _ ⟨b5, rfl, H.sel [0, 6, 7, 8, 9, 10, 11, 12] rfl rfl⟩ (F.to (by repeat (first | exact trivial | refine Le.cons rfl ?_)))
    refine oAlB H zB67 F rfl ?_
    clear F a H; intro b5 a w F H
    refine eKeep (H.sel [6, 7, 8, 9, 10, 11, 12] rfl rfl) ?_
    refine eOne (k := 3) (i := 2) rfl (by kernel_rfl) F rfl (oCall Tryd.call13 F rfl rfl (move_any _ sbP _ (sb_prog (H.sel [1, 2, 3, 4, 5] rfl rfl)) (hN.own H) (startS sbP) 2) ?_)
    rintro e w ⟨rfl, hb⟩
    replace H := H.grow hb; clear hb
    refine ⟨_, rfl, ?_⟩
    clear F a; intro a F
    refine eKeep (H.sel [6, 7, 8, 9, 10, 11, 12] rfl rfl) ?_
    refine eTakeF (k := 4) (i := 3) rfl (by kernel_rfl) F rfl rfl rfl (fun w => rMv F rfl) (H.sel [6, 7, 8, 9, 10, 11, 12] rfl rfl) (fun _ _ _ h => h) ?_;clear F a;intro a F
    refine eTakeF (k := 5) (i := 4) rfl (by kernel_rfl) F rfl rfl rfl (fun w => rExt F rfl rfl) (H.sel [6, 7, 8, 9, 10, 11, 12] rfl rfl) (fun _ _ _ h => h) ?_;clear F a;intro a F
    refine eTakeF (k := 6) (i := 5) rfl (by kernel_rfl) F rfl rfl rfl (fun w => rExt F rfl rfl) (H.sel [6, 7, 8, 9, 10, 11, 12] rfl rfl) (fun _ _ _ h => h) ?_;clear F a;intro a F
    exact eGo hJ (by kernel_rfl) _ ⟨b5, rfl, H.sel [0, 6, 7, 8, 9, 10, 11, 12] rfl rfl⟩ (F.to (by repeat (first | exact trivial | refine Le.cons rfl ?_)))
   refine oAlB H zB67 F rfl ?_
   clear F a H; intro b5 a w F H
   refine eKeep (H.sel [1, 2, 3, 4, 5, 6, 7] rfl rfl) ?_
   refine eOne (k := 2) (i := 0) rfl (by kernel_rfl) F rfl (oCall Tryd.call11 F rfl rfl (buffering_any _) ?_)
   rintro e w ⟨y1, y2, y3, y4, y5, rfl, H2⟩
   replace H := H.join H2; clear H2
   refine ⟨_, rfl, ?_⟩
   clear F a; intro a F
   refine eKeep (H.sel [6, 7, 8, 9, 10, 11, 12] rfl rfl) ?_
   refine eOne (k := 3) (i := 2) rfl (by kernel_rfl) F rfl (oCall Tryd.call13 F rfl rfl (move_any _ sbP _ (sb_prog (H.sel [0, 1, 2, 3, 4] rfl rfl)) (hN.own H) (startS sbP) 2) ?_)
   rintro e w ⟨rfl, hb⟩
   replace H := H.grow hb; clear hb
   refine ⟨_, rfl, ?_⟩
   clear F a; intro a F
   refine eKeep (H.sel [6, 7, 8, 9, 10, 11, 12] rfl rfl) ?_
   refine eTakeF (k := 4) (i := 3) rfl (by kernel_rfl) F rfl rfl rfl (fun w => rMv F rfl) (H.sel [6, 7, 8, 9, 10, 11, 12] rfl rfl) (fun _ _ _ h => h) ?_;clear F a;intro a F
   refine eTakeF (k := 5) (i := 4) rfl (by kernel_rfl) F rfl rfl rfl (fun w => rExt F rfl rfl) (H.sel [6, 7, 8, 9, 10, 11, 12] rfl rfl) (fun _ _ _ h => h) ?_;clear F a;intro a F
   refine eTakeF (k := 6) (i := 5) rfl (by kernel_rfl) F rfl rfl rfl (fun w => rExt F rfl rfl) (H.sel [6, 7, 8, 9, 10, 11, 12] rfl rfl) (fun _ _ _ h => h) ?_;clear F a;intro a F
   exact eGo hJ (by kernel_rfl) _ ⟨b5, rfl, H.sel [5, 6, 7, 8, 9, 10, 11, 12] rfl rfl⟩ (F.to (by repeat (first | exact trivial | refine Le.cons rfl ?_)))
  clear F H; intro ups a w hI F
  obtain ⟨b5, rfl, H⟩ := hI
  refine eOne (k := 7) (i := 7) rfl (by kernel_rfl) F rfl (oSrB H 0 Tryd.sizeOf67 F rfl rfl rfl (by omega) ?_)
  clear H; intro w H
  rw [lay_all] at H
  refine ePartO (by kernel_rfl) H ?_
  refine eTakeF (k := 8) (i := 8) rfl (by kernel_rfl) F rfl rfl rfl (fun w => rAs F rfl) (H.sel [0, 1, 2, 3, 4, 5, 6, 7] rfl rfl) (fun _ _ _ h => h) ?_;clear F a;intro a F
  refine eNil (k := 9) (by kernel_rfl) ?_
  refine hK4 _ _ ?_; clear hK4
  refine cSeq (fun K5 hK5 => ?_)
  refine cRegRO (by kernel_rfl) H ?_
  replace H := H.drew
  refine eTakeF (k := 0) (i := 0) rfl (by kernel_rfl) F rfl rfl rfl (fun w => rMv F rfl) (H.sel [0, 1, 2, 3, 4, 5, 6, 7] rfl rfl) (fun _ _ _ h => h) ?_;clear F a;intro a F
  refine eTakeF (k := 1) (i := 1) rfl (by kernel_rfl) F rfl rfl rfl (fun w => rBin F rfl rfl bEql) (H.sel [0, 1, 2, 3, 4, 5, 6, 7] rfl rfl) (fun _ _ _ h => h) ?_;clear F a;intro a F
  refine eTakeF (k := 2) (i := 2) rfl (by kernel_rfl) F rfl rfl rfl (fun w => rMv F rfl) (H.sel [0, 1, 2, 3, 4, 5, 6, 7] rfl rfl) (fun _ _ _ h => h) ?_;clear F a;intro a F
  refine F.split 26 rfl ?_ ?_ <;> (clear F; intro h26 F)
  ·
   replace h26 := beqT h26
   refine eTakeF (k := 3) (i := 3) rfl (by kernel_rfl) F rfl rfl rfl (fun w => rMv F rfl) (H.sel [0, 1, 2, 3, 4, 5, 6, 7] rfl rfl) (fun _ _ _ h => h) ?_;clear F a;intro a F
   refine eTakeF (k := 4) (i := 4) rfl (by kernel_rfl) F rfl rfl rfl (fun w => rBin F rfl rfl bEql) (H.sel [0, 1, 2, 3, 4, 5, 6, 7] rfl rfl) (fun _ _ _ h => h) ?_;clear F a;intro a F
   refine eTakeF (k := 5) (i := 5) rfl (by kernel_rfl) F rfl rfl rfl (fun w => rPk F rfl rfl) (H.sel [0, 1, 2, 3, 4, 5, 6, 7] rfl rfl) (fun _ _ _ h => h) ?_;clear F a;intro a F
   refine eTakeF (k := 6) (i := 6) rfl (by kernel_rfl) F rfl rfl rfl (fun w => rMv F rfl) (H.sel [0, 1, 2, 3, 4, 5, 6, 7] rfl rfl) (fun _ _ _ h => h) ?_;clear F a;intro a F
   refine F.split 30 rfl ?_ ?_ <;> (clear F; intro h30 F)
   ·
    replace h30 := beqT h30
    refine eTakeF (k := 7) (i := 7) rfl (by kernel_rfl) F rfl rfl rfl (fun w => rFa (f := 0) (k := 0) Tryd.underlying59 rfl Tryd.sizeOf5 rfl rfl F rfl) (H.sel [0, 1, 2, 3, 4, 5, 6, 7] rfl rfl) (fun _ _ _ h => h) ?_;clear F a;intro a F
    refine eTake (k := 8) (i := 8) rfl (by kernel_rfl) F rfl rfl rfl rfl (fun w H => rLd Tryd.isAgg5 F rfl (H.cellB 1 rfl (by omega))) (H.sel [0, 1, 2, 3, 4, 5, 6, 7] rfl rfl) (fun _ _ _ h => h) ?_;clear F a;intro a F
    refine eTakeF (k := 9) (i := 9) rfl (by kernel_rfl) F rfl rfl rfl (fun w => rBin F rfl rfl (bEqlB (y := 4))) (H.sel [0, 1, 2, 3, 4, 5, 6, 7] rfl rfl) (fun _ _ _ h => h) ?_;clear F a;intro a F
    refine eTakeF (k := 10) (i := 10) rfl (by kernel_rfl) F rfl rfl rfl (fun w => rPk F rfl rfl) (H.sel [0, 1, 2, 3, 4, 5, 6, 7] rfl rfl) (fun _ _ _ h => h) ?_;clear F a;intro a F
    refine eTakeF (k := 11) (i := 11) rfl (by kernel_rfl) F rfl rfl rfl (fun w => rMv F rfl) (H.sel [0, 1, 2, 3, 4, 5, 6, 7] rfl rfl) (fun _ _ _ h => h) ?_;clear F a;intro a F
    refine F.split 35 rfl ?_ ?_ <;> (clear F; intro h35 F)
    ·
     replace h35 := beqT h35
     refine eTakeF (k := 12) (i := 12) rfl (by kernel_rfl) F rfl rfl rfl (fun w => rMv F rfl) (H.sel [0, 1, 2, 3, 4, 5, 6, 7] rfl rfl) (fun _ _ _ h => h) ?_;clear F a;intro a F
     refine eTakeF (k := 13) (i := 13) rfl (by kernel_rfl) F rfl rfl rfl (fun w => rPk F rfl rfl) (H.sel [0, 1, 2, 3, 4, 5, 6, 7] rfl rfl) (fun _ _ _ h => h) ?_;clear F a;intro a F
     refine eTakeF (k := 14) (i := 14) rfl (by kernel_rfl) F rfl rfl rfl (fun w => rMv F rfl) (H.sel [0, 1, 2, 3, 4, 5, 6, 7] rfl rfl) (fun _ _ _ h => h) ?_;clear F a;intro a F
     refine F.split 38 rfl ?_ ?_ <;> (clear F; intro h38 F)
     ·
      refine eTake (k := 15) (i := 16) rfl (by kernel_rfl) F rfl rfl rfl rfl (fun w H => rLrB Tryd.underlying67 rfl Tryd.sizeOf67 F rfl (H.whole 2 rfl)) (H.sel [0, 1, 2, 3, 4, 5, 6, 7] rfl rfl) (fun _ _ _ h => h) ?_;clear F a;intro a F
      refine eJoin F H [38] 19 [true, true, true, true, true, true, true, true, true, true, true, true, true, true, true, true, true, true, true, false, false, false, false, false, false, false, false, false, false, false, false, false, false, false, false, false, false] (fun rs ups w => ∃ A c b42, ups = [(41, .slice A (movesP sbP (startS sbP)).length c), (42, .slice (some ⟨b42, 0, none⟩) 2 2)] ∧ Own w0 none w ((.rws 3 1 (.slice A (movesP sbP (startS sbP)).length c) (intRows (movesP sbP (startS sbP)))) :: (.blk b42 [(Value.int IntKind.i64 0), (Value.int IntKind.i64 1)] 3) :: rs)) (by repeat (first | exact SubR.nil | (apply SubR.cons; · rfl))) ?_ (fun hJ => ?_)
      rotate_left
      ·
       refine eTwo (k := 16) (i := 15) (j := 18) (by kernel_rfl) F rfl rfl rfl rfl ?_ ?_
       ·
        refine oCall Tryd.call11 F rfl rfl (buffering_any _) ?_
        rintro e w ⟨z1, z2, z3, z4, z5, rfl, H2⟩
        replace H := H.join H2; clear H2
        refine ⟨_, rfl, ?_⟩
        clear F a; intro a F
        refine eKeep (H.sel [5, 6, 7, 8, 9, 10, 11, 12] rfl rfl) ?_
        refine eTwo (k := 17) (i := 17) (j := 18) (by kernel_rfl) F rfl rfl rfl rfl ?_ ?_
        ·
         refine oCall Tryd.call15 F rfl rfl (moves_any _ sbP _ (sb_prog (H.sel [0, 1, 2, 3, 4] rfl rfl)) (hN.own H) (startS sbP)) ?_
         rintro e w ⟨A, c, rfl, H2⟩
         replace H := H.join H2; clear H2
         refine ⟨_, rfl, ?_⟩
         clear F a; intro a F
         refine eKeep (H.sel [6, 7, 8, 9, 10, 11, 12, 13] rfl rfl) ?_
         refine eOne (k := 18) (i := 18) rfl (by kernel_rfl) F rfl (oBs H Tryd.underlying39 Tryd.sizeOf3 Tryd.zeroValue3 rfl F rfl rfl rfl rfl ?_)
         clear F a H; intro b42 a w F H
         refine eKeep (H.sel [7, 8, 9, 10, 11, 12, 13, 14] rfl rfl) ?_
         exact eGo hJ (by kernel_rfl) _ ⟨A, c, b42, rfl, H.sel [1, 0, 7, 8, 9, 10, 11, 12, 13, 14] rfl rfl⟩ (F.to (by repeat (first | exact trivial | refine Le.cons rfl ?_)))
        refine oBs H Tryd.underlying39 Tryd.sizeOf3 Tryd.zeroValue3 rfl F rfl rfl rfl rfl ?_
        clear F a H; intro b42 a w F H
        refine eKeep (H.sel [6, 7, 8, 9, 10, 11, 12, 13] rfl rfl) ?_
        refine eOne (k := 18) (i := 17) rfl (by kernel_rfl) F rfl (oCall Tryd.call15 F rfl rfl (moves_any _ sbP _ (sb_prog (H.sel [1, 2, 3, 4, 5] rfl rfl)) (hN.own H) (startS sbP)) ?_)
        rintro e w ⟨A, c, rfl, H2⟩
        replace H := H.join H2; clear H2
        refine ⟨_, rfl, ?_⟩
        clear F a; intro a F
        refine eKeep (H.sel [7, 8, 9, 10, 11, 12, 13, 14] rfl rfl) ?_
        exact eGo hJ (by kernel_rfl) _ ⟨A, c, b42, rfl, H.sel [0, 1, 7, 8, 9, 10, 11, 12, 13, 14] rfl rfl⟩ (F.to (by repeat (first | exact trivial | refine Le.cons rfl ?_)))
       refine oBs H Tryd.underlying39 Tryd.sizeOf3 Tryd.zeroValue3 rfl F rfl rfl rfl rfl ?_
       clear F a H; intro b42 a w F H
       refine eKeep (H.sel [1, 2, 3, 4, 5, 6, 7, 8] rfl rfl) ?_
       refine eOne (k := 17) (i := 15) rfl (by kernel_rfl) F rfl (oCall Tryd.call11 F rfl rfl (buffering_any _) ?_)
       rintro e w ⟨z1, z2, z3, z4, z5, rfl, H2⟩
       replace H := H.join H2; clear H2
       refine ⟨_, rfl, ?_⟩
       clear F a; intro a F
       refine eKeep (H.sel [6, 7, 8, 9, 10, 11, 12, 13] rfl rfl) ?_
       refine eOne (k := 18) (i := 17) rfl (by kernel_rfl) F rfl (oCall Tryd.call15 F rfl rfl (moves_any _ sbP _ (sb_prog (H.sel [0, 1, 2, 3, 4] rfl rfl)) (hN.own H) (startS sbP)) ?_)
       rintro e w ⟨A, c, rfl, H2⟩
       replace H := H.join H2; clear H2
       refine ⟨_, rfl, ?_⟩
       clear F a; intro a F
       refine eKeep (H.sel [7, 8, 9, 10, 11, 12, 13, 14] rfl rfl) ?_
       exact eGo hJ (by kernel_rfl) _ ⟨A, c, b42, rfl, H.sel [0, 6, 7, 8, 9, 10, 11, 12, 13, 14] rfl rfl⟩ (F.to (by repeat (first | exact trivial | refine Le.cons rfl ?_)))
      clear F H; intro ups a w hI F
      obtain ⟨A, c, b42, rfl, H⟩ := hI
      refine eOne (k := 19) (i := 19) rfl (by kernel_rfl) F rfl (oCall Tryd.call14 F rfl rfl (ints_any A _ c 2 _ [0, 1] _ (H.ints 0 rfl) (RowsAt.ofRange (sz := 1) (rows := intRows [0, 1]) (H.whole 1 rfl) (intRows_one _)) (by have := (H.rwsLen 0 rfl).2; simp only [maxLen] at this; omega) (by decide)) ?_)
      rintro e w ⟨rfl, hb⟩
      replace H := H.grow hb; clear hb
      refine ⟨_, rfl, ?_⟩
      clear F a; intro a F
      refine ePartO (by kernel_rfl) H ?_
      refine eTakeF (k := 20) (i := 20) rfl (by kernel_rfl) F rfl rfl rfl (fun w => rPk F rfl rfl) (H.sel [0, 1, 2, 3, 4, 5, 6, 7, 8, 9] rfl rfl) (fun _ _ _ h => h) ?_;clear F a;intro a F
      refine eTakeF (k := 21) (i := 21) rfl (by kernel_rfl) F rfl rfl rfl (fun w => rMv F rfl) (H.sel [0, 1, 2, 3, 4, 5, 6, 7, 8, 9] rfl rfl) (fun _ _ _ h => h) ?_;clear F a;intro a F
      refine F.split 45 rfl ?_ ?_ <;> (clear F; intro h45 F)
      ·
       refine eJoin F H [45] 24 [true, true, true, true, true, true, true, true, true, true, true, true, true, true, true, true, true, true, true, true, true, true, true, true, false, false, false, false, false, false, false, false, false, false, false, false, false] (fun rs ups w => ∃ b46 b47, ups = [(46, .slice (some ⟨b46, 0, none⟩) 2 2), (47, .slice (some ⟨b47, 0, none⟩) 4 4)] ∧ Own w0 none w ((.blk b46 [(Value.int IntKind.u8 0), (Value.int IntKind.u8 0)] 5) :: (.blk b47 [(Value.int IntKind.i64 0), (Value.int IntKind.i64 0), (Value.int IntKind.i64 1), (Value.int IntKind.i64 1)] 3) :: rs)) (by repeat (first | exact SubR.nil | (apply SubR.cons; · rfl))) ?_ (fun hJ => ?_)
       rotate_left
       ·
        refine eTwo (k := 22) (i := 22) (j := 23) (by kernel_rfl) F rfl rfl rfl rfl ?_ ?_
        ·
         refine oBs H Tryd.underlying23 Tryd.sizeOf5 Tryd.zeroValue5 rfl F rfl rfl rfl rfl ?_
         clear F a H; intro b46 a w F H
         refine eKeep (H.sel [1, 2, 3, 4, 5, 6, 7, 8, 9, 10] rfl rfl) ?_
         refine eOne (k := 23) (i := 23) rfl (by kernel_rfl) F rfl (oBs H Tryd.underlying39 Tryd.sizeOf3 Tryd.zeroValue3 rfl F rfl rfl rfl rfl ?_)
         clear F a H; intro b47 a w F H
         refine eKeep (H.sel [2, 3, 4, 5, 6, 7, 8, 9, 10, 11] rfl rfl) ?_
         exact eGo hJ (by kernel_rfl) _ ⟨b46, b47, rfl, H.sel [1, 0, 2, 3, 4, 5, 6, 7, 8, 9, 10, 11] rfl rfl⟩ (F.to (by repeat (first | exact trivial | refine Le.cons rfl ?_)))
        refine oBs H Tryd.underlying39 Tryd.sizeOf3 Tryd.zeroValue3 rfl F rfl rfl rfl rfl ?_
        clear F a H; intro b47 a w F H
        refine eKeep (H.sel [1, 2, 3, 4, 5, 6, 7, 8, 9, 10] rfl rfl) ?_
        refine eOne (k := 23) (i := 22) rfl (by kernel_rfl) F rfl (oBs H Tryd.underlying23 Tryd.sizeOf5 Tryd.zeroValue5 rfl F rfl rfl rfl rfl ?_)
        clear F a H; intro b46 a w F H
        refine eKeep (H.sel [2, 3, 4, 5, 6, 7, 8, 9, 10, 11] rfl rfl) ?_
        exact eGo hJ (by kernel_rfl) _ ⟨b46, b47, rfl, H.sel [0, 1, 2, 3, 4, 5, 6, 7, 8, 9, 10, 11] rfl rfl⟩ (F.to (by repeat (first | exact trivial | refine Le.cons rfl ?_)))
       clear F H; intro ups a w hI F
       obtain ⟨b46, b47, rfl, H⟩ := hI
       refine eOne (k := 24) (i := 24) rfl (by kernel_rfl) F rfl (oCall Tryd.call16 F rfl rfl (plays_any _ 2 [0, 0] 0 1 _ 4 [0, 0, 1, 1] _ (hN.own H) (RowsAt.ofRange (sz := 1) (rows := [[b8 0], [b8 0]]) (H.whole 0 rfl) (by simp)) (by decide) (RowsAt.ofRange (sz := 1) (rows := intRows [0, 0, 1, 1]) (H.whole 1 rfl) (intRows_one _)) (by decide)) ?_)
       rintro e w ⟨rfl, hb⟩
       replace H := H.grow hb; clear hb
       refine ⟨_, rfl, ?_⟩
       clear F a; intro a F
       refine ePartO (by kernel_rfl) H ?_
       refine eTakeF (k := 25) (i := 25) rfl (by kernel_rfl) F rfl rfl rfl (fun w => rPk F rfl rfl) (H.sel [0, 1, 2, 3, 4, 5, 6, 7, 8, 9, 10, 11] rfl rfl) (fun _ _ _ h => h) ?_;clear F a;intro a F
       refine eTakeF (k := 26) (i := 26) rfl (by kernel_rfl) F rfl rfl rfl (fun w => rMv F rfl) (H.sel [0, 1, 2, 3, 4, 5, 6, 7, 8, 9, 10, 11] rfl rfl) (fun _ _ _ h => h) ?_;clear F a;intro a F
       refine F.split 50 rfl ?_ ?_ <;> (clear F; intro h50 F)
       ·
        refine eJoin F H [50] 29 [true, true, true, true, true, true, true, true, true, true, true, true, true, true, true, true, true, true, true, true, true, true, true, true, true, true, true, true, true, false, false, false, false, false, false, false, false] (fun rs ups w => ∃ b51 b52, ups = [(51, .slice (some ⟨b51, 0, none⟩) 2 2), (52, .slice (some ⟨b52, 0, none⟩) 4 4)] ∧ Own w0 none w ((.blk b51 [(Value.int IntKind.u8 0), (Value.int IntKind.u8 1)] 5) :: (.blk b52 [(Value.int IntKind.i64 0), (Value.int IntKind.i64 1), (Value.int IntKind.i64 0), (Value.int IntKind.i64 1)] 3) :: rs)) (by repeat (first | exact SubR.nil | (apply SubR.cons; · rfl))) ?_ (fun hJ => ?_)
        rotate_left
        ·
         refine eTwo (k := 27) (i := 27) (j := 28) (by kernel_rfl) F rfl rfl rfl rfl ?_ ?_
         ·
          refine oBs H Tryd.underlying23 Tryd.sizeOf5 Tryd.zeroValue5 rfl F rfl rfl rfl rfl ?_
          clear F a H; intro b51 a w F H
          refine eKeep (H.sel [1, 2, 3, 4, 5, 6, 7, 8, 9, 10, 11, 12] rfl rfl) ?_
          refine eOne (k := 28) (i := 28) rfl (by kernel_rfl) F rfl (oBs H Tryd.underlying39 Tryd.sizeOf3 Tryd.zeroValue3 rfl F rfl rfl rfl rfl ?_)
          clear F a H; intro b52 a w F H
          refine eKeep (H.sel [2, 3, 4, 5, 6, 7, 8, 9, 10, 11, 12, 13] rfl rfl) ?_
          exact eGo hJ (by kernel_rfl) _ ⟨b51, b52, rfl, H.sel [1, 0, 2, 3, 4, 5, 6, 7, 8, 9, 10, 11, 12, 13] rfl rfl⟩ (F.to (by repeat (first | exact trivial | refine Le.cons rfl ?_)))
         refine oBs H Tryd.underlying39 Tryd.sizeOf3 Tryd.zeroValue3 rfl F rfl rfl rfl rfl ?_
         clear F a H; intro b52 a w F H
         refine eKeep (H.sel [1, 2, 3, 4, 5, 6, 7, 8, 9, 10, 11, 12] rfl rfl) ?_
         refine eOne (k := 28) (i := 27) rfl (by kernel_rfl) F rfl (oBs H Tryd.underlying23 Tryd.sizeOf5 Tryd.zeroValue5 rfl F rfl rfl rfl rfl ?_)
         clear F a H; intro b51 a w F H
         refine eKeep (H.sel [2, 3, 4, 5, 6, 7, 8, 9, 10, 11, 12, 13] rfl rfl) ?_
         exact eGo hJ (by kernel_rfl) _ ⟨b51, b52, rfl, H.sel [0, 1, 2, 3, 4, 5, 6, 7, 8, 9, 10, 11, 12, 13] rfl rfl⟩ (F.to (by repeat (first | exact trivial | refine Le.cons rfl ?_)))
        clear F H; intro ups a w hI F
        obtain ⟨b51, b52, rfl, H⟩ := hI
        refine eOne (k := 29) (i := 29) rfl (by kernel_rfl) F rfl (oCall Tryd.call16 F rfl rfl (plays_any _ 2 [0, 1] 1 1 _ 4 [0, 1, 0, 1] _ (hN.own H) (RowsAt.ofRange (sz := 1) (rows := [[b8 0], [b8 1]]) (H.whole 0 rfl) (by simp)) (by decide) (RowsAt.ofRange (sz := 1) (rows := intRows [0, 1, 0, 1]) (H.whole 1 rfl) (intRows_one _)) (by decide)) ?_)
        rintro e w ⟨rfl, hb⟩
        replace H := H.grow hb; clear hb
        refine ⟨_, rfl, ?_⟩
        clear F a; intro a F
        refine ePartO (by kernel_rfl) H ?_
        refine eTakeF (k := 30) (i := 30) rfl (by kernel_rfl) F rfl rfl rfl (fun w => rPk F rfl rfl) (H.sel [0, 1, 2, 3, 4, 5, 6, 7, 8, 9, 10, 11, 12, 13] rfl rfl) (fun _ _ _ h => h) ?_;clear F a;intro a F
        refine eTakeF (k := 31) (i := 31) rfl (by kernel_rfl) F rfl rfl rfl (fun w => rMv F rfl) (H.sel [0, 1, 2, 3, 4, 5, 6, 7, 8, 9, 10, 11, 12, 13] rfl rfl) (fun _ _ _ h => h) ?_;clear F a;intro a F
        refine F.split 55 rfl ?_ ?_ <;> (clear F; intro h55 F)
        ·
         refine eJoin F H [55] 34 [true, true, true, true, true, true, true, true, true, true, true, true, true, true, true, true, true, true, true, true, true, true, true, true, true, true, true, true, true, true, true, true, true, true, false, false, false] (fun rs ups w => ∃ b56 b57, ups = [(56, .slice (some ⟨b56, 0, none⟩) 2 2), (57, .slice (some ⟨b57, 0, none⟩) 4 4)] ∧ Own w0 none w ((.blk b56 [(Value.int IntKind.u8 1), (Value.int IntKind.u8 1)] 5) :: (.blk b57 [(Value.int IntKind.i64 1), (Value.int IntKind.i64 1), (Value.int IntKind.i64 0), (Value.int IntKind.i64 0)] 3) :: rs)) (by repeat (first | exact SubR.nil | (apply SubR.cons; · rfl))) ?_ (fun hJ => ?_)
         rotate_left
         ·
          refine eTwo (k := 32) (i := 32) (j := 33) (by kernel_rfl) F rfl rfl rfl rfl ?_ ?_
          ·
           refine oBs H Tryd.underlying23 Tryd.sizeOf5 Tryd.zeroValue5 rfl F rfl rfl rfl rfl ?_
           clear F a H; intro b56 a w F H
           refine eKeep (H.sel [1, 2, 3, 4, 5, 6, 7, 8, 9, 10, 11, 12, 13, 14] rfl rfl) ?_
           refine eOne (k := 33) (i := 33) rfl (by kernel_rfl) F rfl (oBs H Tryd.underlying39 Tryd.sizeOf3 Tryd.zeroValue3 rfl F rfl rfl rfl rfl ?_)
           clear F a H; intro b57 a w F H
           refine eKeep (H.sel [2, 3, 4, 5, 6, 7, 8, 9, 10, 11, 12, 13, 14, 15] rfl rfl) ?_
           exact eGo hJ (by kernel_rfl) _ ⟨b56, b57, rfl, H.sel [1, 0, 2, 3, 4, 5, 6, 7, 8, 9, 10, 11, 12, 13, 14, 15] rfl rfl⟩ (F.to (by repeat (first | exact trivial | refine Le.cons rfl ?_)))
          refine oBs H Tryd.underlying39 Tryd.sizeOf3 Tryd.zeroValue3 rfl F rfl rfl rfl rfl ?_
          clear F a H; intro b57 a w F H
          refine eKeep (H.sel [1, 2, 3, 4, 5, 6, 7, 8, 9, 10, 11, 12, 13, 14] rfl rfl) ?_
          refine eOne (k := 33) (i := 32) rfl (by kernel_rfl) F rfl (oBs H Tryd.underlying23 Tryd.sizeOf5 Tryd.zeroValue5 rfl F rfl rfl rfl rfl ?_)
          clear F a H; intro b56 a w F H
          refine eKeep (H.sel [2, 3, 4, 5, 6, 7, 8, 9, 10, 11, 12, 13, 14, 15] rfl rfl) ?_
          exact eGo hJ (by kernel_rfl) _ ⟨b56, b57, rfl, H.sel [0, 1, 2, 3, 4, 5, 6, 7, 8, 9, 10, 11, 12, 13, 14, 15] rfl rfl⟩ (F.to (by repeat (first | exact trivial | refine Le.cons rfl ?_)))
         clear F H; intro ups a w hI F
         obtain ⟨b56, b57, rfl, H⟩ := hI
         refine eOne (k := 34) (i := 34) rfl (by kernel_rfl) F rfl (oCall Tryd.call16 F rfl rfl (plays_any _ 2 [1, 1] 1 0 _ 4 [1, 1, 0, 0] _ (hN.own H) (RowsAt.ofRange (sz := 1) (rows := [[b8 1], [b8 1]]) (H.whole 0 rfl) (by simp)) (by decide) (RowsAt.ofRange (sz := 1) (rows := intRows [1, 1, 0, 0]) (H.whole 1 rfl) (intRows_one _)) (by decide)) ?_)
         rintro e w ⟨rfl, hb⟩
         replace H := H.grow hb; clear hb
         refine ⟨_, rfl, ?_⟩
         clear F a; intro a F
         refine ePartO (by kernel_rfl) H ?_
         refine eTakeF (k := 35) (i := 35) rfl (by kernel_rfl) F rfl rfl rfl (fun w => rPk F rfl rfl) (H.sel [0, 1, 2, 3, 4, 5, 6, 7, 8, 9, 10, 11, 12, 13, 14, 15] rfl rfl) (fun _ _ _ h => h) ?_;clear F a;intro a F
         refine eTakeF (k := 36) (i := 36) rfl (by kernel_rfl) F rfl rfl rfl (fun w => rAs F rfl) (H.sel [0, 1, 2, 3, 4, 5, 6, 7, 8, 9, 10, 11, 12, 13, 14, 15] rfl rfl) (fun _ _ _ h => h) ?_;clear F a;intro a F
         refine eNil (k := 37) (by kernel_rfl) ?_
         refine hK5 _ _ ?_; clear hK5
         refine wp_ret ?_
         refine bRet Tryd.results5 F rfl ?_
         exact ⟨retB (by kernel_rfl), H.below⟩
        exact notEq (by kernel_rfl) h55
       exact notEq (by kernel_rfl) h50
      exact notEq (by kernel_rfl) h45
     exact notEq (by kernel_rfl) h38
    replace h35 := beqF h35
    exact absurd (by kernel_rfl) h35
   replace h30 := beqF h30
   exact absurd (by kernel_rfl) h30
  replace h26 := beqF h26
  exact absurd (by kernel_rfl) h26
end Go.Proofs.YtklpiodciblabaaDoor
