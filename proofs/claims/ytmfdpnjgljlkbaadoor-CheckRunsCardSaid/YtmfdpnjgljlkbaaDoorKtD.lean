/-
  WALK2. seisinkit: SizeCond. Conditions: the condition lies in memory, its slices within their capacities.
-/
import Derived.Test.YtmfdpnjgljlkbaaDoorTrQ
import Derived.Test.YtmfdpnjgljlkbaaDoorKtB
import Derived.Test.YtmfdpnjgljlkbaaDoorDpC
import Derived.Test.YtmfdpnjgljlkbaaDoorCapC
set_option linter.unusedSimpArgs false
set_option linter.unusedVariables false
namespace Go.Proofs.YtmfdpnjgljlkbaaDoor
open Go.RowKit
set_option maxRecDepth 100000

mutual
def sizeC : Cnd → Nat
  | .mk _ _ _ _ l => sizeL l + 1
def sizeL : List Cnd → Nat
  | [] => 0
  | c :: r => sizeC c + sizeL r
end
theorem sizeL_append : ∀ (a b : List Cnd), sizeL (a ++ b) = sizeL a + sizeL b
  | [], b => by simp [sizeL]
  | c :: r, b => by simp [sizeL, sizeL_append r b]; omega
mutual
theorem deep_size : ∀ c : Cnd, deepC c ≤ sizeC c
  | .mk _ _ _ _ l => by simp only [deepC, sizeC]; have := deepL_size l; omega
theorem deepL_size : ∀ l : List Cnd, deepL l ≤ sizeL l
  | [] => Nat.le_refl _
  | c :: r => by simp only [deepL, sizeL]; have := deep_size c; have := deepL_size r; omega
end
/-- Rows that are conditions. -/
structure Trees (w : World) (rows : List (List Value)) (cs : List Cnd) : Prop where
  len : rows.length = cs.length
  each : ∀ (j : Nat) (r : List Value) (c : Cnd), rows[j]? = some r → cs[j]? = some c → ∃ h, CapAt w h r c
theorem Trees.add {w : World} {ra rb : List (List Value)} {ca cb : List Cnd} (ha : Trees w ra ca) (hb : Trees w rb cb) : Trees w (ra ++ rb) (ca ++ cb) where
  len := by simp [ha.len, hb.len]
  each := fun j r c h1 h2 => by
    rcases Nat.lt_or_ge j ra.length with hj | hj
    · rw [List.getElem?_append_left hj] at h1
      rw [List.getElem?_append_left (by rw [← ha.len]; exact hj)] at h2
      exact ha.each j r c h1 h2
    · rw [List.getElem?_append_right hj] at h1
      rw [List.getElem?_append_right (by rw [← ha.len]; exact hj), ← ha.len] at h2
      exact hb.each _ r c h1 h2
theorem Trees.take {w : World} {ra : List (List Value)} {ca : List Cnd} (ha : Trees w ra ca) (n : Nat) : Trees w (ra.take n) (ca.take n) where
  len := by simp [ha.len]
  each := fun j r c h1 h2 => by
    rw [List.getElem?_take] at h1 h2
    split at h1
    · rename_i hj
      rw [if_pos hj] at h2
      exact ha.each j r c h1 h2
    · cases h1
theorem Trees.one {w : World} {h : Nat} {r : List Value} {c : Cnd} (hc : CapAt w h r c) : Trees w [r] [c] where
  len := rfl
  each := fun j r' c' h1 h2 => by
    match j with
    | 0 => cases h1; cases h2; exact ⟨h, hc⟩
    | j + 1 => simp at h1
theorem Trees.shape {w : World} {rows : List (List Value)} {cs : List Cnd} (hT : Trees w rows cs) : ∀ r ∈ rows, r.length = 5 ∧ r.all (·.oneCell') = true := fun r hr => by
  obtain ⟨j, hj⟩ := List.mem_iff_getElem?.1 hr
  have hjl := (List.getElem?_eq_some_iff.1 hj).1
  obtain ⟨h, hc⟩ := hT.each j r (cs[j]'(by rw [← hT.len]; exact hjl)) hj (List.getElem?_eq_getElem _)
  obtain ⟨k, t, n, v, A, m, C, rfl⟩ := condShape hc.at
  exact ⟨rfl, rfl⟩
theorem RowsAt.taken {w : World} {A : Option Addr} {sz : Nat} {rows : List (List Value)} (h : RowsAt w A sz rows) (n : Nat) : RowsAt w A sz (rows.take n) := fun j cs hj => by
  rw [List.getElem?_take] at hj
  split at hj
  · exact h j cs hj
  · cases hj
/-- The kids of a condition, as rows. -/
theorem kidRows {w : World} {h : Nat} {A : Option Addr} {kids : List Cnd} (hk : ∀ j kid, kids[j]? = some kid → ∃ b off cs', A = some ⟨b, off, none⟩ ∧ w.rangeAt b (off + j * 5) cs' ∧ CapAt w h cs' kid) :
    ∃ rows, RowsAt w A 5 rows ∧ Trees w rows kids := by
  suffices key : ∀ n, n ≤ kids.length → ∃ rows : List (List Value), rows.length = n ∧ ∀ j r, rows[j]? = some r → ∃ kid b off, kids[j]? = some kid ∧ A = some ⟨b, off, none⟩ ∧ w.rangeAt b (off + j * 5) r ∧ CapAt w h r kid by
    obtain ⟨rows, hl, hr⟩ := key kids.length (Nat.le_refl _)
    refine ⟨rows, fun j r hj => ?_, ⟨hl, fun j r c h1 h2 => ?_⟩⟩
    · obtain ⟨_, b, off, _, h1, h2, _⟩ := hr j r hj
      exact ⟨b, off, h1, h2⟩
    · obtain ⟨kid, _, _, h3, _, _, h4⟩ := hr j r h1
      rw [h2] at h3
      cases h3
      exact ⟨h, h4⟩
  intro n
  induction n with
  | zero => exact fun _ => ⟨[], rfl, fun j r h => by simp at h⟩
  | succ n ih =>
    intro hn
    obtain ⟨rows, hl, hr⟩ := ih (by omega)
    obtain ⟨b, off, cs', h1, h2, h3⟩ := hk n (kids[n]'(by omega)) (List.getElem?_eq_getElem _)
    refine ⟨rows ++ [cs'], by simp [hl], fun j r hj => ?_⟩
    rcases Nat.lt_or_ge j n with hjn | hjn
    · rw [List.getElem?_append_left (by omega)] at hj
      exact hr j r hj
    · rw [List.getElem?_append_right (by omega)] at hj
      obtain rfl : j = n := by
        rcases Nat.eq_or_lt_of_le hjn with e | e
        · exact e.symm
        · rw [List.getElem?_eq_none (by simp; omega)] at hj; cases hj
      rw [hl, Nat.sub_self] at hj
      cases hj
      exact ⟨_, b, off, List.getElem?_eq_getElem (by omega), h1, h2, h3⟩
theorem Own.rowsOf {w0 w : World} {row : Option Nat} {rs : List Res} {b sz : Nat} {e : TypeId} {rows : List (List Value)} (H : Own w0 row w (.blk b rows.flatten e :: rs)) (hl : rows.flatten.length = rows.length * sz) (hm : rows.length ≤ maxLen) :
    Own w0 row w (.rws e sz (.slice (some ⟨b, 0, .none⟩) rows.length rows.length) rows :: rs) :=
  H.seen _ (show w.ownsRow 0 e sz (.slice (some ⟨b, 0, .none⟩) rows.length rows.length) rows.length rows.flatten from ⟨hl, .inr ⟨b, rows.length, rows.flatten.toArray, rfl, Nat.zero_le _, H.blk 0 rfl, Nat.le_refl _, hm, by simpa using hl, by rw [← hl]; exact List.take_length⟩⟩)
    (fun c hc => by
      have : b = c := by simpa [Res.rws, Res.arr, Value.ownBlock] using hc
      exact this.symm)
set_option maxHeartbeats 4000000 in
theorem sizeCond_any (h most : Nat) (ccs : List Value) (c : Cnd) (w0 : World) (hc : CapAt w0 h ccs c) (hm : 0 < most) (hm2 : most ≤ 1000000) :
    Calls Tryd.prog 7 #[.agg ccs.toArray, .int .i64 (most : Int)] w0 fun e w' => ∃ n : Nat, e = .returned (.int .i64 (n : Int)) ∧ n ≤ most ∧ (n < most → sizeC c = n) ∧ Below w0.heap.size w0 w' := by
  obtain ⟨c1, c2, c3, c4, A9, m9, C9, rfl⟩ := condShape hc.at
  have H := Own.start w0 none
  refine enterF Tryd.func7 rfl Tryd.ntmps7 rfl (fun a F => ?_)
  refine cSeq (fun K1 hK1 => ?_)
  refine cReg ?_
  refine sBx H F rfl rfl rfl ?_
  clear F a H; intro b2 a w F H
  refine sAs F rfl rfl rfl ?_;clear F a;intro a F
  refine sNil ?_
  refine hK1 _ _ ?_; clear hK1
  refine cSeq (fun K2 hK2 => ?_)
  refine cReg ?_
  refine sLr Tryd.underlying25 rfl ?si F rfl rfl rfl (H.whole 0 rfl) ?_
  case si => exact info_size Tryd.sizeOf25
  clear F a; intro a F
  refine sBsR (rows := [[Go.Proofs.YtmfdpnjgljlkbaaDoor.b8 c1, Go.Proofs.YtmfdpnjgljlkbaaDoor.b8 c2, Go.Proofs.YtmfdpnjgljlkbaaDoor.b8 c3, Go.Proofs.YtmfdpnjgljlkbaaDoor.b8 c4, .slice A9 m9 C9]]) H Tryd.underlying23 Tryd.sizeOf25 Tryd.zeroValue25 rfl F rfl rfl rfl rfl rfl ?_
  clear F a H; intro b8 a w F H
  refine sAs F rfl rfl rfl ?_;clear F a;intro a F
  refine sNil ?_
  refine hK2 _ _ ?_; clear hK2
  refine cSeq (fun K3 hK3 => ?_)
  refine cSeq (fun K4 hK4 => ?_)
  refine cReg ?_
  refine sAs F rfl rfl rfl ?_;clear F a;intro a F
  refine sNil ?_
  refine hK4 _ _ ?_; clear hK4
  refine wp_block ?_
  refine cLoopR [1] (fun m ups w => ∃ (i : Nat) (A5 : Option Addr) (k5 : Nat) (rows : List (List Value)) (cs : List Cnd), m = most - i ∧ ups = [(5, .slice A5 rows.length k5), (6, .int .i64 ((i : Nat) : Int))] ∧ Trees w0 rows cs ∧ i ≤ rows.length ∧ i ≤ most ∧ (rows.length < most → sizeC c = i + sizeL (cs.drop i)) ∧ rows.length ≤ 2 * most ∧ Own w0 none w [.rws 25 5 (.slice A5 rows.length k5) rows]) F (most) [(5, .slice (some ⟨b8, 0, none⟩) 1 1), (6, .int .i64 ((0 : Nat) : Int))] (by repeat (first | exact SubR.nil | (apply SubR.cons; · rfl))) ?_ ?_ ?_
  · exact ⟨0, some ⟨b8, 0, none⟩, 1, [_], [c], rfl, rfl, .one hc, by simp, by omega, fun _ => by simp [sizeL], by simp; omega, (H.pick 0 rfl).rowsOf (rows := [_]) rfl (show 1 ≤ maxLen by decide)⟩
  · repeat (first | exact trivial | refine Le.cons rfl ?_)
  clear F
  clear H
  intro m ups a w hI F
  obtain ⟨i, A5, k5, rows, cs, rfl, rfl, hT, hi, him, hs, hb, H⟩ := hI
  have hsh := hT.shape
  refine cSeq (fun K5 hK5 => ?_)
  refine cSeq (fun K6 hK6 => ?_)
  refine cReg ?_
  refine sMv F rfl rfl rfl ?_;clear F a;intro a F
  refine sMv F rfl rfl rfl ?_;clear F a;intro a F
  refine sLen Tryd.underlying23 F rfl rfl rfl ?_;clear F a;intro a F
  refine sBin F rfl rfl rfl rfl bLss ?_;clear F a;intro a F
  refine sMv F rfl rfl rfl ?_;clear F a;intro a F
  refine F.split 13 rfl ?_ ?_ <;> (clear F; intro h13 F)
  ·
   replace h13 := of_decide_eq_true h13
   refine sMv F rfl rfl rfl ?_;clear F a;intro a F
   refine sLen Tryd.underlying23 F rfl rfl rfl ?_;clear F a;intro a F
   refine sMv F rfl rfl rfl ?_;clear F a;intro a F
   refine sBin F rfl rfl rfl rfl bLss ?_;clear F a;intro a F
   refine sPk F rfl rfl rfl rfl ?_;clear F a;intro a F
   refine sNil ?_
   refine hK6 _ _ ?_; clear hK6
   refine cIf F rfl (fun h18 => ?_) (fun h18 => ?_)
   ·
    replace h18 := of_decide_eq_true h18
    have hil : i < rows.length := by omega
    obtain ⟨r, hr⟩ : ∃ r, rows[i]? = some r := ⟨_, List.getElem?_eq_getElem hil⟩
    obtain ⟨x, hx⟩ : ∃ x, cs[i]? = some x := ⟨_, List.getElem?_eq_getElem (by rw [← hT.len]; exact hil)⟩
    obtain ⟨h9, hc9⟩ := hT.each i r x hr hx
    obtain ⟨k', t', n', v', kids⟩ := x
    obtain ⟨h9, rfl⟩ : ∃ q, h9 = q + 1 := by
     cases h9 with
     | zero => exact hc9.elim
     | succ q => exact ⟨q, rfl⟩
    obtain ⟨KA, KC, rfl, hk1, hk2, hk3⟩ := hc9
    obtain ⟨krows, hkr, hkt⟩ := kidRows hk3
    have hksh := hkt.shape
    have hkl := hkt.len
    obtain ⟨bR, oR, rfl, _⟩ := H.rowsAt 0 rfl (fun r hr => (hsh r hr).1) (by decide) i _ hr
    have hrow : ∀ w, Own w0 none w [.rws 25 5 (.slice (some ⟨bR, oR, none⟩) rows.length k5) rows] → w.rangeAt bR (oR + i * 5) [Go.Proofs.YtmfdpnjgljlkbaaDoor.b8 k', Go.Proofs.YtmfdpnjgljlkbaaDoor.b8 t', Go.Proofs.YtmfdpnjgljlkbaaDoor.b8 n', Go.Proofs.YtmfdpnjgljlkbaaDoor.b8 v', .slice KA kids.length KC] := fun w H => by
     obtain ⟨_, _, he, hq⟩ := H.rowsAt 0 rfl (fun r hr => (hsh r hr).1) (by decide) i _ hr
     cases he
     exact hq
    refine wp_skip ?_
    refine hK5 _ _ ?_; clear hK5
    refine cSeq (fun K7 hK7 => ?_)
    refine wp_block ?_
    refine cRegRO (by kernel_rfl) H ?_
    replace H := H.drew
    refine eTakeF (k := 0) (i := 0) rfl (by kernel_rfl) F rfl rfl rfl (fun w => rMv F rfl) H (fun _ _ _ h => h) ?_;clear F a;intro a F
    refine eTakeF (k := 1) (i := 1) rfl (by kernel_rfl) F rfl rfl rfl (fun w => rMv F rfl) H (fun _ _ _ h => h) ?_;clear F a;intro a F
    refine eTakeF (k := 2) (i := 2) rfl (by kernel_rfl) F rfl rfl rfl (fun w => rMv F rfl) H (fun _ _ _ h => h) ?_;clear F a;intro a F
    refine eTakeF (k := 3) (i := 3) rfl (by kernel_rfl) F rfl rfl rfl (fun w => rIx Tryd.underlying23 Tryd.sizeOf25 F rfl rfl ?_) H (fun _ _ _ h => h) ?_
    focus (first | omega | decide | (simp; omega))
    clear F a; intro a F
    refine eTakeF (k := 4) (i := 4) rfl (by kernel_rfl) F rfl rfl rfl (fun w => rFa (f := 4) (k := _ + 4) Tryd.underlying25 rfl Tryd.sizeOf23 rfl rfl F rfl) H (fun _ _ _ h => h) ?_;clear F a;intro a F
    refine eTake (k := 5) (i := 5) rfl (by kernel_rfl) F rfl rfl rfl rfl (fun w H => rLd Tryd.isAgg23 F rfl (hrow _ H 4 _ rfl)) H (fun _ _ _ h => h) ?_;clear F a;intro a F
    refine eTakeF (k := 6) (i := 6) rfl (by kernel_rfl) F rfl rfl rfl (fun w => rMv F rfl) H (fun _ _ _ h => h) ?_;clear F a;intro a F
    refine eTakeF (k := 7) (i := 7) rfl (by kernel_rfl) F rfl rfl rfl (fun w => rMv F rfl) H (fun _ _ _ h => h) ?_;clear F a;intro a F
    refine eTakeF (k := 8) (i := 8) rfl (by kernel_rfl) F rfl rfl rfl (fun w => rIx Tryd.underlying23 Tryd.sizeOf25 F rfl rfl ?_) H (fun _ _ _ h => h) ?_
    focus (first | omega | decide | (simp; omega))
    clear F a; intro a F
    refine eTakeF (k := 9) (i := 9) rfl (by kernel_rfl) F rfl rfl rfl (fun w => rFa (f := 4) (k := _ + 4) Tryd.underlying25 rfl Tryd.sizeOf23 rfl rfl F rfl) H (fun _ _ _ h => h) ?_;clear F a;intro a F
    refine eTake (k := 10) (i := 10) rfl (by kernel_rfl) F rfl rfl rfl rfl (fun w H => rLd Tryd.isAgg23 F rfl (hrow _ H 4 _ rfl)) H (fun _ _ _ h => h) ?_;clear F a;intro a F
    refine eTake (k := 11) (i := 11) rfl (by kernel_rfl) F rfl rfl rfl rfl (fun w H => rLen Tryd.underlying23 F rfl) H (fun _ _ _ h => h) ?_;clear F a;intro a F
    refine eTakeF (k := 12) (i := 12) rfl (by kernel_rfl) F rfl rfl rfl (fun w => rMv F rfl) H (fun _ _ _ h => h) ?_;clear F a;intro a F
    refine eTake (k := 13) (i := 13) rfl (by kernel_rfl) F rfl rfl rfl rfl (fun w H => rMinN F rfl rfl) H (fun _ _ _ h => h) ?_;clear F a;intro a F
    refine eTake (k := 14) (i := 14) rfl (by kernel_rfl) F rfl rfl rfl rfl (fun w H => rSlH Tryd.underlying23 (fun w => ⟨_, Tryd.sizeOf25 w⟩) F rfl rfl ?_) H (fun _ _ _ h => h) ?_
    focus (first | omega | decide | (simp; omega))
    clear F a; intro a F
    refine eOne (k := 15) (i := 15) rfl (by kernel_rfl) F rfl (oAppO (bytes := 32) (sz := 5) H 0 Tryd.underlying23 Tryd.typeInfo25 rfl rfl rfl rfl rfl rfl F rfl rfl rfl rfl ?hm (((hkr.taken (min kids.length most)).own H)) ((fun r hr => (hksh r (List.mem_of_mem_take hr)).1)) ((fun r hr => (hksh r (List.mem_of_mem_take hr)).2)) ?hb ?_)
    case hm => first | rfl | (simp; done) | omega | (simp only [List.length_take, List.length_map]; omega) | (simp; omega)
    case hb => exact ((by omega))
    clear F a H; intro A36 c36 a w F H
    refine ePartO (by kernel_rfl) H ?_
    refine eTakeF (k := 16) (i := 16) rfl (by kernel_rfl) F rfl rfl rfl (fun w => rAs F rfl) H (fun _ _ _ h => h) ?_;clear F a;intro a F
    refine eNil (k := 17) (by kernel_rfl) ?_
    refine hK7 _ _ ?_; clear hK7
    refine cReg ?_
    refine sMv F rfl rfl rfl ?_;clear F a;intro a F
    refine sBin F rfl rfl rfl rfl (bAddN (j := 1) ?_) ?_
    focus omega
    clear F a; intro a F
    refine sAs F rfl rfl rfl ?_;clear F a;intro a F
    refine sNil ?_
    (have e : (rows ++ krows.take (min kids.length most)).length = rows.length + min kids.length most := by rw [List.length_append, List.length_take]; omega
     have hq : (rows ++ krows.take (min kids.length most)).length < most → sizeC c = i + 1 + sizeL ((cs ++ kids.take (min kids.length most)).drop (i + 1)) := fun hlt => by
      have e1 := hs (by omega)
      have hic := (List.getElem?_eq_some_iff.1 hx).1
      rw [(List.drop_eq_getElem_cons hic), (List.getElem?_eq_some_iff.1 hx).2] at e1
      rw [List.take_of_length_le (by omega), List.drop_append_of_le_length (by omega), sizeL_append, e1, sizeL, sizeC]
      omega
     exact ⟨_, by omega, _, ⟨i + 1, A36, c36, _, _, rfl, rfl, hT.add (hkt.take _), by omega, by omega, hq, by omega, H.sel [0] rfl rfl⟩, F.to (by repeat (first | exact trivial | refine Le.cons rfl ?_))⟩)
   replace h18 := of_decide_eq_false h18
   refine wp_exit ?_
   refine hK3 _ _ ?_; clear hK3
   refine cSeq (fun K8 hK8 => ?_)
   refine cReg ?_
   refine sMv F rfl rfl rfl ?_;clear F a;intro a F
   refine sLen Tryd.underlying23 F rfl rfl rfl ?_;clear F a;intro a F
   refine sMv F rfl rfl rfl ?_;clear F a;intro a F
   refine sMinN F rfl rfl rfl rfl ?_;clear F a;intro a F
   refine sAs F rfl rfl rfl ?_;clear F a;intro a F
   refine sNil ?_
   refine hK8 _ _ ?_; clear hK8
   refine wp_ret ?_
   refine bRet Tryd.results7 F rfl ?_
   refine ⟨min rows.length most, rfl, by omega, fun hlt => ?_, H.below⟩
   have hlt2 : rows.length < most := by omega
   obtain rfl : i = rows.length := Nat.le_antisymm hi (by omega)
   rw [hs hlt2, List.drop_eq_nil_of_le (by rw [hT.len]; exact Nat.le_refl _), sizeL]
   omega
  replace h13 := of_decide_eq_false h13
  refine sSk F rfl rfl ?_;clear F a;intro a F
  refine sSk F rfl rfl ?_;clear F a;intro a F
  refine sSk F rfl rfl ?_;clear F a;intro a F
  refine sSk F rfl rfl ?_;clear F a;intro a F
  refine sPk F rfl rfl rfl rfl ?_;clear F a;intro a F
  refine sNil ?_
  refine hK6 _ _ ?_; clear hK6
  refine cIfF F rfl ?_
  refine wp_exit ?_
  refine hK3 _ _ ?_; clear hK3
  refine cSeq (fun K9 hK9 => ?_)
  refine cReg ?_
  refine sMv F rfl rfl rfl ?_;clear F a;intro a F
  refine sLen Tryd.underlying23 F rfl rfl rfl ?_;clear F a;intro a F
  refine sMv F rfl rfl rfl ?_;clear F a;intro a F
  refine sMinN F rfl rfl rfl rfl ?_;clear F a;intro a F
  refine sAs F rfl rfl rfl ?_;clear F a;intro a F
  refine sNil ?_
  refine hK9 _ _ ?_; clear hK9
  refine wp_ret ?_
  refine bRet Tryd.results7 F rfl ?_
  refine ⟨min rows.length most, rfl, by omega, fun hlt => ?_, H.below⟩
  have hlt2 : rows.length < most := by omega
  obtain rfl : i = rows.length := Nat.le_antisymm hi (by omega)
  rw [hs hlt2, List.drop_eq_nil_of_le (by rw [hT.len]; exact Nat.le_refl _), sizeL]
  omega
end Go.Proofs.YtmfdpnjgljlkbaaDoor
