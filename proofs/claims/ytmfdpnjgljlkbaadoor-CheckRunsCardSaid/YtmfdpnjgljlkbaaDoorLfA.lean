/-
  WALK2. The law of chapter 07: prog, store, skip, folded. Conditions: what they are handed lies in memory.
-/
import Derived.Test.YtmfdpnjgljlkbaaDoorFoG
import Derived.Test.YtmfdpnjgljlkbaaDoorEqI
set_option linter.unusedSimpArgs false
set_option linter.unusedVariables false
namespace Go.Proofs.YtmfdpnjgljlkbaaDoor
open Go.RowKit
set_option maxRecDepth 100000

theorem RowsAt.ofRange {w : World} {b sz : Nat} : ∀ {rows : List (List Value)} {o : Nat}, w.rangeAt b o rows.flatten → (∀ r ∈ rows, r.length = sz) → RowsAt w (some ⟨b, o, none⟩) sz rows := by
  intro rows o h hr j cs hj
  refine ⟨b, o, rfl, fun k v hk => ?_⟩
  have key : ∀ (rows : List (List Value)), (∀ r ∈ rows, r.length = sz) → ∀ j cs, rows[j]? = some cs → ∀ k v, cs[k]? = some v → rows.flatten[j * sz + k]? = some v := by
    intro rows hr
    induction rows with
    | nil => intro j cs hj; simp at hj
    | cons r0 rest ih =>
      intro j cs hj k v hk
      have h0 : r0.length = sz := hr r0 (by simp)
      cases j with
      | zero =>
        simp at hj; subst hj
        have : k < r0.length := (List.getElem?_eq_some_iff.1 hk).1
        rw [List.flatten_cons, List.getElem?_append_left (by omega)]; simpa using hk
      | succ j =>
        rw [List.flatten_cons, List.getElem?_append_right (by rw [h0, Nat.add_mul]; omega), h0]
        have e1 : (j + 1) * sz + k - sz = j * sz + k := by rw [Nat.add_mul]; omega
        rw [e1]
        exact ih (fun r hm => hr r (by simp [hm])) j cs (by simpa using hj) k v hk
  have := h (j * sz + k) v (key rows hr j cs hj k v hk)
  rwa [Nat.add_assoc]
def storeI (v : UInt8) : Ins := ⟨2, 0, 0, false, v, false, 0, 0, 0, 0⟩
def skipI (n : UInt8) (r : Bool) (a fn b : UInt8) : Ins := ⟨8, 0, 0, r, a, false, b, fn, 0, n⟩
def progP7 (l : List Ins) : Prg := ⟨⟨#[97]⟩, [⟨#[120]⟩], [0], [l], 1, .mk 0 0 0 0 []⟩
def progCells (b3 b4 b6 : Nat) : List Value := [.string ⟨#[97]⟩, .slice (some ⟨b3, 0, none⟩) 1 1, .slice (some ⟨b4, 0, none⟩) 1 1, .slice (some ⟨b6, 0, none⟩) 1 1, Go.Proofs.YtmfdpnjgljlkbaaDoor.b8 1, Go.Proofs.YtmfdpnjgljlkbaaDoor.b8 0, Go.Proofs.YtmfdpnjgljlkbaaDoor.b8 0, Go.Proofs.YtmfdpnjgljlkbaaDoor.b8 0, Go.Proofs.YtmfdpnjgljlkbaaDoor.b8 0, .slice none 0 0]
def progRes (b3 b4 b6 : Nat) (A : Option Addr) (n C : Nat) : List Res := [.blk b6 [.slice A n C] 22, .blk b4 [Go.Proofs.YtmfdpnjgljlkbaaDoor.b8 0] 5, .blk b3 [.string ⟨#[120]⟩] 9]
theorem store_any (v : UInt8) (w0 : World) : Calls Tryd.prog 29 #[Go.Proofs.YtmfdpnjgljlkbaaDoor.b8 v] w0 fun e w' => e = .returned (.agg (storeI v).cells.toArray) ∧ Below w0.heap.size w0 w' := by
  have H := Own.start w0 none
  refine enterF Tryd.func29 rfl Tryd.ntmps29 rfl (fun a F => ?_)
  refine cSeq (fun K1 hK1 => ?_)
  refine cReg ?_
  refine sAl H Tryd.zeroValue50 F rfl rfl ?_
  clear F a H; intro b2 a w F H
  refine sNil ?_
  refine hK1 _ _ ?_; clear hK1
  refine cSeq (fun K2 hK2 => ?_)
  refine cReg ?_
  refine sMv F rfl rfl rfl ?_;clear F a;intro a F
  refine sBd (places := [(0, 1), (1, 1)]) Tryd.zeroValue48 Tryd.underlying48 (by kernel_rfl) F rfl rfl rfl rfl ?_;clear F a;intro a F
  refine sBd (cs := (storeI v).cells) (places := [(0, 1), (1, 1), (2, 1), (3, 2), (5, 2), (7, 1), (8, 1), (9, 1)]) Tryd.zeroValue50 Tryd.underlying50 (by kernel_rfl) F rfl rfl rfl rfl ?_;clear F a;intro a F
  refine sSr H 0 ?si F rfl rfl rfl ?s1 rfl rfl ?_
  case si => exact info_size Tryd.sizeOf50
  case s1 => first | rfl | (repeat (first | exact one_nil | (apply one_cons; · first | rfl | assumption | exact one_bif rfl rfl)))
  clear H; intro w H
  refine sNil ?_
  refine hK2 _ _ ?_; clear hK2
  refine wp_ret ?_
  refine bRetC Tryd.results29 F rfl Tryd.underlying50 rfl H 0 rfl Tryd.sizeOf50 rfl ?_
  exact ⟨rfl, H.below⟩
theorem skip_any (n : UInt8) (r : Bool) (av fn b : UInt8) (w0 : World) : Calls Tryd.prog 31 #[Go.Proofs.YtmfdpnjgljlkbaaDoor.b8 n, .agg #[.bool r, Go.Proofs.YtmfdpnjgljlkbaaDoor.b8 av], Go.Proofs.YtmfdpnjgljlkbaaDoor.b8 fn, Go.Proofs.YtmfdpnjgljlkbaaDoor.b8 b] w0 fun e w' => e = .returned (.agg (skipI n r av fn b).cells.toArray) ∧ Below w0.heap.size w0 w' := by
  have H := Own.start w0 none
  refine enterF Tryd.func31 rfl Tryd.ntmps31 rfl (fun a F => ?_)
  refine cSeq (fun K1 hK1 => ?_)
  refine cReg ?_
  refine sBx H F rfl rfl rfl ?_
  clear F a H; intro b5 a w F H
  refine sAl H Tryd.zeroValue50 F rfl rfl ?_
  clear F a H; intro b8 a w F H
  refine sNil ?_
  refine hK1 _ _ ?_; clear hK1
  refine cSeq (fun K2 hK2 => ?_)
  refine cReg ?_
  refine sMv F rfl rfl rfl ?_;clear F a;intro a F
  refine sLr Tryd.underlying48 rfl ?si F rfl rfl rfl (H.whole 1 rfl) ?_
  case si => exact info_size Tryd.sizeOf48
  clear F a; intro a F
  refine sMv F rfl rfl rfl ?_;clear F a;intro a F
  refine sMv F rfl rfl rfl ?_;clear F a;intro a F
  refine sBd (places := [(0, 1), (1, 1)]) Tryd.zeroValue48 Tryd.underlying48 (by kernel_rfl) F rfl rfl rfl rfl ?_;clear F a;intro a F
  refine sBd (cs := (skipI n r av fn b).cells) (places := [(0, 1), (1, 1), (2, 1), (3, 2), (5, 2), (7, 1), (8, 1), (9, 1)]) Tryd.zeroValue50 Tryd.underlying50 (by kernel_rfl) F rfl rfl rfl rfl ?_;clear F a;intro a F
  refine sSr H 0 ?si F rfl rfl rfl ?s1 rfl rfl ?_
  case si => exact info_size Tryd.sizeOf50
  case s1 => first | rfl | (repeat (first | exact one_nil | (apply one_cons; · first | rfl | assumption | exact one_bif rfl rfl)))
  clear H; intro w H
  refine sNil ?_
  refine hK2 _ _ ?_; clear hK2
  refine wp_ret ?_
  refine bRetC Tryd.results31 F rfl Tryd.underlying50 rfl H 0 rfl Tryd.sizeOf50 rfl ?_
  exact ⟨rfl, H.below⟩
theorem prog_any (A : Option Addr) (n C : Nat) (w0 : World) : Calls Tryd.prog 28 #[.slice A n C] w0 fun e w' => ∃ b3 b4 b6, e = .returned (.agg (progCells b3 b4 b6).toArray) ∧ Own w0 none w' (progRes b3 b4 b6 A n C) := by
  have H := Own.start w0 none
  refine enterF Tryd.func28 rfl Tryd.ntmps28 rfl (fun a F => ?_)
  refine cSeq (fun K1 hK1 => ?_)
  refine cReg ?_
  refine sAl H Tryd.zeroValue37 F rfl rfl ?_
  clear F a H; intro b2 a w F H
  refine sNil ?_
  refine hK1 _ _ ?_; clear hK1
  refine cSeq (fun K2 hK2 => ?_)
  refine cReg ?_
  refine sBs1 H Tryd.underlying33 Tryd.sizeOf9 Tryd.zeroValue9 rfl F rfl rfl rfl rfl ?_
  clear F a H; intro b3 a w F H
  refine sBs1 H Tryd.underlying34 Tryd.sizeOf5 Tryd.zeroValue5 rfl F rfl rfl rfl rfl ?_
  clear F a H; intro b4 a w F H
  refine sMv F rfl rfl rfl ?_;clear F a;intro a F
  refine sBs1 H Tryd.underlying35 Tryd.sizeOf22 Tryd.zeroValue22 rfl F rfl rfl rfl rfl ?_
  clear F a H; intro b6 a w F H
  refine sBd (cs := (progCells b3 b4 b6)) (places := [(0, 1), (1, 1), (2, 1), (3, 1), (4, 1), (5, 5)]) Tryd.zeroValue37 Tryd.underlying37 (by kernel_rfl) F rfl rfl rfl rfl ?_;clear F a;intro a F
  refine sSr H 3 ?si F rfl rfl rfl ?s1 rfl rfl ?_
  case si => exact info_size Tryd.sizeOf37
  case s1 => first | rfl | (repeat (first | exact one_nil | (apply one_cons; · first | rfl | assumption | exact one_bif rfl rfl)))
  clear H; intro w H
  refine sNil ?_
  refine hK2 _ _ ?_; clear hK2
  refine wp_ret ?_
  refine bRetC Tryd.results28 F rfl Tryd.underlying37 rfl H 3 rfl Tryd.sizeOf37 rfl ?_
  exact ⟨b3, b4, b6, rfl, H.sel [0, 1, 2] rfl rfl⟩
theorem pr_prog {w0 w : World} {row : Option Nat} {b3 b4 b6 C : Nat} {A : Option Addr} {l : List Ins} (H : Own w0 row w (progRes b3 b4 b6 A l.length C)) (hR : RowsAt w A 10 (l.map Ins.cells)) (hl : l.length ≤ 9223372036854775807) :
    ProgIn w (progCells b3 b4 b6) (progP7 l) (some ⟨b3, 0, none⟩) 1 (some ⟨b4, 0, none⟩) 1 (some ⟨b6, 0, none⟩) 1 1 [Go.Proofs.YtmfdpnjgljlkbaaDoor.b8 0, Go.Proofs.YtmfdpnjgljlkbaaDoor.b8 0, Go.Proofs.YtmfdpnjgljlkbaaDoor.b8 0, Go.Proofs.YtmfdpnjgljlkbaaDoor.b8 0, .slice none 0 0] := by
  have h6 := H.blk 0 rfl
  have h4 := H.whole 1 rfl
  have h3 := H.whole 2 rfl
  refine ⟨rfl, (show (⟨#[97]⟩ : ByteArray).size ≤ maxLen by decide), RowsAt.ofRange (sz := 1) (rows := [[_]]) h3 (by simp), (show 1 ≤ 9223372036854775807 by decide), (show 1 ≤ 1 by decide), ?_, RowsAt.ofRange (sz := 1) (rows := [[_]]) h4 (by simp), (show 1 ≤ 9223372036854775807 by decide), ?_, (show 1 ≤ 9223372036854775807 by decide), none, 0, rfl, by decide, fun j kid hj => by simp at hj⟩
  · intro s hs
    obtain rfl : s = ⟨#[120]⟩ := by simpa [progP7] using hs
    decide
  · intro j t hj
    match j, hj with
    | 0, hj => cases hj; exact ⟨b6, 0, A, C, rfl, h6.cell 0 rfl, hR, hl⟩
    | n + 1, hj => simp [progP7] at hj
theorem Own.rowCell {w0 w : World} {row : Option Nat} {rs : List Res} (H : Own w0 row w rs) (i : Nat) {e : TypeId} {n c b : Nat} {r : Value} (hi : rs[i]? = some (.rws e 1 (.slice (some ⟨b, 0, .none⟩) n c) [[r]])) : w.cell? ⟨b, 0, .none⟩ = some r := by
  obtain ⟨b', o, he, h⟩ := H.rowsAt i hi (by simp) (by decide) 0 [r] rfl
  cases he
  exact h 0 r rfl
theorem Own.groveRow {w0 w : World} {row : Option Nat} {rs : List Res} (H : Own w0 row w rs) (i : Nat) {S : Nat → Prop} {y : Ins} {b o n c : Nat} (hi : rs[i]? = some (.grove S [[.slice (some ⟨b, o, .none⟩) n c]] [[y]])) : w.rangeAt b o y.cells := by
  obtain ⟨B, C, h1, h2⟩ := (H.pred i _ hi : groveP S w [[.slice (some ⟨b, o, .none⟩) n c]] [[y]]) 0 _ _ rfl rfl
  cases h1
  obtain ⟨b', o', he, _, h⟩ := h2 0 _ rfl
  cases he
  simpa using h
set_option maxHeartbeats 4000000 in
theorem folded_any (cs : List Value) (p : Prg) (l : List Ins) (y : Ins) (LA : Option Addr) (LC : Nat) (IA : Option Addr) (IC : Nat) (TA : Option Addr) (TC h : Nat) (ccs : List Value) (w0 : World) (hp : ProgIn w0 cs p LA LC IA IC TA TC h ccs) (hN : NeedsAt w0) (hs : Slim h p.cond) (hl : p.locs.length ≤ 1099511627776)
    (hr : rightErr p = 0) (hf : FoldPre p) (ht : p.threads = [l]) (hy : foldP l = [y]) :
    Calls Tryd.prog 30 #[.agg cs.toArray, .agg y.cells.toArray] w0 fun e w' => e = .returned (.bool true) ∧ Below w0.heap.size w0 w' := by
  obtain ⟨c1, c2, c3, c4, A5, m5, C5, rfl⟩ := condShape hp.cond
  have hcs := hp.cs
  simp only [List.cons_append, List.nil_append] at hcs
  subst hcs
  have H := Own.start w0 none
  refine enterF Tryd.func30 rfl Tryd.ntmps30 rfl (fun a F => ?_)
  refine cSeq (fun K1 hK1 => ?_)
  refine cReg ?_
  refine sBx H F rfl rfl rfl ?_
  clear F a H; intro b2 a w F H
  refine sBx H F rfl rfl rfl ?_
  clear F a H; intro b3 a w F H
  refine sAs F rfl rfl rfl ?_;clear F a;intro a F
  refine sNil ?_
  refine hK1 _ _ ?_; clear hK1
  refine cSeq (fun K2 hK2 => ?_)
  refine cReg ?_
  refine sLr Tryd.underlying37 rfl ?si F rfl rfl rfl (H.whole 1 rfl) ?_
  case si => exact info_size Tryd.sizeOf37
  clear F a; intro a F
  refine sCall Tryd.call16 F rfl rfl rfl (Fold_any _ p LA LC IA IC TA TC h _ _ (hp.own H) (hN.own H) (fun _ => hs) (fun _ => hl) (fun _ => hf)) ?_
  rintro e w h9
  rcases h9 with ⟨h9, _⟩ | ⟨_, v9, rfl, h9⟩
  · exact absurd hr h9
  obtain ⟨LA2, LC2, S1, IA2, IC2, S2, TA2, TC2, rows, S3, ccs2, S4, rfl, _, hrl, hr1, H2⟩ := h9
  obtain ⟨d1, d2, d3, d4, A6, m6, C6, rfl⟩ := condShape (H2.pred 0 _ rfl : TreeIn S4 _ h ccs2 p.cond).at
  rw [ht] at hrl H2
  simp only [List.map_cons, List.map_nil, hy] at H2
  obtain ⟨r0, rfl⟩ : ∃ r0, rows = [r0] := List.length_eq_one_iff.1 hrl
  obtain ⟨B0, C0, rfl, hg0⟩ := (H2.pred 2 _ rfl : groveP S3 _ [r0] [[y]]) 0 _ _ rfl rfl
  obtain ⟨bY, oY, rfl, _⟩ := hg0 0 _ rfl
  obtain ⟨bT, oT, rfl, hq⟩ := H2.rowsAt 1 rfl hr1 (by decide) 0 _ rfl
  obtain rfl : oT = 0 := by
   rcases (H2.arr 1 rfl).2 with ⟨q1, _⟩ | ⟨g, cap, cur, q1, _⟩
   · cases q1
   · cases q1; rfl
  replace H := H.join H2; clear H2
  refine ⟨_, rfl, ?_⟩
  clear F a; intro a F
  refine sMv F rfl rfl rfl ?_;clear F a;intro a F
  refine sExt F rfl rfl rfl rfl ?_;clear F a;intro a F
  refine sExt F rfl rfl rfl rfl ?_;clear F a;intro a F
  refine sAl H Tryd.zeroValue37 F rfl rfl ?_
  clear F a H; intro b5 a w F H
  refine sSr H 0 ?si F rfl rfl rfl ?s1 rfl rfl ?_
  case si => exact info_size Tryd.sizeOf37
  case s1 => first | rfl | (repeat (first | exact one_nil | (apply one_cons; · first | rfl | assumption | exact one_bif rfl rfl)))
  clear H; intro w H
  refine sAs F rfl rfl rfl ?_;clear F a;intro a F
  refine sNil ?_
  refine hK2 _ _ ?_; clear hK2
  refine cSeq (fun K3 hK3 => ?_)
  refine cRegRO (by kernel_rfl) H ?_
  replace H := H.drew
  refine eTakeF (k := 0) (i := 0) rfl (by kernel_rfl) F rfl rfl rfl (fun w => rMv F rfl) H (fun _ _ _ h => h) ?_;clear F a;intro a F
  refine eTakeF (k := 1) (i := 1) rfl (by kernel_rfl) F rfl rfl rfl (fun w => rBin F rfl rfl bEql) H (fun _ _ _ h => h) ?_;clear F a;intro a F
  refine eTakeF (k := 2) (i := 2) rfl (by kernel_rfl) F rfl rfl rfl (fun w => rMv F rfl) H (fun _ _ _ h => h) ?_;clear F a;intro a F
  refine F.split 14 rfl ?_ ?_ <;> (clear F; intro h14 F)
  ·
   replace h14 := beqT h14
   refine eTakeF (k := 3) (i := 3) rfl (by kernel_rfl) F rfl rfl rfl (fun w => rFa (f := 3) (k := 3) Tryd.underlying37 rfl Tryd.sizeOf35 rfl rfl F rfl) H (fun _ _ _ h => h) ?_;clear F a;intro a F
   refine eTake (k := 4) (i := 4) rfl (by kernel_rfl) F rfl rfl rfl rfl (fun w H => rLd Tryd.isAgg35 F rfl (H.cell 0 rfl rfl)) H (fun _ _ _ h => h) ?_;clear F a;intro a F
   refine eTake (k := 5) (i := 5) rfl (by kernel_rfl) F rfl rfl rfl rfl (fun w H => rLen Tryd.underlying35 F rfl) H (fun _ _ _ h => h) ?_;clear F a;intro a F
   refine eTakeF (k := 6) (i := 6) rfl (by kernel_rfl) F rfl rfl rfl (fun w => rBin F rfl rfl bEql) H (fun _ _ _ h => h) ?_;clear F a;intro a F
   refine eTakeF (k := 7) (i := 7) rfl (by kernel_rfl) F rfl rfl rfl (fun w => rPk F rfl rfl) H (fun _ _ _ h => h) ?_;clear F a;intro a F
   refine eTakeF (k := 8) (i := 8) rfl (by kernel_rfl) F rfl rfl rfl (fun w => rMv F rfl) H (fun _ _ _ h => h) ?_;clear F a;intro a F
   refine F.split 20 rfl ?_ ?_ <;> (clear F; intro h20 F)
   ·
    replace h20 := beqT h20
    refine eTakeF (k := 9) (i := 9) rfl (by kernel_rfl) F rfl rfl rfl (fun w => rFa (f := 3) (k := 3) Tryd.underlying37 rfl Tryd.sizeOf35 rfl rfl F rfl) H (fun _ _ _ h => h) ?_;clear F a;intro a F
    refine eTake (k := 10) (i := 10) rfl (by kernel_rfl) F rfl rfl rfl rfl (fun w H => rLd Tryd.isAgg35 F rfl (H.cell 0 rfl rfl)) H (fun _ _ _ h => h) ?_;clear F a;intro a F
    refine eTakeF (k := 11) (i := 11) rfl (by kernel_rfl) F rfl rfl rfl (fun w => rIx (j := 0) Tryd.underlying35 Tryd.sizeOf22 F rfl rfl ?_) H (fun _ _ _ h => h) ?_
    focus (first | omega | decide | (simp; omega))
    clear F a; intro a F
    refine eTake (k := 12) (i := 12) rfl (by kernel_rfl) F rfl rfl rfl rfl (fun w H => rLd Tryd.isAgg22 F rfl (H.rowCell 2 rfl)) H (fun _ _ _ h => h) ?_;clear F a;intro a F
    refine eTake (k := 13) (i := 13) rfl (by kernel_rfl) F rfl rfl rfl rfl (fun w H => rLen Tryd.underlying22 F rfl) H (fun _ _ _ h => h) ?_;clear F a;intro a F
    refine eTakeF (k := 14) (i := 14) rfl (by kernel_rfl) F rfl rfl rfl (fun w => rBin F rfl rfl bEql) H (fun _ _ _ h => h) ?_;clear F a;intro a F
    refine eTakeF (k := 15) (i := 15) rfl (by kernel_rfl) F rfl rfl rfl (fun w => rPk F rfl rfl) H (fun _ _ _ h => h) ?_;clear F a;intro a F
    refine eTakeF (k := 16) (i := 16) rfl (by kernel_rfl) F rfl rfl rfl (fun w => rMv F rfl) H (fun _ _ _ h => h) ?_;clear F a;intro a F
    refine F.split 28 rfl ?_ ?_ <;> (clear F; intro h28 F)
    ·
     replace h28 := beqT h28
     refine eTakeF (k := 17) (i := 17) rfl (by kernel_rfl) F rfl rfl rfl (fun w => rFa (f := 3) (k := 3) Tryd.underlying37 rfl Tryd.sizeOf35 rfl rfl F rfl) H (fun _ _ _ h => h) ?_;clear F a;intro a F
     refine eTake (k := 18) (i := 18) rfl (by kernel_rfl) F rfl rfl rfl rfl (fun w H => rLd Tryd.isAgg35 F rfl (H.cell 0 rfl rfl)) H (fun _ _ _ h => h) ?_;clear F a;intro a F
     refine eTakeF (k := 19) (i := 19) rfl (by kernel_rfl) F rfl rfl rfl (fun w => rIx (j := 0) Tryd.underlying35 Tryd.sizeOf22 F rfl rfl ?_) H (fun _ _ _ h => h) ?_
     focus (first | omega | decide | (simp; omega))
     clear F a; intro a F
     refine eTake (k := 20) (i := 20) rfl (by kernel_rfl) F rfl rfl rfl rfl (fun w H => rLd Tryd.isAgg22 F rfl (H.rowCell 2 rfl)) H (fun _ _ _ h => h) ?_;clear F a;intro a F
     refine eTakeF (k := 21) (i := 21) rfl (by kernel_rfl) F rfl rfl rfl (fun w => rIx (j := 0) Tryd.underlying22 Tryd.sizeOf50 F rfl rfl ?_) H (fun _ _ _ h => h) ?_
     focus (first | omega | decide | (simp; omega))
     clear F a; intro a F
     refine eTake (k := 22) (i := 22) rfl (by kernel_rfl) F rfl rfl rfl rfl (fun w H => rLr Tryd.underlying50 rfl ?si F rfl (H.groveRow 3 rfl)) H (fun _ _ _ h => h) ?_
     case si => exact info_size Tryd.sizeOf50
     clear F a; intro a F
     refine eTake (k := 23) (i := 23) rfl (by kernel_rfl) F rfl rfl rfl rfl (fun w H => rLr Tryd.underlying50 rfl ?si F rfl (H.whole 6 rfl)) H (fun _ _ _ h => h) ?_
     case si => exact info_size Tryd.sizeOf50
     clear F a; intro a F
     refine eTakeF (k := 24) (i := 24) rfl (by kernel_rfl) F rfl rfl rfl (fun w => rBin F rfl rfl bEqI) H (fun _ _ _ h => h) ?_;clear F a;intro a F
     refine eTakeF (k := 25) (i := 25) rfl (by kernel_rfl) F rfl rfl rfl (fun w => rPk F rfl rfl) H (fun _ _ _ h => h) ?_;clear F a;intro a F
     refine eTakeF (k := 26) (i := 26) rfl (by kernel_rfl) F rfl rfl rfl (fun w => rAs F rfl) H (fun _ _ _ h => h) ?_;clear F a;intro a F
     refine eNil (k := 27) (by kernel_rfl) ?_
     refine hK3 _ _ ?_; clear hK3
     refine wp_ret ?_
     refine bRet Tryd.results30 F rfl ?_
     exact ⟨rfl, H.below⟩
    replace h28 := beqF h28
    (exact absurd rfl h28)
   replace h20 := beqF h20
   (exact absurd (by rw [ht]; rfl) h20)
  replace h14 := beqF h14
  exact absurd rfl h14
end Go.Proofs.YtmfdpnjgljlkbaaDoor
