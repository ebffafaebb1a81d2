/-
  WALK2. Package check: sweep. Conditions: the thread lies in memory, apart from the block of what is alive; skips stay within the thread.
-/
import Derived.Test.YtmfdpnjgljlkbaaDoorFoB
set_option linter.unusedSimpArgs false
set_option linter.unusedVariables false
namespace Go.Proofs.YtmfdpnjgljlkbaaDoor
open Go.RowKit
set_option maxRecDepth 100000

theorem Own.startRow {w : World} {b : Nat} {cs : List Value} {t : TypeId} (h : Blk w b cs t) : Own w (some b) w [.blk b cs t] where
  grown := only_refl w _
  pred := fun i r hi => by
    cases i with
    | zero => cases hi; exact h
    | succ i => simp at hi
  foot := fun i r hi c hc => by
    cases i with
    | zero =>
      cases hi
      have hc : c = b := hc
      subst hc
      exact ⟨.inr rfl, (Array.getElem?_eq_some_iff.1 h).1⟩
    | succ i => simp at hi
  apart := fun i j r s hi hj hij => by
    cases i with
    | zero => cases j with
      | zero => exact absurd rfl hij
      | succ j => simp at hj
    | succ i => simp at hi
theorem bl_at {l : List Bool} {i : Nat} {v : Bool} (h : l[i]? = some v) : (bl l)[0 + i * 1]? = some (.bool v) := by rw [Nat.zero_add, Nat.mul_one]; exact bl_get h
theorem bl_put {l : List Bool} {i : Nat} {v : Bool} : (bl l).set (0 + i * 1) (.bool v) = bl (l.set i v) := by rw [Nat.zero_add, Nat.mul_one, bl_set]
theorem RowsAt.oldRow {w0 w : World} {b : Nat} {rs : List Res} {A : Option Addr} {sz : Nat} {rows : List (List Value)} (h : RowsAt w0 A sz rows) (H : Own w0 (some b) w rs) (hne : ∀ b' o, A = some ⟨b', o, none⟩ → b' ≠ b) : RowsAt w A sz rows := fun j cs hj => by
  obtain ⟨b', o, h1, h2⟩ := h j cs hj
  exact ⟨b', o, h1, fun k v hv => H.old (h2 k v hv) (fun e => hne b' o h1 (Option.some.inj e))⟩
theorem getD_of {l : List Bool} {i : Nat} {v : Bool} (h : l[i]? = some v) : l.getD i false = v := by rw [List.getD_eq_getElem?_getD, h]; rfl
theorem reach_start (n : Nat) : (List.replicate (n + 1) (Value.bool false)).set (0 + 0 * 1) (.bool true) = bl (true :: List.replicate n false) := by
  rw [bl_rep, bl_put]; rfl
set_option maxHeartbeats 4000000 in
theorem sweep_any (A : Option Addr) (C : Nat) (l : List Ins) (b : Nat) (alive : List Bool) (w0 : World) (hR : RowsAt w0 A 10 (l.map Ins.cells)) (hB : Blk w0 b (bl alive) 4) (hl : alive.length = l.length) (h12 : l.length ≤ 12)
    (hv : ∀ i x, l[i]? = some x → x.op = 8 → 1 ≤ x.skip.toNat ∧ i + 1 + x.skip.toNat ≤ l.length) (hne : 0 < l.length → ∀ b' o, A = some ⟨b', o, none⟩ → b' ≠ b) :
    Calls Tryd.prog 66 #[.slice A l.length C, .slice (some ⟨b, 0, none⟩) alive.length alive.length] w0 fun e w' => e = .returned (.bool (sweepP l alive).2) ∧ Own w0 (some b) w' [.blk b (bl (sweepP l alive).1) 4] := by
  have H := Own.startRow hB
  refine enterF Tryd.func66 rfl Tryd.ntmps66 rfl (fun a F => ?_)
  refine cSeq (fun K1 hK1 => ?_)
  refine cReg ?_
  refine sAs F rfl rfl rfl ?_;clear F a;intro a F
  refine sNil ?_
  refine hK1 _ _ ?_; clear hK1
  refine cSeq (fun K2 hK2 => ?_)
  refine cReg ?_
  refine sMv F rfl rfl rfl ?_;clear F a;intro a F
  refine sLen Tryd.underlying22 F rfl rfl rfl ?_;clear F a;intro a F
  refine sBin F rfl rfl rfl rfl (bAddN (j := 1) ?_) ?_
  focus omega
  clear F a; intro a F
  refine sMk (z := .bool false) (bytes := 1) H Tryd.underlying101 (by kernel_rfl) rfl F rfl rfl rfl rfl (by omega) (by omega) ?_
  clear F a H; intro b16 a w F H
  refine sAs F rfl rfl rfl ?_;clear F a;intro a F
  refine sNil ?_
  refine hK2 _ _ ?_; clear hK2
  refine cSeq (fun K3 hK3 => ?_)
  refine cReg ?_
  refine sMv F rfl rfl rfl ?_;clear F a;intro a F
  refine sIx (j := 0) Tryd.underlying101 Tryd.sizeOf4 F rfl rfl rfl rfl ?_ ?_
  focus (first | omega | decide | (simp; omega))
  clear F a; intro a F
  refine sSt H 0 Tryd.sizeOf4 F rfl rfl rfl rfl rfl (List.getElem?_eq_getElem (by simp)) ?_
  clear H; intro w H
  refine sNil ?_
  refine hK3 _ _ ?_; clear hK3
  refine cSeq (fun K4 hK4 => ?_)
  refine cSeq (fun K5 hK5 => ?_)
  refine cReg ?_
  refine sMv F rfl rfl rfl ?_;clear F a;intro a F
  refine sLen Tryd.underlying22 F rfl rfl rfl ?_;clear F a;intro a F
  refine sMv F rfl rfl rfl ?_;clear F a;intro a F
  refine sNil ?_
  refine hK5 _ _ ?_; clear hK5
  refine wp_block ?_
  refine cLoopR [0, 1, 5, 19, 20] (fun m ups w => ∃ k : Nat, m = l.length - k ∧ ups = [(21, .int .i64 ((k : Nat) : Int))] ∧ k ≤ l.length ∧ Own w0 (some b) w [.blk b16 (bl (reachP l alive k)) 4, .blk b (bl alive) 4]) F (l.length) [(21, .int .i64 ((0 : Nat) : Int))] (by repeat (first | exact SubR.nil | (apply SubR.cons; · rfl))) ?_ ?_ ?_
  · exact ⟨0, rfl, rfl, by omega, by rw [reach_start] at H; exact H⟩
  · repeat (first | exact trivial | refine Le.cons rfl ?_)
  clear F
  clear H
  intro m ups a w hI F
  obtain ⟨k, rfl, rfl, hk, H⟩ := hI
  have hrl := reachP_length l alive k
  refine cSeq (fun K6 hK6 => ?_)
  refine cReg ?_
  refine sBin F rfl rfl rfl rfl bLss ?_;clear F a;intro a F
  refine sNil ?_
  refine hK6 _ _ ?_; clear hK6
  refine cSeq (fun K7 hK7 => ?_)
  refine cIf F rfl (fun h22 => ?_) (fun h22 => ?_)
  ·
   replace h22 := of_decide_eq_true h22
   have hkl : k < l.length := by omega
   obtain ⟨x, hx⟩ : ∃ x, l[k]? = some x := ⟨_, List.getElem?_eq_getElem hkl⟩
   obtain ⟨bI, oI, rfl, hIx⟩ := hR k x.cells (by rw [List.getElem?_map, hx]; rfl)
   have hneI := hne (by omega) bI oI rfl
   obtain ⟨rv, hrv⟩ : ∃ v, (reachP l alive k)[k]? = some v := ⟨_, List.getElem?_eq_getElem (by omega)⟩
   obtain ⟨av, hav⟩ : ∃ v, alive[k]? = some v := ⟨_, List.getElem?_eq_getElem (by omega)⟩
   obtain ⟨r1, hr1⟩ : ∃ v, (reachP l alive k)[k + 1]? = some v := ⟨_, List.getElem?_eq_getElem (by omega)⟩
   have hrk := reachP_at (alive := alive) hx
   rw [getD_of hav, reach1, getD_of hrv] at hrk
   refine wp_skip ?_
   refine hK7 _ _ ?_; clear hK7
   refine cSeq (fun K8 hK8 => ?_)
   refine wp_block ?_
   refine cSeq (fun K9 hK9 => ?_)
   refine cReg ?_
   refine sMv F rfl rfl rfl ?_;clear F a;intro a F
   refine sIx Tryd.underlying22 Tryd.sizeOf50 F rfl rfl rfl rfl ?_ ?_
   focus (first | omega | decide | (simp; omega))
   clear F a; intro a F
   refine sLr Tryd.underlying50 rfl ?si F rfl rfl rfl (fun j v hj => H.old (hIx j v hj) (fun e => hneI (Option.some.inj e))) ?_
   case si => exact info_size Tryd.sizeOf50
   clear F a; intro a F
   refine sAl H Tryd.zeroValue50 F rfl rfl ?_
   clear F a H; intro b7 a w F H
   refine sAs F rfl rfl rfl ?_;clear F a;intro a F
   refine sSr H 0 ?si F rfl rfl rfl ?s1 rfl rfl ?_
   case si => exact info_size Tryd.sizeOf50
   case s1 => first | rfl | (repeat (first | exact one_nil | (apply one_cons; · first | rfl | assumption | exact one_bif rfl rfl)))
   clear H; intro w H
   refine sNil ?_
   refine hK9 _ _ ?_; clear hK9
   refine cSeq (fun K10 hK10 => ?_)
   refine cSeq (fun K11 hK11 => ?_)
   refine cReg ?_
   refine sMv F rfl rfl rfl ?_;clear F a;intro a F
   refine sMv F rfl rfl rfl ?_;clear F a;intro a F
   refine sIx Tryd.underlying101 Tryd.sizeOf4 F rfl rfl rfl rfl ?_ ?_
   focus (first | omega | decide | (simp; omega))
   clear F a; intro a F
   refine sLd Tryd.isAgg4 F rfl rfl rfl (H.cell 1 rfl (bl_at hrv)) ?_;clear F a;intro a F
   refine sNot F rfl rfl rfl ?_;clear F a;intro a F
   refine sNil ?_
   refine hK11 _ _ ?_; clear hK11
   refine cIf F rfl (fun h30 => ?_) (fun h30 => ?_)
   ·
    replace h30 := notT h30
    refine wp_exit ?_
    refine hK8 _ _ ?_; clear hK8
    refine cReg ?_
    refine sBin F rfl rfl rfl rfl (bAddN (j := 1) ?_) ?_
    focus omega
    clear F a; intro a F
    refine sMv F rfl rfl rfl ?_;clear F a;intro a F
    refine sNil ?_
    refine ⟨_, by omega, _, ⟨k + 1, rfl, rfl, by omega, ?_⟩, F.to (by repeat (first | exact trivial | refine Le.cons rfl ?_))⟩
    have hq : ∀ q, q = reachP l alive (k + 1) → Own w0 (some b) w [.blk b16 (bl q) 4, .blk b (bl alive) 4] → Own w0 (some b) w [.blk b16 (bl (reachP l alive (k + 1))) 4, .blk b (bl alive) 4] := fun q e H => e ▸ H
    try simp only [List.getElem_toArray, List.getElem_cons_zero, List.getElem_cons_succ, bl_put] at H
    refine hq _ ?_ (H.sel [1, 2] rfl rfl)
    rw [hrk, getD_of hr1]
    clear H F hq hrk hv hne
    simp [*]
   replace h30 := notF h30
   refine wp_skip ?_
   refine hK10 _ _ ?_; clear hK10
   refine cSeq (fun K12 hK12 => ?_)
   refine cReg ?_
   refine sAs F rfl rfl rfl ?_;clear F a;intro a F
   refine sAs F rfl rfl rfl ?_;clear F a;intro a F
   refine sNil ?_
   refine hK12 _ _ ?_; clear hK12
   refine cSeq (fun K13 hK13 => ?_)
   refine cSeq (fun K14 hK14 => ?_)
   refine cReg ?_
   refine sMv F rfl rfl rfl ?_;clear F a;intro a F
   refine sMv F rfl rfl rfl ?_;clear F a;intro a F
   refine sIx Tryd.underlying101 Tryd.sizeOf4 F rfl rfl rfl rfl ?_ ?_
   focus (first | omega | decide | (simp; omega))
   clear F a; intro a F
   refine sLd Tryd.isAgg4 F rfl rfl rfl (H.cell 2 rfl (bl_at hav)) ?_;clear F a;intro a F
   refine sMv F rfl rfl rfl ?_;clear F a;intro a F
   refine F.split 35 rfl ?_ ?_ <;> (clear F; intro h35 F)
   ·
    refine sFa (f := 0) (k := 0) Tryd.underlying50 rfl Tryd.sizeOf5 rfl rfl F rfl rfl rfl ?_;clear F a;intro a F
    refine sLd Tryd.isAgg5 F rfl rfl rfl (H.cell 0 rfl rfl) ?_;clear F a;intro a F
    refine sBin F rfl rfl rfl rfl (bEqlB (y := 8)) ?_;clear F a;intro a F
    refine sPk F rfl rfl rfl rfl ?_;clear F a;intro a F
    refine sNil ?_
    refine hK14 _ _ ?_; clear hK14
    refine cIf F rfl (fun h39 => ?_) (fun h39 => ?_)
    ·
     replace h39 := beqT h39
     obtain ⟨hs1, hs2⟩ := hv k x hx h39
     refine cReg ?_
     refine sLr Tryd.underlying50 rfl ?si F rfl rfl rfl (H.whole 0 rfl) ?_
     case si => exact info_size Tryd.sizeOf50
     clear F a; intro a F
     refine sCall Tryd.call82 F rfl rfl rfl (ways_any x _) ?_
     rintro e w ⟨rfl, hb⟩
     replace H := H.grow hb; clear hb
     refine ⟨_, rfl, ?_⟩
     clear F a; intro a F
     refine sMv F rfl rfl rfl ?_;clear F a;intro a F
     refine sExt F rfl rfl rfl rfl ?_;clear F a;intro a F
     refine sExt F rfl rfl rfl rfl ?_;clear F a;intro a F
     refine sAs F rfl rfl rfl ?_;clear F a;intro a F
     refine sAs F rfl rfl rfl ?_;clear F a;intro a F
     refine sNil ?_
     refine hK13 _ _ ?_; clear hK13
     refine cSeq (fun K15 hK15 => ?_)
     refine cReg ?_
     refine sMv F rfl rfl rfl ?_;clear F a;intro a F
     refine sMv F rfl rfl rfl ?_;clear F a;intro a F
     refine sBin F rfl rfl rfl rfl (bAddN (j := 1) ?_) ?_
     focus omega
     clear F a; intro a F
     refine sMv F rfl rfl rfl ?_;clear F a;intro a F
     refine sMv F rfl rfl rfl ?_;clear F a;intro a F
     refine sBin F rfl rfl rfl rfl (bAddN (j := 1) ?_) ?_
     focus omega
     clear F a; intro a F
     refine sIx Tryd.underlying101 Tryd.sizeOf4 F rfl rfl rfl rfl ?_ ?_
     focus (first | omega | decide | (simp; omega))
     clear F a; intro a F
     refine sLd Tryd.isAgg4 F rfl rfl rfl (H.cell 1 rfl (bl_at hr1)) ?_;clear F a;intro a F
     refine sMv F rfl rfl rfl ?_;clear F a;intro a F
     refine F.split 53 rfl ?_ ?_ <;> (clear F; intro h53 F)
     ·
      refine sSk F rfl rfl ?_;clear F a;intro a F
      refine sPk F rfl rfl rfl rfl ?_;clear F a;intro a F
      refine sIx Tryd.underlying101 Tryd.sizeOf4 F rfl rfl rfl rfl ?_ ?_
      focus (first | omega | decide | (simp; omega))
      clear F a; intro a F
      refine sSt H 1 Tryd.sizeOf4 F rfl rfl rfl rfl rfl (List.getElem?_eq_getElem (by simp; omega)) ?_
      clear H; intro w H
      refine sNil ?_
      refine hK15 _ _ ?_; clear hK15
      refine cSeq (fun K16 hK16 => ?_)
      refine cReg ?_
      refine sMv F rfl rfl rfl ?_;clear F a;intro a F
      refine sNil ?_
      refine hK16 _ _ ?_; clear hK16
      refine cIf F rfl (fun h57 => ?_) (fun h57 => ?_)
      ·
       refine cReg ?_
       refine sMv F rfl rfl rfl ?_;clear F a;intro a F
       refine sMv F rfl rfl rfl ?_;clear F a;intro a F
       refine sBin F rfl rfl rfl rfl (bAddN (j := 1) ?_) ?_
       focus omega
       clear F a; intro a F
       refine sFa (f := 7) (k := 9) Tryd.underlying50 rfl Tryd.sizeOf5 rfl rfl F rfl rfl rfl ?_;clear F a;intro a F
       refine sLd Tryd.isAgg5 F rfl rfl rfl (H.cell 0 rfl rfl) ?_;clear F a;intro a F
       refine sCv Tryd.underlying5 Tryd.underlying3 F rfl rfl rfl (wrapB _) ?_;clear F a;intro a F
       refine sBin F rfl rfl rfl rfl (bAddN ?_) ?_
       focus omega
       clear F a; intro a F
       refine sIx Tryd.underlying101 Tryd.sizeOf4 F rfl rfl rfl rfl ?_ ?_
       focus (first | omega | decide | (simp; omega))
       clear F a; intro a F
       refine sSt H 1 Tryd.sizeOf4 F rfl rfl rfl rfl rfl (List.getElem?_eq_getElem (by simp; omega)) ?_
       clear H; intro w H
       refine sNil ?_
       refine hK8 _ _ ?_; clear hK8
       refine cReg ?_
       refine sBin F rfl rfl rfl rfl (bAddN (j := 1) ?_) ?_
       focus omega
       clear F a; intro a F
       refine sMv F rfl rfl rfl ?_;clear F a;intro a F
       refine sNil ?_
       refine ⟨_, by omega, _, ⟨k + 1, rfl, rfl, by omega, ?_⟩, F.to (by repeat (first | exact trivial | refine Le.cons rfl ?_))⟩
       have hq : ∀ q, q = reachP l alive (k + 1) → Own w0 (some b) w [.blk b16 (bl q) 4, .blk b (bl alive) 4] → Own w0 (some b) w [.blk b16 (bl (reachP l alive (k + 1))) 4, .blk b (bl alive) 4] := fun q e H => e ▸ H
       try simp only [List.getElem_toArray, List.getElem_cons_zero, List.getElem_cons_succ, bl_put] at H
       refine hq _ ?_ (H.sel [1, 2] rfl rfl)
       rw [hrk, getD_of hr1]
       clear H F hq hrk hv hne
       simp [*]
      refine wp_skip ?_
      refine hK8 _ _ ?_; clear hK8
      refine cReg ?_
      refine sBin F rfl rfl rfl rfl (bAddN (j := 1) ?_) ?_
      focus omega
      clear F a; intro a F
      refine sMv F rfl rfl rfl ?_;clear F a;intro a F
      refine sNil ?_
      refine ⟨_, by omega, _, ⟨k + 1, rfl, rfl, by omega, ?_⟩, F.to (by repeat (first | exact trivial | refine Le.cons rfl ?_))⟩
      have hq : ∀ q, q = reachP l alive (k + 1) → Own w0 (some b) w [.blk b16 (bl q) 4, .blk b (bl alive) 4] → Own w0 (some b) w [.blk b16 (bl (reachP l alive (k + 1))) 4, .blk b (bl alive) 4] := fun q e H => e ▸ H
      try simp only [List.getElem_toArray, List.getElem_cons_zero, List.getElem_cons_succ, bl_put] at H
      refine hq _ ?_ (H.sel [1, 2] rfl rfl)
      rw [hrk, getD_of hr1]
      clear H F hq hrk hv hne
      simp [*]
     refine sMv F rfl rfl rfl ?_;clear F a;intro a F
     refine sPk F rfl rfl rfl rfl ?_;clear F a;intro a F
     refine sIx Tryd.underlying101 Tryd.sizeOf4 F rfl rfl rfl rfl ?_ ?_
     focus (first | omega | decide | (simp; omega))
     clear F a; intro a F
     refine sSt H 1 Tryd.sizeOf4 F rfl rfl rfl rfl rfl (List.getElem?_eq_getElem (by simp; omega)) ?_
     clear H; intro w H
     refine sNil ?_
     refine hK15 _ _ ?_; clear hK15
     refine cSeq (fun K17 hK17 => ?_)
     refine cReg ?_
     refine sMv F rfl rfl rfl ?_;clear F a;intro a F
     refine sNil ?_
     refine hK17 _ _ ?_; clear hK17
     refine cIf F rfl (fun h57 => ?_) (fun h57 => ?_)
     ·
      refine cReg ?_
      refine sMv F rfl rfl rfl ?_;clear F a;intro a F
      refine sMv F rfl rfl rfl ?_;clear F a;intro a F
      refine sBin F rfl rfl rfl rfl (bAddN (j := 1) ?_) ?_
      focus omega
      clear F a; intro a F
      refine sFa (f := 7) (k := 9) Tryd.underlying50 rfl Tryd.sizeOf5 rfl rfl F rfl rfl rfl ?_;clear F a;intro a F
      refine sLd Tryd.isAgg5 F rfl rfl rfl (H.cell 0 rfl rfl) ?_;clear F a;intro a F
      refine sCv Tryd.underlying5 Tryd.underlying3 F rfl rfl rfl (wrapB _) ?_;clear F a;intro a F
      refine sBin F rfl rfl rfl rfl (bAddN ?_) ?_
      focus omega
      clear F a; intro a F
      refine sIx Tryd.underlying101 Tryd.sizeOf4 F rfl rfl rfl rfl ?_ ?_
      focus (first | omega | decide | (simp; omega))
      clear F a; intro a F
      refine sSt H 1 Tryd.sizeOf4 F rfl rfl rfl rfl rfl (List.getElem?_eq_getElem (by simp; omega)) ?_
      clear H; intro w H
      refine sNil ?_
      refine hK8 _ _ ?_; clear hK8
      refine cReg ?_
      refine sBin F rfl rfl rfl rfl (bAddN (j := 1) ?_) ?_
      focus omega
      clear F a; intro a F
      refine sMv F rfl rfl rfl ?_;clear F a;intro a F
      refine sNil ?_
      refine ⟨_, by omega, _, ⟨k + 1, rfl, rfl, by omega, ?_⟩, F.to (by repeat (first | exact trivial | refine Le.cons rfl ?_))⟩
      have hq : ∀ q, q = reachP l alive (k + 1) → Own w0 (some b) w [.blk b16 (bl q) 4, .blk b (bl alive) 4] → Own w0 (some b) w [.blk b16 (bl (reachP l alive (k + 1))) 4, .blk b (bl alive) 4] := fun q e H => e ▸ H
      try simp only [List.getElem_toArray, List.getElem_cons_zero, List.getElem_cons_succ, bl_put] at H
      refine hq _ ?_ (H.sel [1, 2] rfl rfl)
      rw [hrk, getD_of hr1]
      clear H F hq hrk hv hne
      simp [*]
     refine wp_skip ?_
     refine hK8 _ _ ?_; clear hK8
     refine cReg ?_
     refine sBin F rfl rfl rfl rfl (bAddN (j := 1) ?_) ?_
     focus omega
     clear F a; intro a F
     refine sMv F rfl rfl rfl ?_;clear F a;intro a F
     refine sNil ?_
     refine ⟨_, by omega, _, ⟨k + 1, rfl, rfl, by omega, ?_⟩, F.to (by repeat (first | exact trivial | refine Le.cons rfl ?_))⟩
     have hq : ∀ q, q = reachP l alive (k + 1) → Own w0 (some b) w [.blk b16 (bl q) 4, .blk b (bl alive) 4] → Own w0 (some b) w [.blk b16 (bl (reachP l alive (k + 1))) 4, .blk b (bl alive) 4] := fun q e H => e ▸ H
     try simp only [List.getElem_toArray, List.getElem_cons_zero, List.getElem_cons_succ, bl_put] at H
     refine hq _ ?_ (H.sel [1, 2] rfl rfl)
     rw [hrk, getD_of hr1]
     clear H F hq hrk hv hne
     simp [*]
    replace h39 := beqF h39
    refine wp_skip ?_
    refine hK13 _ _ ?_; clear hK13
    refine cSeq (fun K18 hK18 => ?_)
    refine cReg ?_
    refine sMv F rfl rfl rfl ?_;clear F a;intro a F
    refine sMv F rfl rfl rfl ?_;clear F a;intro a F
    refine sBin F rfl rfl rfl rfl (bAddN (j := 1) ?_) ?_
    focus omega
    clear F a; intro a F
    refine sMv F rfl rfl rfl ?_;clear F a;intro a F
    refine sMv F rfl rfl rfl ?_;clear F a;intro a F
    refine sBin F rfl rfl rfl rfl (bAddN (j := 1) ?_) ?_
    focus omega
    clear F a; intro a F
    refine sIx Tryd.underlying101 Tryd.sizeOf4 F rfl rfl rfl rfl ?_ ?_
    focus (first | omega | decide | (simp; omega))
    clear F a; intro a F
    refine sLd Tryd.isAgg4 F rfl rfl rfl (H.cell 1 rfl (bl_at hr1)) ?_;clear F a;intro a F
    refine sMv F rfl rfl rfl ?_;clear F a;intro a F
    refine F.split 53 rfl ?_ ?_ <;> (clear F; intro h53 F)
    ·
     refine sSk F rfl rfl ?_;clear F a;intro a F
     refine sPk F rfl rfl rfl rfl ?_;clear F a;intro a F
     refine sIx Tryd.underlying101 Tryd.sizeOf4 F rfl rfl rfl rfl ?_ ?_
     focus (first | omega | decide | (simp; omega))
     clear F a; intro a F
     refine sSt H 1 Tryd.sizeOf4 F rfl rfl rfl rfl rfl (List.getElem?_eq_getElem (by simp; omega)) ?_
     clear H; intro w H
     refine sNil ?_
     refine hK18 _ _ ?_; clear hK18
     refine cSeq (fun K19 hK19 => ?_)
     refine cReg ?_
     refine sMv F rfl rfl rfl ?_;clear F a;intro a F
     refine sNil ?_
     refine hK19 _ _ ?_; clear hK19
     refine cIfF F rfl ?_
     refine wp_skip ?_
     refine hK8 _ _ ?_; clear hK8
     refine cReg ?_
     refine sBin F rfl rfl rfl rfl (bAddN (j := 1) ?_) ?_
     focus omega
     clear F a; intro a F
     refine sMv F rfl rfl rfl ?_;clear F a;intro a F
     refine sNil ?_
     refine ⟨_, by omega, _, ⟨k + 1, rfl, rfl, by omega, ?_⟩, F.to (by repeat (first | exact trivial | refine Le.cons rfl ?_))⟩
     have hq : ∀ q, q = reachP l alive (k + 1) → Own w0 (some b) w [.blk b16 (bl q) 4, .blk b (bl alive) 4] → Own w0 (some b) w [.blk b16 (bl (reachP l alive (k + 1))) 4, .blk b (bl alive) 4] := fun q e H => e ▸ H
     try simp only [List.getElem_toArray, List.getElem_cons_zero, List.getElem_cons_succ, bl_put] at H
     refine hq _ ?_ (H.sel [1, 2] rfl rfl)
     rw [hrk, getD_of hr1]
     clear H F hq hrk hv hne
     simp [*]
    refine sMv F rfl rfl rfl ?_;clear F a;intro a F
    refine sPk F rfl rfl rfl rfl ?_;clear F a;intro a F
    refine sIx Tryd.underlying101 Tryd.sizeOf4 F rfl rfl rfl rfl ?_ ?_
    focus (first | omega | decide | (simp; omega))
    clear F a; intro a F
    refine sSt H 1 Tryd.sizeOf4 F rfl rfl rfl rfl rfl (List.getElem?_eq_getElem (by simp; omega)) ?_
    clear H; intro w H
    refine sNil ?_
    refine hK18 _ _ ?_; clear hK18
    refine cSeq (fun K20 hK20 => ?_)
    refine cReg ?_
    refine sMv F rfl rfl rfl ?_;clear F a;intro a F
    refine sNil ?_
    refine hK20 _ _ ?_; clear hK20
    refine cIfF F rfl ?_
    refine wp_skip ?_
    refine hK8 _ _ ?_; clear hK8
    refine cReg ?_
    refine sBin F rfl rfl rfl rfl (bAddN (j := 1) ?_) ?_
    focus omega
    clear F a; intro a F
    refine sMv F rfl rfl rfl ?_;clear F a;intro a F
    refine sNil ?_
    refine ⟨_, by omega, _, ⟨k + 1, rfl, rfl, by omega, ?_⟩, F.to (by repeat (first | exact trivial | refine Le.cons rfl ?_))⟩
    have hq : ∀ q, q = reachP l alive (k + 1) → Own w0 (some b) w [.blk b16 (bl q) 4, .blk b (bl alive) 4] → Own w0 (some b) w [.blk b16 (bl (reachP l alive (k + 1))) 4, .blk b (bl alive) 4] := fun q e H => e ▸ H
    try simp only [List.getElem_toArray, List.getElem_cons_zero, List.getElem_cons_succ, bl_put] at H
    refine hq _ ?_ (H.sel [1, 2] rfl rfl)
    rw [hrk, getD_of hr1]
    clear H F hq hrk hv hne
    simp [*]
   refine sSk F rfl rfl ?_;clear F a;intro a F
   refine sSk F rfl rfl ?_;clear F a;intro a F
   refine sSk F rfl rfl ?_;clear F a;intro a F
   refine sPk F rfl rfl rfl rfl ?_;clear F a;intro a F
   refine sNil ?_
   refine hK14 _ _ ?_; clear hK14
   refine cIfF F rfl ?_
   refine wp_skip ?_
   refine hK13 _ _ ?_; clear hK13
   refine cSeq (fun K21 hK21 => ?_)
   refine cReg ?_
   refine sMv F rfl rfl rfl ?_;clear F a;intro a F
   refine sMv F rfl rfl rfl ?_;clear F a;intro a F
   refine sBin F rfl rfl rfl rfl (bAddN (j := 1) ?_) ?_
   focus omega
   clear F a; intro a F
   refine sMv F rfl rfl rfl ?_;clear F a;intro a F
   refine sMv F rfl rfl rfl ?_;clear F a;intro a F
   refine sBin F rfl rfl rfl rfl (bAddN (j := 1) ?_) ?_
   focus omega
   clear F a; intro a F
   refine sIx Tryd.underlying101 Tryd.sizeOf4 F rfl rfl rfl rfl ?_ ?_
   focus (first | omega | decide | (simp; omega))
   clear F a; intro a F
   refine sLd Tryd.isAgg4 F rfl rfl rfl (H.cell 1 rfl (bl_at hr1)) ?_;clear F a;intro a F
   refine sMv F rfl rfl rfl ?_;clear F a;intro a F
   refine F.split 53 rfl ?_ ?_ <;> (clear F; intro h53 F)
   ·
    refine sSk F rfl rfl ?_;clear F a;intro a F
    refine sPk F rfl rfl rfl rfl ?_;clear F a;intro a F
    refine sIx Tryd.underlying101 Tryd.sizeOf4 F rfl rfl rfl rfl ?_ ?_
    focus (first | omega | decide | (simp; omega))
    clear F a; intro a F
    refine sSt H 1 Tryd.sizeOf4 F rfl rfl rfl rfl rfl (List.getElem?_eq_getElem (by simp; omega)) ?_
    clear H; intro w H
    refine sNil ?_
    refine hK21 _ _ ?_; clear hK21
    refine cSeq (fun K22 hK22 => ?_)
    refine cReg ?_
    refine sMv F rfl rfl rfl ?_;clear F a;intro a F
    refine sNil ?_
    refine hK22 _ _ ?_; clear hK22
    refine cIfF F rfl ?_
    refine wp_skip ?_
    refine hK8 _ _ ?_; clear hK8
    refine cReg ?_
    refine sBin F rfl rfl rfl rfl (bAddN (j := 1) ?_) ?_
    focus omega
    clear F a; intro a F
    refine sMv F rfl rfl rfl ?_;clear F a;intro a F
    refine sNil ?_
    refine ⟨_, by omega, _, ⟨k + 1, rfl, rfl, by omega, ?_⟩, F.to (by repeat (first | exact trivial | refine Le.cons rfl ?_))⟩
    have hq : ∀ q, q = reachP l alive (k + 1) → Own w0 (some b) w [.blk b16 (bl q) 4, .blk b (bl alive) 4] → Own w0 (some b) w [.blk b16 (bl (reachP l alive (k + 1))) 4, .blk b (bl alive) 4] := fun q e H => e ▸ H
    try simp only [List.getElem_toArray, List.getElem_cons_zero, List.getElem_cons_succ, bl_put] at H
    refine hq _ ?_ (H.sel [1, 2] rfl rfl)
    rw [hrk, getD_of hr1]
    clear H F hq hrk hv hne
    simp [*]
   refine sMv F rfl rfl rfl ?_;clear F a;intro a F
   refine sPk F rfl rfl rfl rfl ?_;clear F a;intro a F
   refine sIx Tryd.underlying101 Tryd.sizeOf4 F rfl rfl rfl rfl ?_ ?_
   focus (first | omega | decide | (simp; omega))
   clear F a; intro a F
   refine sSt H 1 Tryd.sizeOf4 F rfl rfl rfl rfl rfl (List.getElem?_eq_getElem (by simp; omega)) ?_
   clear H; intro w H
   refine sNil ?_
   refine hK21 _ _ ?_; clear hK21
   refine cSeq (fun K23 hK23 => ?_)
   refine cReg ?_
   refine sMv F rfl rfl rfl ?_;clear F a;intro a F
   refine sNil ?_
   refine hK23 _ _ ?_; clear hK23
   refine cIfF F rfl ?_
   refine wp_skip ?_
   refine hK8 _ _ ?_; clear hK8
   refine cReg ?_
   refine sBin F rfl rfl rfl rfl (bAddN (j := 1) ?_) ?_
   focus omega
   clear F a; intro a F
   refine sMv F rfl rfl rfl ?_;clear F a;intro a F
   refine sNil ?_
   refine ⟨_, by omega, _, ⟨k + 1, rfl, rfl, by omega, ?_⟩, F.to (by repeat (first | exact trivial | refine Le.cons rfl ?_))⟩
   have hq : ∀ q, q = reachP l alive (k + 1) → Own w0 (some b) w [.blk b16 (bl q) 4, .blk b (bl alive) 4] → Own w0 (some b) w [.blk b16 (bl (reachP l alive (k + 1))) 4, .blk b (bl alive) 4] := fun q e H => e ▸ H
   try simp only [List.getElem_toArray, List.getElem_cons_zero, List.getElem_cons_succ, bl_put] at H
   refine hq _ ?_ (H.sel [1, 2] rfl rfl)
   rw [hrk, getD_of hr1]
   clear H F hq hrk hv hne
   simp [*]
  replace h22 := of_decide_eq_false h22
  obtain rfl : k = l.length := by omega
  refine wp_exit ?_
  refine hK4 _ _ ?_; clear hK4
  refine cSeq (fun K24 hK24 => ?_)
  refine cReg ?_
  refine sAs F rfl rfl rfl ?_;clear F a;intro a F
  refine sNil ?_
  refine hK24 _ _ ?_; clear hK24
  refine cSeq (fun K25 hK25 => ?_)
  refine cSeq (fun K26 hK26 => ?_)
  refine cReg ?_
  refine sMv F rfl rfl rfl ?_;clear F a;intro a F
  refine sLen Tryd.underlying22 F rfl rfl rfl ?_;clear F a;intro a F
  refine sMv F rfl rfl rfl ?_;clear F a;intro a F
  refine sNil ?_
  refine hK26 _ _ ?_; clear hK26
  refine wp_block ?_
  refine cLoopR [0, 1, 5, 67, 68] (fun m ups w => ∃ k : Nat, m = l.length - k ∧ ups = [(10, .bool (sweepK l (reachP l alive l.length) alive k).2), (69, .int .i64 ((k : Nat) : Int))] ∧ k ≤ l.length ∧ Own w0 (some b) w [.blk b16 (bl (reachP l alive l.length)) 4, .blk b (bl (sweepK l (reachP l alive l.length) alive k).1) 4]) F (l.length) [(10, .bool false), (69, .int .i64 ((0 : Nat) : Int))] (by repeat (first | exact SubR.nil | (apply SubR.cons; · rfl))) ?_ ?_ ?_
  · exact ⟨0, rfl, rfl, by omega, H⟩
  · repeat (first | exact trivial | refine Le.cons rfl ?_)
  clear F
  clear H
  intro m ups a w hI F
  obtain ⟨k, rfl, rfl, hk, H⟩ := hI
  have hsl := sweepK_length l (reachP l alive l.length) alive k
  generalize hSK : sweepK l (reachP l alive l.length) alive k = SK at H F hsl
  refine cSeq (fun K27 hK27 => ?_)
  refine cReg ?_
  refine sBin F rfl rfl rfl rfl bLss ?_;clear F a;intro a F
  refine sNil ?_
  refine hK27 _ _ ?_; clear hK27
  refine cSeq (fun K28 hK28 => ?_)
  refine cIf F rfl (fun h70 => ?_) (fun h70 => ?_)
  ·
   replace h70 := of_decide_eq_true h70
   have hkl : k < l.length := by omega
   obtain ⟨x, hx⟩ : ∃ x, l[k]? = some x := ⟨_, List.getElem?_eq_getElem hkl⟩
   have hR2 := hR
   obtain ⟨bI, oI, rfl, hIx⟩ := hR k x.cells (by rw [List.getElem?_map, hx]; rfl)
   have hneI := hne (by omega) bI oI rfl
   obtain ⟨rv, hrv⟩ : ∃ v, (reachP l alive l.length)[k]? = some v := ⟨_, List.getElem?_eq_getElem (by omega)⟩
   obtain ⟨av, hav⟩ : ∃ v, SK.1[k]? = some v := ⟨_, List.getElem?_eq_getElem (by omega)⟩
   have hsk := sweepK_at (r := reachP l alive l.length) (alive := alive) hx
   rw [hSK, getD_of hav, getD_of hrv] at hsk
   refine wp_skip ?_
   refine hK28 _ _ ?_; clear hK28
   refine cSeq (fun K29 hK29 => ?_)
   refine wp_block ?_
   refine cSeq (fun K30 hK30 => ?_)
   refine cReg ?_
   refine sMv F rfl rfl rfl ?_;clear F a;intro a F
   refine sIx Tryd.underlying22 Tryd.sizeOf50 F rfl rfl rfl rfl ?_ ?_
   focus (first | omega | decide | (simp; omega))
   clear F a; intro a F
   refine sLr Tryd.underlying50 rfl ?si F rfl rfl rfl (fun j v hj => H.old (hIx j v hj) (fun e => hneI (Option.some.inj e))) ?_
   case si => exact info_size Tryd.sizeOf50
   clear F a; intro a F
   refine sAl H Tryd.zeroValue50 F rfl rfl ?_
   clear F a H; intro b12 a w F H
   refine sAs F rfl rfl rfl ?_;clear F a;intro a F
   refine sSr H 0 ?si F rfl rfl rfl ?s1 rfl rfl ?_
   case si => exact info_size Tryd.sizeOf50
   case s1 => first | rfl | (repeat (first | exact one_nil | (apply one_cons; · first | rfl | assumption | exact one_bif rfl rfl)))
   clear H; intro w H
   refine sNil ?_
   refine hK30 _ _ ?_; clear hK30
   refine cSeq (fun K31 hK31 => ?_)
   refine cReg ?_
   refine sMv F rfl rfl rfl ?_;clear F a;intro a F
   refine sMv F rfl rfl rfl ?_;clear F a;intro a F
   refine sIx Tryd.underlying101 Tryd.sizeOf4 F rfl rfl rfl rfl ?_ ?_
   focus (first | omega | decide | (simp; omega))
   clear F a; intro a F
   refine sLd Tryd.isAgg4 F rfl rfl rfl (H.cell 2 rfl (bl_at hav)) ?_;clear F a;intro a F
   refine sMv F rfl rfl rfl ?_;clear F a;intro a F
   refine F.split 78 rfl ?_ ?_ <;> (clear F; intro h78 F)
   ·
    refine sMv F rfl rfl rfl ?_;clear F a;intro a F
    refine sMv F rfl rfl rfl ?_;clear F a;intro a F
    refine sIx Tryd.underlying101 Tryd.sizeOf4 F rfl rfl rfl rfl ?_ ?_
    focus (first | omega | decide | (simp; omega))
    clear F a; intro a F
    refine sLd Tryd.isAgg4 F rfl rfl rfl (H.cell 1 rfl (bl_at hrv)) ?_;clear F a;intro a F
    refine sNot F rfl rfl rfl ?_;clear F a;intro a F
    refine sMv F rfl rfl rfl ?_;clear F a;intro a F
    refine F.split 84 rfl ?_ ?_ <;> (clear F; intro h84 F)
    ·
     replace h84 := notT h84
     refine sSk F rfl rfl ?_;clear F a;intro a F
     refine sSk F rfl rfl ?_;clear F a;intro a F
     refine sSk F rfl rfl ?_;clear F a;intro a F
     refine sSk F rfl rfl ?_;clear F a;intro a F
     refine sSk F rfl rfl ?_;clear F a;intro a F
     refine sSk F rfl rfl ?_;clear F a;intro a F
     refine sSk F rfl rfl ?_;clear F a;intro a F
     refine sSk F rfl rfl ?_;clear F a;intro a F
     refine sSk F rfl rfl ?_;clear F a;intro a F
     refine sPk F rfl rfl rfl rfl ?_;clear F a;intro a F
     refine sPk F rfl rfl rfl rfl ?_;clear F a;intro a F
     refine sNil ?_
     refine hK31 _ _ ?_; clear hK31
     refine cIfT F rfl ?_
     refine cSeq (fun K32 hK32 => ?_)
     refine cReg ?_
     refine sMv F rfl rfl rfl ?_;clear F a;intro a F
     refine sMv F rfl rfl rfl ?_;clear F a;intro a F
     refine sIx Tryd.underlying101 Tryd.sizeOf4 F rfl rfl rfl rfl ?_ ?_
     focus (first | omega | decide | (simp; omega))
     clear F a; intro a F
     refine sSt H 2 Tryd.sizeOf4 F rfl rfl rfl rfl rfl (List.getElem?_eq_getElem (by simp; omega)) ?_
     clear H; intro w H
     refine sNil ?_
     refine hK32 _ _ ?_; clear hK32
     refine cReg ?_
     refine sAs F rfl rfl rfl ?_;clear F a;intro a F
     refine sNil ?_
     refine hK29 _ _ ?_; clear hK29
     refine cReg ?_
     refine sBin F rfl rfl rfl rfl (bAddN (j := 1) ?_) ?_
     focus omega
     clear F a; intro a F
     refine sMv F rfl rfl rfl ?_;clear F a;intro a F
     refine sNil ?_
     first
       | (rw [if_pos (by simp [*])] at hsk
          rw [bl_put] at H
          exact ⟨_, by omega, _, ⟨k + 1, rfl, by rw [hsk], by omega, by rw [hsk]; exact H.sel [1, 2] rfl rfl⟩, F.to (by repeat (first | exact trivial | refine Le.cons rfl ?_))⟩)
       | (rw [if_neg (by simp [*])] at hsk
          exact ⟨_, by omega, _, ⟨k + 1, rfl, by rw [hsk], by omega, by rw [hsk]; exact H.sel [1, 2] rfl rfl⟩, F.to (by repeat (first | exact trivial | refine Le.cons rfl ?_))⟩)
    replace h84 := notF h84
    refine sFa (f := 0) (k := 0) Tryd.underlying50 rfl Tryd.sizeOf5 rfl rfl F rfl rfl rfl ?_;clear F a;intro a F
    refine sLd Tryd.isAgg5 F rfl rfl rfl (H.cell 0 rfl rfl) ?_;clear F a;intro a F
    refine sBin F rfl rfl rfl rfl (bEqlB (y := 8)) ?_;clear F a;intro a F
    refine sMv F rfl rfl rfl ?_;clear F a;intro a F
    refine F.split 88 rfl ?_ ?_ <;> (clear F; intro h88 F)
    ·
     replace h88 := beqT h88
     obtain ⟨hs1, hs2⟩ := hv k x hx h88
     refine sMv F rfl rfl rfl ?_;clear F a;intro a F
     refine sMv F rfl rfl rfl ?_;clear F a;intro a F
     refine sMv F rfl rfl rfl ?_;clear F a;intro a F
     refine sCall Tryd.call83 F rfl rfl rfl ((by have := idle_any _ C l b SK.1 k x _ ⟨hR2.oldRow H (hne (by omega)), H.whole 2 rfl, hx, by omega, h12, hs1, hs2⟩; rw [hsl] at this; exact this)) ?_
     rintro e w ⟨rfl, hb⟩
     replace H := H.grow hb; clear hb
     refine ⟨_, rfl, ?_⟩
     clear F a; intro a F
     refine sPk F rfl rfl rfl rfl ?_;clear F a;intro a F
     refine sPk F rfl rfl rfl rfl ?_;clear F a;intro a F
     refine sPk F rfl rfl rfl rfl ?_;clear F a;intro a F
     refine sNil ?_
     refine hK31 _ _ ?_; clear hK31
     refine cIf F rfl (fun h95 => ?_) (fun h95 => ?_)
     ·
      refine cSeq (fun K33 hK33 => ?_)
      refine cReg ?_
      refine sMv F rfl rfl rfl ?_;clear F a;intro a F
      refine sMv F rfl rfl rfl ?_;clear F a;intro a F
      refine sIx Tryd.underlying101 Tryd.sizeOf4 F rfl rfl rfl rfl ?_ ?_
      focus (first | omega | decide | (simp; omega))
      clear F a; intro a F
      refine sSt H 2 Tryd.sizeOf4 F rfl rfl rfl rfl rfl (List.getElem?_eq_getElem (by simp; omega)) ?_
      clear H; intro w H
      refine sNil ?_
      refine hK33 _ _ ?_; clear hK33
      refine cReg ?_
      refine sAs F rfl rfl rfl ?_;clear F a;intro a F
      refine sNil ?_
      refine hK29 _ _ ?_; clear hK29
      refine cReg ?_
      refine sBin F rfl rfl rfl rfl (bAddN (j := 1) ?_) ?_
      focus omega
      clear F a; intro a F
      refine sMv F rfl rfl rfl ?_;clear F a;intro a F
      refine sNil ?_
      first
        | (rw [if_pos (by simp [*])] at hsk
           rw [bl_put] at H
           exact ⟨_, by omega, _, ⟨k + 1, rfl, by rw [hsk], by omega, by rw [hsk]; exact H.sel [1, 2] rfl rfl⟩, F.to (by repeat (first | exact trivial | refine Le.cons rfl ?_))⟩)
        | (rw [if_neg (by simp [*])] at hsk
           exact ⟨_, by omega, _, ⟨k + 1, rfl, by rw [hsk], by omega, by rw [hsk]; exact H.sel [1, 2] rfl rfl⟩, F.to (by repeat (first | exact trivial | refine Le.cons rfl ?_))⟩)
     refine wp_skip ?_
     refine hK29 _ _ ?_; clear hK29
     refine cReg ?_
     refine sBin F rfl rfl rfl rfl (bAddN (j := 1) ?_) ?_
     focus omega
     clear F a; intro a F
     refine sMv F rfl rfl rfl ?_;clear F a;intro a F
     refine sNil ?_
     first
       | (rw [if_pos (by simp [*])] at hsk
          rw [bl_put] at H
          exact ⟨_, by omega, _, ⟨k + 1, rfl, by rw [hsk], by omega, by rw [hsk]; exact H.sel [1, 2] rfl rfl⟩, F.to (by repeat (first | exact trivial | refine Le.cons rfl ?_))⟩)
       | (rw [if_neg (by simp [*])] at hsk
          exact ⟨_, by omega, _, ⟨k + 1, rfl, by rw [hsk], by omega, by rw [hsk]; exact H.sel [1, 2] rfl rfl⟩, F.to (by repeat (first | exact trivial | refine Le.cons rfl ?_))⟩)
    replace h88 := beqF h88
    refine sSk F rfl rfl ?_;clear F a;intro a F
    refine sSk F rfl rfl ?_;clear F a;intro a F
    refine sSk F rfl rfl ?_;clear F a;intro a F
    refine sSk F rfl rfl ?_;clear F a;intro a F
    refine sPk F rfl rfl rfl rfl ?_;clear F a;intro a F
    refine sPk F rfl rfl rfl rfl ?_;clear F a;intro a F
    refine sPk F rfl rfl rfl rfl ?_;clear F a;intro a F
    refine sNil ?_
    refine hK31 _ _ ?_; clear hK31
    refine cIfF F rfl ?_
    refine wp_skip ?_
    refine hK29 _ _ ?_; clear hK29
    refine cReg ?_
    refine sBin F rfl rfl rfl rfl (bAddN (j := 1) ?_) ?_
    focus omega
    clear F a; intro a F
    refine sMv F rfl rfl rfl ?_;clear F a;intro a F
    refine sNil ?_
    first
      | (rw [if_pos (by simp [*])] at hsk
         rw [bl_put] at H
         exact ⟨_, by omega, _, ⟨k + 1, rfl, by rw [hsk], by omega, by rw [hsk]; exact H.sel [1, 2] rfl rfl⟩, F.to (by repeat (first | exact trivial | refine Le.cons rfl ?_))⟩)
      | (rw [if_neg (by simp [*])] at hsk
         exact ⟨_, by omega, _, ⟨k + 1, rfl, by rw [hsk], by omega, by rw [hsk]; exact H.sel [1, 2] rfl rfl⟩, F.to (by repeat (first | exact trivial | refine Le.cons rfl ?_))⟩)
   refine sSk F rfl rfl ?_;clear F a;intro a F
   refine sSk F rfl rfl ?_;clear F a;intro a F
   refine sSk F rfl rfl ?_;clear F a;intro a F
   refine sSk F rfl rfl ?_;clear F a;intro a F
   refine sSk F rfl rfl ?_;clear F a;intro a F
   refine sSk F rfl rfl ?_;clear F a;intro a F
   refine sSk F rfl rfl ?_;clear F a;intro a F
   refine sSk F rfl rfl ?_;clear F a;intro a F
   refine sSk F rfl rfl ?_;clear F a;intro a F
   refine sSk F rfl rfl ?_;clear F a;intro a F
   refine sSk F rfl rfl ?_;clear F a;intro a F
   refine sSk F rfl rfl ?_;clear F a;intro a F
   refine sSk F rfl rfl ?_;clear F a;intro a F
   refine sSk F rfl rfl ?_;clear F a;intro a F
   refine sSk F rfl rfl ?_;clear F a;intro a F
   refine sSk F rfl rfl ?_;clear F a;intro a F
   refine sPk F rfl rfl rfl rfl ?_;clear F a;intro a F
   refine sNil ?_
   refine hK31 _ _ ?_; clear hK31
   refine cIfF F rfl ?_
   refine wp_skip ?_
   refine hK29 _ _ ?_; clear hK29
   refine cReg ?_
   refine sBin F rfl rfl rfl rfl (bAddN (j := 1) ?_) ?_
   focus omega
   clear F a; intro a F
   refine sMv F rfl rfl rfl ?_;clear F a;intro a F
   refine sNil ?_
   first
     | (rw [if_pos (by simp [*])] at hsk
        rw [bl_put] at H
        exact ⟨_, by omega, _, ⟨k + 1, rfl, by rw [hsk], by omega, by rw [hsk]; exact H.sel [1, 2] rfl rfl⟩, F.to (by repeat (first | exact trivial | refine Le.cons rfl ?_))⟩)
     | (rw [if_neg (by simp [*])] at hsk
        exact ⟨_, by omega, _, ⟨k + 1, rfl, by rw [hsk], by omega, by rw [hsk]; exact H.sel [1, 2] rfl rfl⟩, F.to (by repeat (first | exact trivial | refine Le.cons rfl ?_))⟩)
  replace h70 := of_decide_eq_false h70
  obtain rfl : k = l.length := by omega
  refine wp_exit ?_
  refine hK25 _ _ ?_; clear hK25
  refine cSeq (fun K34 hK34 => ?_)
  refine cReg ?_
  refine sMv F rfl rfl rfl ?_;clear F a;intro a F
  refine sAs F rfl rfl rfl ?_;clear F a;intro a F
  refine sNil ?_
  refine hK34 _ _ ?_; clear hK34
  refine wp_ret ?_
  refine bRet Tryd.results66 F rfl ?_
  exact ⟨by rw [sweepP, hSK], by rw [sweepP, hSK]; exact H.pick 1 rfl⟩
end Go.Proofs.YtmfdpnjgljlkbaaDoor
