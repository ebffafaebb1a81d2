/-
  WALK2. The law AtomicTells. Conditions: the arguments lie in memory; the condition's depth is a number that an int holds; block 0 holds the table of needs.
-/
import Derived.Test.YtfemniboggnbiaaDoorRfG
import Derived.Test.YtfemniboggnbiaaDoorVcX
set_option linter.unusedSimpArgs false
set_option linter.unusedVariables false
namespace Go.Proofs.YtfemniboggnbiaaDoor
open Go.RowKit
set_option maxRecDepth 100000

theorem two_at {s z q : By} {j : Nat} (h : [s, z][j]? = some q) : (([bs 142 s, bs 142 z].flatten).drop (j * 142)).take 142 = bs 142 q := by
  match j, h with
  | 0, h => cases h; simp [List.flatten]
  | 1, h => cases h; simp [List.flatten]; exact List.take_of_length_le (by simp)
  | n + 2, h => simp at h
theorem Own.two {w0 w : World} {row : Option Nat} {rs : List Res} (H : Own w0 row w rs) {s z q : By} {B : Nat} {e : TypeId} {j : Nat} (i : Nat) (hi : rs[i]? = some (.blk B [bs 142 s, bs 142 z].flatten e)) (h : [s, z][j]? = some q) :
    w.rangeAt B (0 + j * 142) (bs 142 q) := by
  have := H.range i hi (j * 142) 142
  rw [two_at h] at this
  rwa [Nat.zero_add]
set_option maxHeartbeats 4000000 in
theorem tells_any (cs : List Value) (p : Prg) (w0 : World) (hP : ProgAt w0 cs p) (hN : NeedsAt w0) (hd : deepC p.cond ≤ 9223372036854775807) (s : By) (t : Int) (PA : Option Addr) (PC : Nat) (picks : List UInt8) (hB : BytesAt w0 PA picks) (hBn : picks.length ≤ 9223372036854775807) (hBc : picks.length ≤ PC) (x : Ins) (th : By) :
    Calls Tryd.prog 5 #[.agg cs.toArray, .agg (bs 142 s).toArray, .int .i64 t, .slice PA picks.length PC, .agg x.cells.toArray, .agg (bs 9 th).toArray] w0 fun e w' => e = .returned (.bool true) ∧ Below w0.heap.size w0 w' := by
  have H := Own.start w0 none
  obtain ⟨d1, d2, d3, d4, d5, d6, d7, d8, d9, d10, rfl⟩ := hP.len10
  have hlen : (picks.take 60).length = min picks.length 60 := by rw [List.length_take]; omega
  have hBt : BytesAt w0 PA (picks.take 60) := fun j c hj => hB j c (by
    rw [List.getElem?_map] at hj ⊢
    rw [List.getElem?_take] at hj
    split at hj
    · exact hj
    · cases hj)
  generalize hQ : picks.take 60 = Q at hlen hBt
  refine enterF Tryd.func5 rfl Tryd.ntmps5 rfl (fun a F => ?_)
  refine cSeq (fun K1 hK1 => ?_)
  refine cReg ?_
  refine sBx H F rfl rfl rfl ?_
  clear F a H; intro b6 a w F H
  refine sBxB H F rfl rfl rfl ?_
  clear F a H; intro b7 a w F H
  refine sBx H F rfl rfl rfl ?_
  clear F a H; intro b10 a w F H
  refine sBxB H F rfl rfl rfl ?_
  clear F a H; intro b11 a w F H
  refine sAs F rfl rfl rfl ?_
  clear F a; intro a F
  refine sNil ?_
  refine hK1 _ _ ?_; clear hK1
  refine cSeq (fun K2 hK2 => ?_)
  refine cReg ?_
  refine sLr Tryd.underlying29 rfl ?si F rfl rfl rfl (H.whole 3 rfl) ?_
  case si => exact info_size Tryd.sizeOf29
  clear F a; intro a F
  refine sCall Tryd.call18 F rfl rfl rfl (start_any _ p _ (hP.own H) (hN.own H)) ?_
  rintro e w ⟨rfl, hb⟩
  replace H := H.grow hb; clear hb
  refine ⟨_, rfl, ?_⟩
  clear F a; intro a F
  refine sMv F rfl rfl rfl ?_
  clear F a; intro a F
  refine sExt F rfl rfl rfl rfl ?_
  clear F a; intro a F
  refine sExt F rfl rfl rfl rfl ?_
  clear F a; intro a F
  refine sAlB H zB41 F rfl rfl ?_
  clear F a H; intro b13 a w F H
  refine sSrB H 0 Tryd.sizeOf41 F rfl rfl rfl rfl (by omega) ?_
  clear H; intro w H
  rw [lay_all] at H
  refine sAs F rfl rfl rfl ?_
  clear F a; intro a F
  refine sNil ?_
  refine hK2 _ _ ?_; clear hK2
  refine cSeq (fun K3 hK3 => ?_)
  refine cReg ?_
  refine sLr Tryd.underlying29 rfl ?si F rfl rfl rfl (H.whole 4 rfl) ?_
  case si => exact info_size Tryd.sizeOf29
  clear F a; intro a F
  refine sCall Tryd.call19 F rfl rfl rfl (r13start_any _ p _ (hP.own H) hd) ?_
  rintro e w ⟨rfl, hb⟩
  replace H := H.grow hb; clear hb
  refine ⟨_, rfl, ?_⟩
  clear F a; intro a F
  refine sMv F rfl rfl rfl ?_
  clear F a; intro a F
  refine sExt F rfl rfl rfl rfl ?_
  clear F a; intro a F
  refine sExt F rfl rfl rfl rfl ?_
  clear F a; intro a F
  refine sAlB H zB41 F rfl rfl ?_
  clear F a H; intro b15 a w F H
  refine sSrB H 0 Tryd.sizeOf41 F rfl rfl rfl rfl (by omega) ?_
  clear H; intro w H
  rw [lay_all] at H
  refine sAs F rfl rfl rfl ?_
  clear F a; intro a F
  refine sNil ?_
  refine hK3 _ _ ?_; clear hK3
  refine cSeq (fun K4 hK4 => ?_)
  refine cReg ?_
  refine sLr Tryd.underlying52 rfl ?si F rfl rfl rfl (H.whole 3 rfl) ?_
  case si => exact info_size Tryd.sizeOf52
  clear F a; intro a F
  refine sLrB Tryd.underlying32 rfl Tryd.sizeOf32 F rfl rfl rfl (H.whole 2 rfl) ?_
  clear F a; intro a F
  refine sCall Tryd.call16 F rfl rfl rfl (local_any x th _) ?_
  rintro e w ⟨rfl, hb⟩
  replace H := H.grow hb; clear hb
  refine ⟨_, rfl, ?_⟩
  clear F a; intro a F
  refine sMv F rfl rfl rfl ?_
  clear F a; intro a F
  refine sExt F rfl rfl rfl rfl ?_
  clear F a; intro a F
  refine sExt F rfl rfl rfl rfl ?_
  clear F a; intro a F
  refine sAlB H zB32 F rfl rfl ?_
  clear F a H; intro b17 a w F H
  refine sSrB H 0 Tryd.sizeOf32 F rfl rfl rfl rfl (by omega) ?_
  clear H; intro w H
  rw [lay_all] at H
  refine sAs F rfl rfl rfl ?_
  clear F a; intro a F
  refine sNil ?_
  refine hK4 _ _ ?_; clear hK4
  refine cSeq (fun K5 hK5 => ?_)
  refine cReg ?_
  refine sLr Tryd.underlying52 rfl ?si F rfl rfl rfl (H.whole 4 rfl) ?_
  case si => exact info_size Tryd.sizeOf52
  clear F a; intro a F
  refine sLrB Tryd.underlying32 rfl Tryd.sizeOf32 F rfl rfl rfl (H.whole 3 rfl) ?_
  clear F a; intro a F
  refine sCall Tryd.call20 F rfl rfl rfl (rlocal_any x th _) ?_
  rintro e w ⟨rfl, hb⟩
  replace H := H.grow hb; clear hb
  refine ⟨_, rfl, ?_⟩
  clear F a; intro a F
  refine sMv F rfl rfl rfl ?_
  clear F a; intro a F
  refine sExt F rfl rfl rfl rfl ?_
  clear F a; intro a F
  refine sExt F rfl rfl rfl rfl ?_
  clear F a; intro a F
  refine sAlB H zB32 F rfl rfl ?_
  clear F a H; intro b19 a w F H
  refine sSrB H 0 Tryd.sizeOf32 F rfl rfl rfl rfl (by omega) ?_
  clear H; intro w H
  rw [lay_all] at H
  refine sAs F rfl rfl rfl ?_
  clear F a; intro a F
  refine sNil ?_
  refine hK5 _ _ ?_; clear hK5
  refine cSeq (fun K6 hK6 => ?_)
  refine cSeq (fun K7 hK7 => ?_)
  refine cRegRO (by kernel_rfl) H ?_
  replace H := H.drew
  refine eTake (k := 0) (i := 0) rfl (by kernel_rfl) F rfl rfl rfl rfl (fun w H => rLrB Tryd.underlying41 rfl Tryd.sizeOf41 F rfl (H.whole 3 rfl)) (H.sel [0, 1, 2, 3, 4, 5, 6, 7] rfl rfl) (fun _ _ _ h => h) ?_
  clear F a; intro a F
  refine eTake (k := 1) (i := 1) rfl (by kernel_rfl) F rfl rfl rfl rfl (fun w H => rLrB Tryd.underlying41 rfl Tryd.sizeOf41 F rfl (H.whole 2 rfl)) (H.sel [0, 1, 2, 3, 4, 5, 6, 7] rfl rfl) (fun _ _ _ h => h) ?_
  clear F a; intro a F
  refine eTakeF (k := 2) (i := 2) rfl (by kernel_rfl) F rfl rfl rfl (fun w => rBin F rfl rfl (bNeY eT41 gT41 rfl)) (H.sel [0, 1, 2, 3, 4, 5, 6, 7] rfl rfl) (fun _ _ _ h => h) ?_
  clear F a; intro a F
  refine eTakeF (k := 3) (i := 3) rfl (by kernel_rfl) F rfl rfl rfl (fun w => rMv F rfl) (H.sel [0, 1, 2, 3, 4, 5, 6, 7] rfl rfl) (fun _ _ _ h => h) ?_
  clear F a; intro a F
  refine F.split 59 rfl ?_ ?_ <;> (clear F; intro h59 F)
  ·
   replace h59 := notT h59
   exact notEq (same_iff.2 fun _ _ => rfl) h59
  ·
   replace h59 := notF h59
   refine eTakeF (k := 4) (i := 4) rfl (by kernel_rfl) F rfl rfl rfl (fun w => rMv F rfl) (H.sel [0, 1, 2, 3, 4, 5, 6, 7] rfl rfl) (fun _ _ _ h => h) ?_
   clear F a; intro a F
   refine eTakeF (k := 5) (i := 5) rfl (by kernel_rfl) F rfl rfl rfl (fun w => rMv F rfl) (H.sel [0, 1, 2, 3, 4, 5, 6, 7] rfl rfl) (fun _ _ _ h => h) ?_
   clear F a; intro a F
   refine eTakeF (k := 6) (i := 6) rfl (by kernel_rfl) F rfl rfl rfl (fun w => rBin F rfl rfl bNeq) (H.sel [0, 1, 2, 3, 4, 5, 6, 7] rfl rfl) (fun _ _ _ h => h) ?_
   clear F a; intro a F
   refine eTakeF (k := 7) (i := 7) rfl (by kernel_rfl) F rfl rfl rfl (fun w => rPk F rfl rfl) (H.sel [0, 1, 2, 3, 4, 5, 6, 7] rfl rfl) (fun _ _ _ h => h) ?_
   clear F a; intro a F
   refine eTakeF (k := 8) (i := 8) rfl (by kernel_rfl) F rfl rfl rfl (fun w => rMv F rfl) (H.sel [0, 1, 2, 3, 4, 5, 6, 7] rfl rfl) (fun _ _ _ h => h) ?_
   clear F a; intro a F
   refine F.split 64 rfl ?_ ?_ <;> (clear F; intro h64 F)
   ·
    replace h64 := bneT h64
    exact absurd rfl h64
   ·
    replace h64 := bneF h64
    refine eTake (k := 9) (i := 9) rfl (by kernel_rfl) F rfl rfl rfl rfl (fun w H => rLrB Tryd.underlying32 rfl Tryd.sizeOf32 F rfl (H.whole 1 rfl)) (H.sel [0, 1, 2, 3, 4, 5, 6, 7] rfl rfl) (fun _ _ _ h => h) ?_
    clear F a; intro a F
    refine eTake (k := 10) (i := 10) rfl (by kernel_rfl) F rfl rfl rfl rfl (fun w H => rLrB Tryd.underlying32 rfl Tryd.sizeOf32 F rfl (H.whole 0 rfl)) (H.sel [0, 1, 2, 3, 4, 5, 6, 7] rfl rfl) (fun _ _ _ h => h) ?_
    clear F a; intro a F
    refine eTakeF (k := 11) (i := 11) rfl (by kernel_rfl) F rfl rfl rfl (fun w => rBin F rfl rfl (bNeY eT32 gT32 rfl)) (H.sel [0, 1, 2, 3, 4, 5, 6, 7] rfl rfl) (fun _ _ _ h => h) ?_
    clear F a; intro a F
    refine eTakeF (k := 12) (i := 12) rfl (by kernel_rfl) F rfl rfl rfl (fun w => rPk F rfl rfl) (H.sel [0, 1, 2, 3, 4, 5, 6, 7] rfl rfl) (fun _ _ _ h => h) ?_
    clear F a; intro a F
    refine eTakeF (k := 13) (i := 13) rfl (by kernel_rfl) F rfl rfl rfl (fun w => rMv F rfl) (H.sel [0, 1, 2, 3, 4, 5, 6, 7] rfl rfl) (fun _ _ _ h => h) ?_
    clear F a; intro a F
    refine F.split 69 rfl ?_ ?_ <;> (clear F; intro h69 F)
    ·
     replace h69 := notT h69
     exact notEq (same_iff.2 fun _ _ => rfl) h69
    ·
     replace h69 := notF h69
     refine eTakeF (k := 14) (i := 14) rfl (by kernel_rfl) F rfl rfl rfl (fun w => rMv F rfl) (H.sel [0, 1, 2, 3, 4, 5, 6, 7] rfl rfl) (fun _ _ _ h => h) ?_
     clear F a; intro a F
     refine eTakeF (k := 15) (i := 15) rfl (by kernel_rfl) F rfl rfl rfl (fun w => rMv F rfl) (H.sel [0, 1, 2, 3, 4, 5, 6, 7] rfl rfl) (fun _ _ _ h => h) ?_
     clear F a; intro a F
     refine eTakeF (k := 16) (i := 16) rfl (by kernel_rfl) F rfl rfl rfl (fun w => rBin F rfl rfl (bBoolNe Tryd.underlying4)) (H.sel [0, 1, 2, 3, 4, 5, 6, 7] rfl rfl) (fun _ _ _ h => h) ?_
     clear F a; intro a F
     refine eTakeF (k := 17) (i := 17) rfl (by kernel_rfl) F rfl rfl rfl (fun w => rPk F rfl rfl) (H.sel [0, 1, 2, 3, 4, 5, 6, 7] rfl rfl) (fun _ _ _ h => h) ?_
     clear F a; intro a F
     refine eTakeF (k := 18) (i := 18) rfl (by kernel_rfl) F rfl rfl rfl (fun w => rMv F rfl) (H.sel [0, 1, 2, 3, 4, 5, 6, 7] rfl rfl) (fun _ _ _ h => h) ?_
     clear F a; intro a F
     refine F.split 74 rfl ?_ ?_ <;> (clear F; intro h74 F)
     ·
      replace h74 := nbeqT h74
      exact absurd rfl h74
     ·
      replace h74 := nbeqF h74
      refine eTakeF (k := 19) (i := 19) rfl (by kernel_rfl) F rfl rfl rfl (fun w => rFa (f := 3) (k := 3) Tryd.underlying52 rfl Tryd.sizeOf50 rfl rfl F rfl) (H.sel [0, 1, 2, 3, 4, 5, 6, 7] rfl rfl) (fun _ _ _ h => h) ?_
      clear F a; intro a F
      refine eTake (k := 20) (i := 20) rfl (by kernel_rfl) F rfl rfl rfl rfl (fun w H => rLr Tryd.underlying50 rfl ?si F rfl (H.range 5 rfl _ 2)) (H.sel [0, 1, 2, 3, 4, 5, 6, 7] rfl rfl) (fun _ _ _ h => h) ?_
      case si => exact info_size Tryd.sizeOf50
      clear F a; intro a F
      refine eTakeF (k := 21) (i := 21) rfl (by kernel_rfl) F rfl rfl rfl (fun w => rFa (f := 1) (k := 1) Tryd.underlying32 rfl Tryd.sizeOf30 rfl rfl F rfl) (H.sel [0, 1, 2, 3, 4, 5, 6, 7] rfl rfl) (fun _ _ _ h => h) ?_
      clear F a; intro a F
      refine eTake (k := 22) (i := 22) rfl (by kernel_rfl) F rfl rfl rfl rfl (fun w H => rLrB Tryd.underlying30 rfl Tryd.sizeOf30 F rfl (H.rangeB 4 _ 8 rfl (by omega))) (H.sel [0, 1, 2, 3, 4, 5, 6, 7] rfl rfl) (fun _ _ _ h => h) ?_
      clear F a; intro a F
      refine eTakeF (k := 23) (i := 24) rfl (by kernel_rfl) F rfl rfl rfl (fun w => rFa (f := 3) (k := 3) Tryd.underlying52 rfl Tryd.sizeOf50 rfl rfl F rfl) (H.sel [0, 1, 2, 3, 4, 5, 6, 7] rfl rfl) (fun _ _ _ h => h) ?_
      clear F a; intro a F
      refine eTake (k := 24) (i := 25) rfl (by kernel_rfl) F rfl rfl rfl rfl (fun w H => rLr Tryd.underlying50 rfl ?si F rfl (H.range 5 rfl _ 2)) (H.sel [0, 1, 2, 3, 4, 5, 6, 7] rfl rfl) (fun _ _ _ h => h) ?_
      case si => exact info_size Tryd.sizeOf50
      clear F a; intro a F
      refine eTakeF (k := 25) (i := 26) rfl (by kernel_rfl) F rfl rfl rfl (fun w => rFa (f := 1) (k := 1) Tryd.underlying32 rfl Tryd.sizeOf30 rfl rfl F rfl) (H.sel [0, 1, 2, 3, 4, 5, 6, 7] rfl rfl) (fun _ _ _ h => h) ?_
      clear F a; intro a F
      refine eTake (k := 26) (i := 27) rfl (by kernel_rfl) F rfl rfl rfl rfl (fun w H => rLrB Tryd.underlying30 rfl Tryd.sizeOf30 F rfl (H.rangeB 4 _ 8 rfl (by omega))) (H.sel [0, 1, 2, 3, 4, 5, 6, 7] rfl rfl) (fun _ _ _ h => h) ?_
      clear F a; intro a F
      refine eOne (k := 27) (i := 23) rfl (by kernel_rfl) F rfl (oCall Tryd.call21 F rfl rfl (worth_any x.aR x.aN (cut th 1) _) ?_)
      rintro e w ⟨rfl, hb⟩
      replace H := H.grow hb; clear hb
      refine ⟨_, rfl, ?_⟩
      clear F a; intro a F
      refine eKeep (H.sel [0, 1, 2, 3, 4, 5, 6, 7] rfl rfl) ?_
      refine eOne (k := 28) (i := 28) rfl (by kernel_rfl) F rfl (oCall Tryd.call22 F rfl rfl (rworth_any x.aR x.aN (cut th 1) _) ?_)
      rintro e w ⟨rfl, hb⟩
      replace H := H.grow hb; clear hb
      refine ⟨_, rfl, ?_⟩
      clear F a; intro a F
      refine ePartO (by kernel_rfl) H ?_
      refine eTakeF (k := 29) (i := 29) rfl (by kernel_rfl) F rfl rfl rfl (fun w => rBin F rfl rfl bNeqB) (H.sel [0, 1, 2, 3, 4, 5, 6, 7] rfl rfl) (fun _ _ _ h => h) ?_
      clear F a; intro a F
      refine eTakeF (k := 30) (i := 30) rfl (by kernel_rfl) F rfl rfl rfl (fun w => rPk F rfl rfl) (H.sel [0, 1, 2, 3, 4, 5, 6, 7] rfl rfl) (fun _ _ _ h => h) ?_
      clear F a; intro a F
      refine eNil (k := 31) (by kernel_rfl) ?_
      refine hK7 _ _ ?_; clear hK7
      refine cIf F rfl (fun h86 => ?_) (fun h86 => ?_)
      ·
       replace h86 := bneT h86
       exact absurd rfl h86
      ·
       replace h86 := bneF h86
       refine wp_skip ?_
       refine hK6 _ _ ?_; clear hK6
       refine cSeq (fun K8 hK8 => ?_)
       refine cSeq (fun K9 hK9 => ?_)
       refine cReg ?_
       refine sLrB Tryd.underlying41 rfl Tryd.sizeOf41 F rfl rfl rfl (H.whole 6 rfl) ?_
       clear F a; intro a F
       refine sLrB Tryd.underlying41 rfl Tryd.sizeOf41 F rfl rfl rfl (H.whole 3 rfl) ?_
       clear F a; intro a F
       refine sBsR (rows := [bs 142 s, bs 142 (startS p)]) H Tryd.underlying71 Tryd.sizeOf41 Tryd.zeroValue41 rfl F rfl rfl rfl rfl rfl ?_
       clear F a H; intro b89 a w F H
       refine sLen Tryd.underlying71 F rfl rfl rfl ?_
       clear F a; intro a F
       refine sMv F rfl rfl rfl ?_
       clear F a; intro a F
       refine sNil ?_
       refine hK9 _ _ ?_; clear hK9
       refine wp_block ?_
       refine cLoopR [2, 3, 6, 89, 90] (fun m ups w => ∃ j : Nat, m = 2 - j ∧ ups = [(91, .int .i64 ((j : Nat) : Int))] ∧ j ≤ 2 ∧ Own w0 none w [.blk b89 [bs 142 s, bs 142 (startS p)].flatten 41, .blk b6 [d1, d2, d3, d4, d5, d6, d7, d8, d9, d10] 29]) F (2) [(91, .int .i64 ((0 : Nat) : Int))] (by repeat (first | exact SubR.nil | (apply SubR.cons; · rfl))) ?_ ?_ ?_
       · exact ⟨0, rfl, rfl, by omega, H.sel [0, 8] rfl rfl⟩
       · repeat (first | exact trivial | refine Le.cons rfl ?_)
       clear F
       clear H
       intro m ups a w hI F
       obtain ⟨j, rfl, rfl, hj, H⟩ := hI
       refine cSeq (fun K10 hK10 => ?_)
       refine cReg ?_
       refine sBin F rfl rfl rfl rfl bLss ?_
       clear F a; intro a F
       refine sNil ?_
       refine hK10 _ _ ?_; clear hK10
       refine cSeq (fun K11 hK11 => ?_)
       refine cIf F rfl (fun h92 => ?_) (fun h92 => ?_)
       ·
        replace h92 := of_decide_eq_true h92
        have hj2 : j < 2 := (by replace h92 : (j : Int) < (2 : Int) := h92; omega)
        obtain ⟨q, hq⟩ : ∃ q, [s, startS p][j]? = some q := ⟨_, List.getElem?_eq_getElem hj2⟩
        refine wp_skip ?_
        refine hK11 _ _ ?_; clear hK11
        refine cSeq (fun K12 hK12 => ?_)
        refine wp_block ?_
        refine cSeq (fun K13 hK13 => ?_)
        refine cReg ?_
        refine sIx Tryd.underlying71 Tryd.sizeOf41 F rfl rfl rfl rfl ?_ ?_
        focus (first | omega | decide | (simp; omega))
        clear F a; intro a F
        refine sLrB Tryd.underlying41 rfl Tryd.sizeOf41 F rfl rfl rfl (H.two 0 rfl hq) ?_
        clear F a; intro a F
        refine sAlB H zB41 F rfl rfl ?_
        clear F a H; intro b22 a w F H
        refine sSrB H 0 Tryd.sizeOf41 F rfl rfl rfl rfl (by omega) ?_
        clear H; intro w H
        rw [lay_all] at H
        refine sNil ?_
        refine hK13 _ _ ?_; clear hK13
        refine cSeq (fun K14 hK14 => ?_)
        refine cReg ?_
        refine sLr Tryd.underlying29 rfl ?si F rfl rfl rfl (H.whole 2 rfl) ?_
        case si => exact info_size Tryd.sizeOf29
        clear F a; intro a F
        refine sLrB Tryd.underlying41 rfl Tryd.sizeOf41 F rfl rfl rfl (H.whole 0 rfl) ?_
        clear F a; intro a F
        refine sCall Tryd.call23 F rfl rfl rfl (r13moves_any _ p _ (hP.own H) hd q) ?_
        rintro e w ⟨A, c, rfl, H2⟩
        replace H := H.join H2; clear H2
        refine ⟨_, rfl, ?_⟩
        clear F a; intro a F
        refine sAs F rfl rfl rfl ?_
        clear F a; intro a F
        refine sNil ?_
        refine hK14 _ _ ?_; clear hK14
        refine cSeq (fun K15 hK15 => ?_)
        refine cReg ?_
        refine sLr Tryd.underlying29 rfl ?si F rfl rfl rfl (H.whole 3 rfl) ?_
        case si => exact info_size Tryd.sizeOf29
        clear F a; intro a F
        refine sLrB Tryd.underlying41 rfl Tryd.sizeOf41 F rfl rfl rfl (H.whole 1 rfl) ?_
        clear F a; intro a F
        refine sMv F rfl rfl rfl ?_
        clear F a; intro a F
        refine sCall Tryd.call13 F rfl rfl rfl (move_any _ p _ (hP.own H) (hN.own H) q t) ?_
        rintro e w ⟨rfl, hb⟩
        replace H := H.grow hb; clear hb
        refine ⟨_, rfl, ?_⟩
        clear F a; intro a F
        refine sMv F rfl rfl rfl ?_
        clear F a; intro a F
        refine sExt F rfl rfl rfl rfl ?_
        clear F a; intro a F
        refine sExt F rfl rfl rfl rfl ?_
        clear F a; intro a F
        refine sAlB H zB41 F rfl rfl ?_
        clear F a H; intro b24 a w F H
        refine sSrB H 0 Tryd.sizeOf41 F rfl rfl rfl rfl (by omega) ?_
        clear H; intro w H
        rw [lay_all] at H
        refine sAs F rfl rfl rfl ?_
        clear F a; intro a F
        refine sNil ?_
        refine hK15 _ _ ?_; clear hK15
        refine cSeq (fun K16 hK16 => ?_)
        refine cReg ?_
        refine sLr Tryd.underlying29 rfl ?si F rfl rfl rfl (H.whole 4 rfl) ?_
        case si => exact info_size Tryd.sizeOf29
        clear F a; intro a F
        refine sLrB Tryd.underlying41 rfl Tryd.sizeOf41 F rfl rfl rfl (H.whole 2 rfl) ?_
        clear F a; intro a F
        refine sMv F rfl rfl rfl ?_
        clear F a; intro a F
        refine sCall Tryd.call24 F rfl rfl rfl (r13move_any _ p _ (hP.own H) hd q t) ?_
        rintro e w ⟨rfl, hb⟩
        replace H := H.grow hb; clear hb
        refine ⟨_, rfl, ?_⟩
        clear F a; intro a F
        refine sMv F rfl rfl rfl ?_
        clear F a; intro a F
        refine sExt F rfl rfl rfl rfl ?_
        clear F a; intro a F
        refine sExt F rfl rfl rfl rfl ?_
        clear F a; intro a F
        refine sAlB H zB41 F rfl rfl ?_
        clear F a H; intro b26 a w F H
        refine sSrB H 0 Tryd.sizeOf41 F rfl rfl rfl rfl (by omega) ?_
        clear H; intro w H
        rw [lay_all] at H
        refine sAs F rfl rfl rfl ?_
        clear F a; intro a F
        refine sNil ?_
        refine hK16 _ _ ?_; clear hK16
        refine cSeq (fun K17 hK17 => ?_)
        refine cRegRO (by kernel_rfl) H ?_
        replace H := H.drew
        refine eTake (k := 0) (i := 0) rfl (by kernel_rfl) F rfl rfl rfl rfl (fun w H => rLr Tryd.underlying29 rfl ?si F rfl (H.whole 5 rfl)) (H.sel [0, 1, 2, 3, 4, 5] rfl rfl) (fun _ _ _ h => h) ?_
        case si => exact info_size Tryd.sizeOf29
        clear F a; intro a F
        refine eTake (k := 1) (i := 1) rfl (by kernel_rfl) F rfl rfl rfl rfl (fun w H => rLrB Tryd.underlying41 rfl Tryd.sizeOf41 F rfl (H.whole 3 rfl)) (H.sel [0, 1, 2, 3, 4, 5] rfl rfl) (fun _ _ _ h => h) ?_
        clear F a; intro a F
        refine eTake (k := 2) (i := 3) rfl (by kernel_rfl) F rfl rfl rfl rfl (fun w H => rLr Tryd.underlying29 rfl ?si F rfl (H.whole 5 rfl)) (H.sel [0, 1, 2, 3, 4, 5] rfl rfl) (fun _ _ _ h => h) ?_
        case si => exact info_size Tryd.sizeOf29
        clear F a; intro a F
        refine eTake (k := 3) (i := 4) rfl (by kernel_rfl) F rfl rfl rfl rfl (fun w H => rLrB Tryd.underlying41 rfl Tryd.sizeOf41 F rfl (H.whole 3 rfl)) (H.sel [0, 1, 2, 3, 4, 5] rfl rfl) (fun _ _ _ h => h) ?_
        clear F a; intro a F
        refine eOne (k := 4) (i := 2) rfl (by kernel_rfl) F rfl (oCall Tryd.call25 F rfl rfl (rightA_any _ p _ (hP.own H) (hN.own H) q) ?_)
        rintro e w ⟨rfl, hb⟩
        replace H := H.grow hb; clear hb
        refine ⟨_, rfl, ?_⟩
        clear F a; intro a F
        refine eKeep (H.sel [0, 1, 2, 3, 4, 5] rfl rfl) ?_
        refine eOne (k := 5) (i := 5) rfl (by kernel_rfl) F rfl (oCall Tryd.call26 F rfl rfl (r13right_any _ p _ (hP.own H) hd q) ?_)
        rintro e w ⟨rfl, hb⟩
        replace H := H.grow hb; clear hb
        refine ⟨_, rfl, ?_⟩
        clear F a; intro a F
        refine ePartO (by kernel_rfl) H ?_
        refine eTakeF (k := 6) (i := 6) rfl (by kernel_rfl) F rfl rfl rfl (fun w => rBin F rfl rfl (bBoolNe Tryd.underlying4)) (H.sel [0, 1, 2, 3, 4, 5] rfl rfl) (fun _ _ _ h => h) ?_
        clear F a; intro a F
        refine eTakeF (k := 7) (i := 7) rfl (by kernel_rfl) F rfl rfl rfl (fun w => rMv F rfl) (H.sel [0, 1, 2, 3, 4, 5] rfl rfl) (fun _ _ _ h => h) ?_
        clear F a; intro a F
        refine F.split 119 rfl ?_ ?_ <;> (clear F; intro h119 F)
        ·
         replace h119 := nbeqT h119
         exact absurd rfl h119
        ·
         replace h119 := nbeqF h119
         refine eTake (k := 8) (i := 8) rfl (by kernel_rfl) F rfl rfl rfl rfl (fun w H => rLr Tryd.underlying29 rfl ?si F rfl (H.whole 5 rfl)) (H.sel [0, 1, 2, 3, 4, 5] rfl rfl) (fun _ _ _ h => h) ?_
         case si => exact info_size Tryd.sizeOf29
         clear F a; intro a F
         refine eTake (k := 9) (i := 9) rfl (by kernel_rfl) F rfl rfl rfl rfl (fun w H => rLrB Tryd.underlying41 rfl Tryd.sizeOf41 F rfl (H.whole 3 rfl)) (H.sel [0, 1, 2, 3, 4, 5] rfl rfl) (fun _ _ _ h => h) ?_
         clear F a; intro a F
         refine eTakeF (k := 10) (i := 11) rfl (by kernel_rfl) F rfl rfl rfl (fun w => rMv F rfl) (H.sel [0, 1, 2, 3, 4, 5] rfl rfl) (fun _ _ _ h => h) ?_
         clear F a; intro a F
         refine eOne (k := 11) (i := 10) rfl (by kernel_rfl) F rfl (oCall Tryd.call10 F rfl rfl (moves_any _ p _ (hP.own H) (hN.own H) q) ?_)
         rintro e w ⟨A2, k2, rfl, H2⟩
         replace H := H.join H2; clear H2
         refine ⟨_, rfl, ?_⟩
         clear F a; intro a F
         refine ePartO (by kernel_rfl) H ?_
         refine eOne (k := 12) (i := 12) rfl (by kernel_rfl) F rfl (oCall Tryd.call27 F rfl rfl (ints_any A2 A k2 c (movesP p q) (movesP p q) _ (H.ints 0 rfl) (H.ints 3 rfl) (by have := (H.rwsLen 3 rfl).2; simp only [maxLen] at this; omega) (by have := (H.rwsLen 3 rfl).2; simp only [maxLen] at this; omega)) ?_)
         rintro e w ⟨rfl, hb⟩
         replace H := H.grow hb; clear hb
         refine ⟨_, rfl, ?_⟩
         clear F a; intro a F
         refine ePartO (by kernel_rfl) H ?_
         refine eTakeF (k := 13) (i := 13) rfl (by kernel_rfl) F rfl rfl rfl (fun w => rNot F rfl) (H.sel [0, 1, 2, 3, 4, 5, 6] rfl rfl) (fun _ _ _ h => h) ?_
         clear F a; intro a F
         refine eTakeF (k := 14) (i := 14) rfl (by kernel_rfl) F rfl rfl rfl (fun w => rPk F rfl rfl) (H.sel [0, 1, 2, 3, 4, 5, 6] rfl rfl) (fun _ _ _ h => h) ?_
         clear F a; intro a F
         refine eTakeF (k := 15) (i := 15) rfl (by kernel_rfl) F rfl rfl rfl (fun w => rMv F rfl) (H.sel [0, 1, 2, 3, 4, 5, 6] rfl rfl) (fun _ _ _ h => h) ?_
         clear F a; intro a F
         refine F.split 127 rfl ?_ ?_ <;> (clear F; intro h127 F)
         ·
          replace h127 := notT h127
          exact notEq (beq_self_eq_true _) h127
         ·
          replace h127 := notF h127
          refine eTake (k := 16) (i := 16) rfl (by kernel_rfl) F rfl rfl rfl rfl (fun w H => rLrB Tryd.underlying41 rfl Tryd.sizeOf41 F rfl (H.whole 2 rfl)) (H.sel [0, 1, 2, 3, 4, 5, 6] rfl rfl) (fun _ _ _ h => h) ?_
          clear F a; intro a F
          refine eTake (k := 17) (i := 17) rfl (by kernel_rfl) F rfl rfl rfl rfl (fun w H => rLrB Tryd.underlying41 rfl Tryd.sizeOf41 F rfl (H.whole 1 rfl)) (H.sel [0, 1, 2, 3, 4, 5, 6] rfl rfl) (fun _ _ _ h => h) ?_
          clear F a; intro a F
          refine eTakeF (k := 18) (i := 18) rfl (by kernel_rfl) F rfl rfl rfl (fun w => rBin F rfl rfl (bNeY eT41 gT41 rfl)) (H.sel [0, 1, 2, 3, 4, 5, 6] rfl rfl) (fun _ _ _ h => h) ?_
          clear F a; intro a F
          refine eTakeF (k := 19) (i := 19) rfl (by kernel_rfl) F rfl rfl rfl (fun w => rPk F rfl rfl) (H.sel [0, 1, 2, 3, 4, 5, 6] rfl rfl) (fun _ _ _ h => h) ?_
          clear F a; intro a F
          refine eTakeF (k := 20) (i := 20) rfl (by kernel_rfl) F rfl rfl rfl (fun w => rMv F rfl) (H.sel [0, 1, 2, 3, 4, 5, 6] rfl rfl) (fun _ _ _ h => h) ?_
          clear F a; intro a F
          refine F.split 132 rfl ?_ ?_ <;> (clear F; intro h132 F)
          ·
           replace h132 := notT h132
           exact notEq (same_iff.2 fun _ _ => rfl) h132
          ·
           replace h132 := notF h132
           refine eTakeF (k := 21) (i := 21) rfl (by kernel_rfl) F rfl rfl rfl (fun w => rMv F rfl) (H.sel [0, 1, 2, 3, 4, 5, 6] rfl rfl) (fun _ _ _ h => h) ?_
           clear F a; intro a F
           refine eTakeF (k := 22) (i := 22) rfl (by kernel_rfl) F rfl rfl rfl (fun w => rMv F rfl) (H.sel [0, 1, 2, 3, 4, 5, 6] rfl rfl) (fun _ _ _ h => h) ?_
           clear F a; intro a F
           refine eTakeF (k := 23) (i := 23) rfl (by kernel_rfl) F rfl rfl rfl (fun w => rBin F rfl rfl bNeq) (H.sel [0, 1, 2, 3, 4, 5, 6] rfl rfl) (fun _ _ _ h => h) ?_
           clear F a; intro a F
           refine eTakeF (k := 24) (i := 24) rfl (by kernel_rfl) F rfl rfl rfl (fun w => rPk F rfl rfl) (H.sel [0, 1, 2, 3, 4, 5, 6] rfl rfl) (fun _ _ _ h => h) ?_
           clear F a; intro a F
           refine eTakeF (k := 25) (i := 25) rfl (by kernel_rfl) F rfl rfl rfl (fun w => rMv F rfl) (H.sel [0, 1, 2, 3, 4, 5, 6] rfl rfl) (fun _ _ _ h => h) ?_
           clear F a; intro a F
           refine F.split 137 rfl ?_ ?_ <;> (clear F; intro h137 F)
           ·
            replace h137 := bneT h137
            exact absurd rfl h137
           ·
            replace h137 := bneF h137
            refine eTake (k := 26) (i := 26) rfl (by kernel_rfl) F rfl rfl rfl rfl (fun w H => rLr Tryd.underlying29 rfl ?si F rfl (H.whole 6 rfl)) (H.sel [0, 1, 2, 3, 4, 5, 6] rfl rfl) (fun _ _ _ h => h) ?_
            case si => exact info_size Tryd.sizeOf29
            clear F a; intro a F
            refine eTake (k := 27) (i := 27) rfl (by kernel_rfl) F rfl rfl rfl rfl (fun w H => rLrB Tryd.underlying41 rfl Tryd.sizeOf41 F rfl (H.whole 4 rfl)) (H.sel [0, 1, 2, 3, 4, 5, 6] rfl rfl) (fun _ _ _ h => h) ?_
            clear F a; intro a F
            refine eTake (k := 28) (i := 29) rfl (by kernel_rfl) F rfl rfl rfl rfl (fun w H => rLr Tryd.underlying29 rfl ?si F rfl (H.whole 6 rfl)) (H.sel [0, 1, 2, 3, 4, 5, 6] rfl rfl) (fun _ _ _ h => h) ?_
            case si => exact info_size Tryd.sizeOf29
            clear F a; intro a F
            refine eTake (k := 29) (i := 30) rfl (by kernel_rfl) F rfl rfl rfl rfl (fun w H => rLrB Tryd.underlying41 rfl Tryd.sizeOf41 F rfl (H.whole 4 rfl)) (H.sel [0, 1, 2, 3, 4, 5, 6] rfl rfl) (fun _ _ _ h => h) ?_
            clear F a; intro a F
            refine eOne (k := 30) (i := 28) rfl (by kernel_rfl) F rfl (oCall Tryd.call28 F rfl rfl (overA_any _ p _ (hP.own H) (hN.own H) q) ?_)
            rintro e w ⟨rfl, hb⟩
            replace H := H.grow hb; clear hb
            refine ⟨_, rfl, ?_⟩
            clear F a; intro a F
            refine eKeep (H.sel [0, 1, 2, 3, 4, 5, 6] rfl rfl) ?_
            refine eOne (k := 31) (i := 31) rfl (by kernel_rfl) F rfl (oCall Tryd.call26 F rfl rfl (r13right_any _ p _ (hP.own H) hd q) ?_)
            rintro e w ⟨rfl, hb⟩
            replace H := H.grow hb; clear hb
            refine ⟨_, rfl, ?_⟩
            clear F a; intro a F
            refine ePartO (by kernel_rfl) H ?_
            refine eTakeF (k := 32) (i := 32) rfl (by kernel_rfl) F rfl rfl rfl (fun w => rMv F rfl) (H.sel [0, 1, 2, 3, 4, 5, 6] rfl rfl) (fun _ _ _ h => h) ?_
            clear F a; intro a F
            refine F.split 144 rfl ?_ ?_ <;> (clear F; intro h144 F)
            ·
             have hov : (rightS p q && (enabledP p q).isEmpty) = (((movesP p q).length : Int) == 0) := over_okR h144
             refine eTakeF (k := 33) (i := 33) rfl (by kernel_rfl) F rfl rfl rfl (fun w => rMv F rfl) (H.sel [0, 1, 2, 3, 4, 5, 6] rfl rfl) (fun _ _ _ h => h) ?_
             clear F a; intro a F
             refine eTake (k := 34) (i := 34) rfl (by kernel_rfl) F rfl rfl rfl rfl (fun w H => rLen Tryd.underlying44 F rfl) (H.sel [0, 1, 2, 3, 4, 5, 6] rfl rfl) (fun _ _ _ h => h) ?_
             clear F a; intro a F
             refine eTakeF (k := 35) (i := 35) rfl (by kernel_rfl) F rfl rfl rfl (fun w => rBin F rfl rfl bEql) (H.sel [0, 1, 2, 3, 4, 5, 6] rfl rfl) (fun _ _ _ h => h) ?_
             clear F a; intro a F
             refine eTakeF (k := 36) (i := 36) rfl (by kernel_rfl) F rfl rfl rfl (fun w => rPk F rfl rfl) (H.sel [0, 1, 2, 3, 4, 5, 6] rfl rfl) (fun _ _ _ h => h) ?_
             clear F a; intro a F
             refine eTakeF (k := 37) (i := 37) rfl (by kernel_rfl) F rfl rfl rfl (fun w => rBin F rfl rfl (bBoolNe Tryd.underlying4)) (H.sel [0, 1, 2, 3, 4, 5, 6] rfl rfl) (fun _ _ _ h => h) ?_
             clear F a; intro a F
             refine eTakeF (k := 38) (i := 38) rfl (by kernel_rfl) F rfl rfl rfl (fun w => rPk F rfl rfl) (H.sel [0, 1, 2, 3, 4, 5, 6] rfl rfl) (fun _ _ _ h => h) ?_
             clear F a; intro a F
             refine eTakeF (k := 39) (i := 39) rfl (by kernel_rfl) F rfl rfl rfl (fun w => rMv F rfl) (H.sel [0, 1, 2, 3, 4, 5, 6] rfl rfl) (fun _ _ _ h => h) ?_
             clear F a; intro a F
             refine F.split 151 rfl ?_ ?_ <;> (clear F; intro h151 F)
             ·
              replace h151 := nbeqT h151
              exact absurd hov h151
             ·
              replace h151 := nbeqF h151
              refine eTake (k := 40) (i := 40) rfl (by kernel_rfl) F rfl rfl rfl rfl (fun w H => rLrB Tryd.underlying41 rfl Tryd.sizeOf41 F rfl (H.whole 4 rfl)) (H.sel [0, 1, 2, 3, 4, 5, 6] rfl rfl) (fun _ _ _ h => h) ?_
              clear F a; intro a F
              refine eTake (k := 41) (i := 42) rfl (by kernel_rfl) F rfl rfl rfl rfl (fun w H => rLrB Tryd.underlying41 rfl Tryd.sizeOf41 F rfl (H.whole 4 rfl)) (H.sel [0, 1, 2, 3, 4, 5, 6] rfl rfl) (fun _ _ _ h => h) ?_
              clear F a; intro a F
              refine eOne (k := 42) (i := 41) rfl (by kernel_rfl) F rfl (oCall Tryd.call29 F rfl rfl (final_any q _) ?_)
              rintro e w ⟨rfl, hb⟩
              replace H := H.grow hb; clear hb
              refine ⟨_, rfl, ?_⟩
              clear F a; intro a F
              refine eKeep (H.sel [0, 1, 2, 3, 4, 5, 6] rfl rfl) ?_
              refine eOne (k := 43) (i := 43) rfl (by kernel_rfl) F rfl (oCall Tryd.call30 F rfl rfl (r13final_any q _) ?_)
              rintro e w ⟨rfl, hb⟩
              replace H := H.grow hb; clear hb
              refine ⟨_, rfl, ?_⟩
              clear F a; intro a F
              refine ePartO (by kernel_rfl) H ?_
              refine eTakeF (k := 44) (i := 44) rfl (by kernel_rfl) F rfl rfl rfl (fun w => rBin F rfl rfl (bNeY eT65 gT65 rfl)) (H.sel [0, 1, 2, 3, 4, 5, 6] rfl rfl) (fun _ _ _ h => h) ?_
              clear F a; intro a F
              refine eTakeF (k := 45) (i := 45) rfl (by kernel_rfl) F rfl rfl rfl (fun w => rPk F rfl rfl) (H.sel [0, 1, 2, 3, 4, 5, 6] rfl rfl) (fun _ _ _ h => h) ?_
              clear F a; intro a F
              refine eNil (k := 46) (by kernel_rfl) ?_
              refine hK17 _ _ ?_; clear hK17
              refine cIf F rfl (fun h157 => ?_) (fun h157 => ?_)
              ·
               replace h157 := notT h157
               exact notEq (same_iff.2 fun _ _ => rfl) h157
              ·
               replace h157 := notF h157
               refine wp_skip ?_
               refine hK12 _ _ ?_; clear hK12
               refine cReg ?_
               refine sBin F rfl rfl rfl rfl (bAddN (j := 1) ?_) ?_
               focus omega
               clear F a; intro a F
               refine sMv F rfl rfl rfl ?_
               clear F a; intro a F
               refine sNil ?_
               exact ⟨_, by omega, _, ⟨j + 1, rfl, rfl, by omega, H.sel [5, 6] rfl rfl⟩, F.to (by repeat (first | exact trivial | refine Le.cons rfl ?_))⟩
            ·
             have hov : (rightS p q && (enabledP p q).isEmpty) = false := (by rw [h144]; rfl)
             refine eSkip (k := 33) (i := 33) rfl (by kernel_rfl) F rfl rfl rfl (H.sel [0, 1, 2, 3, 4, 5, 6] rfl rfl) (fun _ _ _ h => h) ?_
             clear F a; intro a F
             refine eSkip (k := 34) (i := 34) rfl (by kernel_rfl) F rfl rfl rfl (H.sel [0, 1, 2, 3, 4, 5, 6] rfl rfl) (fun _ _ _ h => h) ?_
             clear F a; intro a F
             refine eSkip (k := 35) (i := 35) rfl (by kernel_rfl) F rfl rfl rfl (H.sel [0, 1, 2, 3, 4, 5, 6] rfl rfl) (fun _ _ _ h => h) ?_
             clear F a; intro a F
             refine eTakeF (k := 36) (i := 36) rfl (by kernel_rfl) F rfl rfl rfl (fun w => rPk F rfl rfl) (H.sel [0, 1, 2, 3, 4, 5, 6] rfl rfl) (fun _ _ _ h => h) ?_
             clear F a; intro a F
             refine eTakeF (k := 37) (i := 37) rfl (by kernel_rfl) F rfl rfl rfl (fun w => rBin F rfl rfl (bBoolNe Tryd.underlying4)) (H.sel [0, 1, 2, 3, 4, 5, 6] rfl rfl) (fun _ _ _ h => h) ?_
             clear F a; intro a F
             refine eTakeF (k := 38) (i := 38) rfl (by kernel_rfl) F rfl rfl rfl (fun w => rPk F rfl rfl) (H.sel [0, 1, 2, 3, 4, 5, 6] rfl rfl) (fun _ _ _ h => h) ?_
             clear F a; intro a F
             refine eTakeF (k := 39) (i := 39) rfl (by kernel_rfl) F rfl rfl rfl (fun w => rMv F rfl) (H.sel [0, 1, 2, 3, 4, 5, 6] rfl rfl) (fun _ _ _ h => h) ?_
             clear F a; intro a F
             refine F.split 151 rfl ?_ ?_ <;> (clear F; intro h151 F)
             ·
              replace h151 := nbeqT h151
              exact absurd hov h151
             ·
              replace h151 := nbeqF h151
              refine eTake (k := 40) (i := 40) rfl (by kernel_rfl) F rfl rfl rfl rfl (fun w H => rLrB Tryd.underlying41 rfl Tryd.sizeOf41 F rfl (H.whole 4 rfl)) (H.sel [0, 1, 2, 3, 4, 5, 6] rfl rfl) (fun _ _ _ h => h) ?_
              clear F a; intro a F
              refine eTake (k := 41) (i := 42) rfl (by kernel_rfl) F rfl rfl rfl rfl (fun w H => rLrB Tryd.underlying41 rfl Tryd.sizeOf41 F rfl (H.whole 4 rfl)) (H.sel [0, 1, 2, 3, 4, 5, 6] rfl rfl) (fun _ _ _ h => h) ?_
              clear F a; intro a F
              refine eOne (k := 42) (i := 41) rfl (by kernel_rfl) F rfl (oCall Tryd.call29 F rfl rfl (final_any q _) ?_)
              rintro e w ⟨rfl, hb⟩
              replace H := H.grow hb; clear hb
              refine ⟨_, rfl, ?_⟩
              clear F a; intro a F
              refine eKeep (H.sel [0, 1, 2, 3, 4, 5, 6] rfl rfl) ?_
              refine eOne (k := 43) (i := 43) rfl (by kernel_rfl) F rfl (oCall Tryd.call30 F rfl rfl (r13final_any q _) ?_)
              rintro e w ⟨rfl, hb⟩
              replace H := H.grow hb; clear hb
              refine ⟨_, rfl, ?_⟩
              clear F a; intro a F
              refine ePartO (by kernel_rfl) H ?_
              refine eTakeF (k := 44) (i := 44) rfl (by kernel_rfl) F rfl rfl rfl (fun w => rBin F rfl rfl (bNeY eT65 gT65 rfl)) (H.sel [0, 1, 2, 3, 4, 5, 6] rfl rfl) (fun _ _ _ h => h) ?_
              clear F a; intro a F
              refine eTakeF (k := 45) (i := 45) rfl (by kernel_rfl) F rfl rfl rfl (fun w => rPk F rfl rfl) (H.sel [0, 1, 2, 3, 4, 5, 6] rfl rfl) (fun _ _ _ h => h) ?_
              clear F a; intro a F
              refine eNil (k := 46) (by kernel_rfl) ?_
              refine hK17 _ _ ?_; clear hK17
              refine cIf F rfl (fun h157 => ?_) (fun h157 => ?_)
              ·
               replace h157 := notT h157
               exact notEq (same_iff.2 fun _ _ => rfl) h157
              ·
               replace h157 := notF h157
               refine wp_skip ?_
               refine hK12 _ _ ?_; clear hK12
               refine cReg ?_
               refine sBin F rfl rfl rfl rfl (bAddN (j := 1) ?_) ?_
               focus omega
               clear F a; intro a F
               refine sMv F rfl rfl rfl ?_
               clear F a; intro a F
               refine sNil ?_
               exact ⟨_, by omega, _, ⟨j + 1, rfl, rfl, by omega, H.sel [5, 6] rfl rfl⟩, F.to (by repeat (first | exact trivial | refine Le.cons rfl ?_))⟩
       ·
        replace h92 := of_decide_eq_false h92
        refine wp_exit ?_
        refine hK8 _ _ ?_; clear hK8
        refine cSeq (fun K18 hK18 => ?_)
        refine cReg ?_
        refine sMv F rfl rfl rfl ?_
        clear F a; intro a F
        refine sMv F rfl rfl rfl ?_
        clear F a; intro a F
        refine sLen Tryd.underlying23 F rfl rfl rfl ?_
        clear F a; intro a F
        refine sMinN (j := 60) F rfl rfl rfl rfl ?_
        clear F a; intro a F
        refine sSlH Tryd.underlying23 (fun w => ⟨_, Tryd.sizeOf5 w⟩) F rfl rfl rfl rfl ?_ ?_
        focus (first | omega | decide | (simp; omega))
        clear F a; intro a F
        refine sAs F rfl rfl rfl ?_
        clear F a; intro a F
        refine sNil ?_
        refine hK18 _ _ ?_; clear hK18
        refine cSeq (fun K19 hK19 => ?_)
        refine cReg ?_
        refine sLr Tryd.underlying29 rfl ?si F rfl rfl rfl (H.whole 1 rfl) ?_
        case si => exact info_size Tryd.sizeOf29
        clear F a; intro a F
        refine sMv F rfl rfl rfl ?_
        clear F a; intro a F
        refine sCall Tryd.call17 F rfl rfl rfl ((by have := play_any _ p _ (hP.own H) (hN.own H) PA PC Q (RowsAt.own hBt H) (by omega); rw [hlen] at this; exact this)) ?_
        rintro e w ⟨A, c, rfl, H2⟩
        replace H := H.join H2; clear H2
        refine ⟨_, rfl, ?_⟩
        clear F a; intro a F
        refine sMv F rfl rfl rfl ?_
        clear F a; intro a F
        refine sExt F rfl rfl rfl rfl ?_
        clear F a; intro a F
        refine sExt F rfl rfl rfl rfl ?_
        clear F a; intro a F
        refine sExt F rfl rfl rfl rfl ?_
        clear F a; intro a F
        refine sAlB H zB65 F rfl rfl ?_
        clear F a H; intro b28 a w F H
        refine sSrB H 0 Tryd.sizeOf65 F rfl rfl rfl rfl (by omega) ?_
        clear H; intro w H
        rw [lay_all] at H
        refine sAs F rfl rfl rfl ?_
        clear F a; intro a F
        refine sAs F rfl rfl rfl ?_
        clear F a; intro a F
        refine sNil ?_
        refine hK19 _ _ ?_; clear hK19
        refine cSeq (fun K20 hK20 => ?_)
        refine cReg ?_
        refine sLr Tryd.underlying29 rfl ?si F rfl rfl rfl (H.whole 3 rfl) ?_
        case si => exact info_size Tryd.sizeOf29
        clear F a; intro a F
        refine sMv F rfl rfl rfl ?_
        clear F a; intro a F
        refine sCall Tryd.call31 F rfl rfl rfl ((by have := r13play_any _ p _ (hP.own H) hd PA PC Q (RowsAt.own hBt H) (by omega); rw [hlen] at this; exact this)) ?_
        rintro e w ⟨A2, k2, rfl, H2⟩
        replace H := H.join H2; clear H2
        refine ⟨_, rfl, ?_⟩
        clear F a; intro a F
        refine sMv F rfl rfl rfl ?_
        clear F a; intro a F
        refine sExt F rfl rfl rfl rfl ?_
        clear F a; intro a F
        refine sExt F rfl rfl rfl rfl ?_
        clear F a; intro a F
        refine sExt F rfl rfl rfl rfl ?_
        clear F a; intro a F
        refine sAlB H zB65 F rfl rfl ?_
        clear F a H; intro b31 a w F H
        refine sSrB H 0 Tryd.sizeOf65 F rfl rfl rfl rfl (by omega) ?_
        clear H; intro w H
        rw [lay_all] at H
        refine sAs F rfl rfl rfl ?_
        clear F a; intro a F
        refine sAs F rfl rfl rfl ?_
        clear F a; intro a F
        refine sNil ?_
        refine hK20 _ _ ?_; clear hK20
        refine cSeq (fun K21 hK21 => ?_)
        refine cReg ?_
        refine sLrB Tryd.underlying65 rfl Tryd.sizeOf65 F rfl rfl rfl (H.whole 2 rfl) ?_
        clear F a; intro a F
        refine sLrB Tryd.underlying65 rfl Tryd.sizeOf65 F rfl rfl rfl (H.whole 0 rfl) ?_
        clear F a; intro a F
        refine sBin F rfl rfl rfl rfl (bEqY eT65 gT65 rfl) ?_
        clear F a; intro a F
        refine sMv F rfl rfl rfl ?_
        clear F a; intro a F
        refine F.split 181 rfl ?_ ?_ <;> (clear F; intro h181 F)
        ·
         refine sMv F rfl rfl rfl ?_
         clear F a; intro a F
         refine sMv F rfl rfl rfl ?_
         clear F a; intro a F
         refine sBin F rfl rfl rfl rfl bEql ?_
         clear F a; intro a F
         refine sPk F rfl rfl rfl rfl ?_
         clear F a; intro a F
         refine sMv F rfl rfl rfl ?_
         clear F a; intro a F
         refine F.split 186 rfl ?_ ?_ <;> (clear F; intro h186 F)
         ·
          replace h186 := beqT h186
          refine sMv F rfl rfl rfl ?_
          clear F a; intro a F
          refine sMv F rfl rfl rfl ?_
          clear F a; intro a F
          refine sCall Tryd.call27 F rfl rfl rfl (ints_any A A2 c k2 (playO p Q) (playO p Q) _ (H.ints 3 rfl) (H.ints 1 rfl) (by have := (H.rwsLen 3 rfl).2; simp only [maxLen] at this; omega) (by have := (H.rwsLen 3 rfl).2; simp only [maxLen] at this; omega)) ?_
          rintro e w ⟨rfl, hb⟩
          replace H := H.grow hb; clear hb
          refine ⟨_, rfl, ?_⟩
          clear F a; intro a F
          refine sPk F rfl rfl rfl rfl ?_
          clear F a; intro a F
          refine sMv F rfl rfl rfl ?_
          clear F a; intro a F
          refine F.split 191 rfl ?_ ?_ <;> (clear F; intro h191 F)
          ·
           refine sCall Tryd.call12 F rfl rfl rfl (awake_any _ (hN.own H)) ?_
           rintro e w ⟨rfl, hb⟩
           replace H := H.grow hb; clear hb
           refine ⟨_, rfl, ?_⟩
           clear F a; intro a F
           refine sPk F rfl rfl rfl rfl ?_
           clear F a; intro a F
           refine sAs F rfl rfl rfl ?_
           clear F a; intro a F
           refine sNil ?_
           refine hK21 _ _ ?_; clear hK21
           refine wp_ret ?_
           refine bRet Tryd.results5 F rfl ?_
           exact ⟨retB rfl, H.below⟩
          ·
           exact notEq (beq_self_eq_true _) h191
         ·
          replace h186 := beqF h186
          exact absurd rfl h186
        ·
         exact notEq (same_iff.2 fun _ _ => rfl) h181
end Go.Proofs.YtfemniboggnbiaaDoor
