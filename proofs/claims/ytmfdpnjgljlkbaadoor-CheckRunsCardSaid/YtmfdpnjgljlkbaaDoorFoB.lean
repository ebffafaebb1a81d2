/-
  WALK2. Package check: ways, skipped, idle. Conditions: the thread and what is alive lie in memory; the skip stays within the thread.
-/
import Derived.Test.YtmfdpnjgljlkbaaDoorFoA
import Derived.Test.YtmfdpnjgljlkbaaDoorFoP
set_option linter.unusedSimpArgs false
set_option linter.unusedVariables false
namespace Go.Proofs.YtmfdpnjgljlkbaaDoor
open Go.RowKit
set_option maxRecDepth 100000

theorem ways_any (x : Ins) (w0 : World) : Calls Tryd.prog 82 #[.agg x.cells.toArray] w0 fun e w' => e = .returned (.tuple #[.bool (wayN x), .bool (wayJ x)]) ∧ Below w0.heap.size w0 w' := by
  have H := Own.start w0 none
  refine enterF Tryd.func82 rfl Tryd.ntmps82 rfl (fun a F => ?_)
  refine cSeq (fun K1 hK1 => ?_)
  refine cReg ?_
  refine sBx H F rfl rfl rfl ?_
  clear F a H; intro b1 a w F H
  refine sAs F rfl rfl rfl ?_;clear F a;intro a F
  refine sAs F rfl rfl rfl ?_;clear F a;intro a F
  refine sNil ?_
  refine hK1 _ _ ?_; clear hK1
  refine cSeq (fun K2 hK2 => ?_)
  refine cSeq (fun K3 hK3 => ?_)
  refine cReg ?_
  refine sFa (f := 3) (k := 3) Tryd.underlying50 rfl Tryd.sizeOf48 rfl rfl F rfl rfl rfl ?_;clear F a;intro a F
  refine sFa (f := 0) (k := 3) Tryd.underlying48 rfl Tryd.sizeOf4 rfl rfl F rfl rfl rfl ?_;clear F a;intro a F
  refine sLd Tryd.isAgg4 F rfl rfl rfl (H.cell 0 rfl rfl) ?_;clear F a;intro a F
  refine sMv F rfl rfl rfl ?_;clear F a;intro a F
  refine F.split 7 rfl ?_ ?_ <;> (clear F; intro h7 F)
  ·
   refine sSk F rfl rfl ?_;clear F a;intro a F
   refine sSk F rfl rfl ?_;clear F a;intro a F
   refine sSk F rfl rfl ?_;clear F a;intro a F
   refine sPk F rfl rfl rfl rfl ?_;clear F a;intro a F
   refine sNil ?_
   refine hK3 _ _ ?_; clear hK3
   refine cIfT F rfl ?_
   refine cSeq (fun K4 hK4 => ?_)
   refine cReg ?_
   refine sAs F rfl rfl rfl ?_;clear F a;intro a F
   refine sAs F rfl rfl rfl ?_;clear F a;intro a F
   refine sNil ?_
   refine hK4 _ _ ?_; clear hK4
   refine wp_ret ?_
   simp only [Exit.then]
   refine bRet2 Tryd.results82 F rfl rfl ?_
   refine ⟨?_, H.below⟩
   clear F H
   have e1 : wayN x = (if (x.aR || x.bR) = true then true else !jumpC x) := rfl
   have e2 : wayJ x = (if (x.aR || x.bR) = true then true else jumpC x) := rfl
   rw [e1, e2]
   simp_all [jumpC]
  refine sFa (f := 4) (k := 5) Tryd.underlying50 rfl Tryd.sizeOf48 rfl rfl F rfl rfl rfl ?_;clear F a;intro a F
  refine sFa (f := 0) (k := 5) Tryd.underlying48 rfl Tryd.sizeOf4 rfl rfl F rfl rfl rfl ?_;clear F a;intro a F
  refine sLd Tryd.isAgg4 F rfl rfl rfl (H.cell 0 rfl rfl) ?_;clear F a;intro a F
  refine sPk F rfl rfl rfl rfl ?_;clear F a;intro a F
  refine sNil ?_
  refine hK3 _ _ ?_; clear hK3
  refine cIf F rfl (fun h11 => ?_) (fun h11 => ?_)
  ·
   refine cSeq (fun K5 hK5 => ?_)
   refine cReg ?_
   refine sAs F rfl rfl rfl ?_;clear F a;intro a F
   refine sAs F rfl rfl rfl ?_;clear F a;intro a F
   refine sNil ?_
   refine hK5 _ _ ?_; clear hK5
   refine wp_ret ?_
   simp only [Exit.then]
   refine bRet2 Tryd.results82 F rfl rfl ?_
   refine ⟨?_, H.below⟩
   clear F H
   have e1 : wayN x = (if (x.aR || x.bR) = true then true else !jumpC x) := rfl
   have e2 : wayJ x = (if (x.aR || x.bR) = true then true else jumpC x) := rfl
   rw [e1, e2]
   simp_all [jumpC]
  refine wp_skip ?_
  refine hK2 _ _ ?_; clear hK2
  refine cSeq (fun K6 hK6 => ?_)
  refine cSeq (fun K7 hK7 => ?_)
  refine cReg ?_
  refine sFa (f := 5) (k := 7) Tryd.underlying50 rfl Tryd.sizeOf5 rfl rfl F rfl rfl rfl ?_;clear F a;intro a F
  refine sLd Tryd.isAgg5 F rfl rfl rfl (H.cell 0 rfl rfl) ?_;clear F a;intro a F
  refine sNil ?_
  refine hK7 _ _ ?_; clear hK7
  refine wp_block ?_
  refine cSeq (fun K8 hK8 => ?_)
  refine cReg ?_
  refine sBin F rfl rfl rfl rfl (bEqlB (y := 4)) ?_;clear F a;intro a F
  refine sAs F rfl rfl rfl ?_;clear F a;intro a F
  refine sNil ?_
  refine hK8 _ _ ?_; clear hK8
  refine cIf F rfl (fun h21 => ?_) (fun h21 => ?_)
  ·
   replace h21 := beqT h21
   refine cReg ?_
   refine sFa (f := 3) (k := 3) Tryd.underlying50 rfl Tryd.sizeOf48 rfl rfl F rfl rfl rfl ?_;clear F a;intro a F
   refine sFa (f := 1) (k := 4) Tryd.underlying48 rfl Tryd.sizeOf5 rfl rfl F rfl rfl rfl ?_;clear F a;intro a F
   refine sLd Tryd.isAgg5 F rfl rfl rfl (H.cell 0 rfl rfl) ?_;clear F a;intro a F
   refine sFa (f := 4) (k := 5) Tryd.underlying50 rfl Tryd.sizeOf48 rfl rfl F rfl rfl rfl ?_;clear F a;intro a F
   refine sFa (f := 1) (k := 6) Tryd.underlying48 rfl Tryd.sizeOf5 rfl rfl F rfl rfl rfl ?_;clear F a;intro a F
   refine sLd Tryd.isAgg5 F rfl rfl rfl (H.cell 0 rfl rfl) ?_;clear F a;intro a F
   refine sBin F rfl rfl rfl rfl bEqlB ?_;clear F a;intro a F
   refine sAs F rfl rfl rfl ?_;clear F a;intro a F
   refine sNil ?_
   refine hK6 _ _ ?_; clear hK6
   refine cSeq (fun K9 hK9 => ?_)
   refine cReg ?_
   refine sMv F rfl rfl rfl ?_;clear F a;intro a F
   refine sNot F rfl rfl rfl ?_;clear F a;intro a F
   refine sMv F rfl rfl rfl ?_;clear F a;intro a F
   refine sAs F rfl rfl rfl ?_;clear F a;intro a F
   refine sAs F rfl rfl rfl ?_;clear F a;intro a F
   refine sNil ?_
   refine hK9 _ _ ?_; clear hK9
   refine wp_ret ?_
   refine bRet2 Tryd.results82 F rfl rfl ?_
   refine ⟨?_, H.below⟩
   clear F H
   have e1 : wayN x = (if (x.aR || x.bR) = true then true else !jumpC x) := rfl
   have e2 : wayJ x = (if (x.aR || x.bR) = true then true else jumpC x) := rfl
   rw [e1, e2]
   simp_all [jumpC]
  replace h21 := beqF h21
  refine cSeq (fun K10 hK10 => ?_)
  refine cReg ?_
  refine sBin F rfl rfl rfl rfl (bEqlB (y := 5)) ?_;clear F a;intro a F
  refine sAs F rfl rfl rfl ?_;clear F a;intro a F
  refine sNil ?_
  refine hK10 _ _ ?_; clear hK10
  refine cIf F rfl (fun h30 => ?_) (fun h30 => ?_)
  ·
   replace h30 := beqT h30
   refine cReg ?_
   refine sFa (f := 3) (k := 3) Tryd.underlying50 rfl Tryd.sizeOf48 rfl rfl F rfl rfl rfl ?_;clear F a;intro a F
   refine sFa (f := 1) (k := 4) Tryd.underlying48 rfl Tryd.sizeOf5 rfl rfl F rfl rfl rfl ?_;clear F a;intro a F
   refine sLd Tryd.isAgg5 F rfl rfl rfl (H.cell 0 rfl rfl) ?_;clear F a;intro a F
   refine sFa (f := 4) (k := 5) Tryd.underlying50 rfl Tryd.sizeOf48 rfl rfl F rfl rfl rfl ?_;clear F a;intro a F
   refine sFa (f := 1) (k := 6) Tryd.underlying48 rfl Tryd.sizeOf5 rfl rfl F rfl rfl rfl ?_;clear F a;intro a F
   refine sLd Tryd.isAgg5 F rfl rfl rfl (H.cell 0 rfl rfl) ?_;clear F a;intro a F
   refine sBin F rfl rfl rfl rfl bNeqB ?_;clear F a;intro a F
   refine sAs F rfl rfl rfl ?_;clear F a;intro a F
   refine sNil ?_
   refine hK6 _ _ ?_; clear hK6
   refine cSeq (fun K11 hK11 => ?_)
   refine cReg ?_
   refine sMv F rfl rfl rfl ?_;clear F a;intro a F
   refine sNot F rfl rfl rfl ?_;clear F a;intro a F
   refine sMv F rfl rfl rfl ?_;clear F a;intro a F
   refine sAs F rfl rfl rfl ?_;clear F a;intro a F
   refine sAs F rfl rfl rfl ?_;clear F a;intro a F
   refine sNil ?_
   refine hK11 _ _ ?_; clear hK11
   refine wp_ret ?_
   refine bRet2 Tryd.results82 F rfl rfl ?_
   refine ⟨?_, H.below⟩
   clear F H
   have e1 : wayN x = (if (x.aR || x.bR) = true then true else !jumpC x) := rfl
   have e2 : wayJ x = (if (x.aR || x.bR) = true then true else jumpC x) := rfl
   rw [e1, e2]
   simp_all [jumpC]
  replace h30 := beqF h30
  refine cReg ?_
  refine sFa (f := 3) (k := 3) Tryd.underlying50 rfl Tryd.sizeOf48 rfl rfl F rfl rfl rfl ?_;clear F a;intro a F
  refine sFa (f := 1) (k := 4) Tryd.underlying48 rfl Tryd.sizeOf5 rfl rfl F rfl rfl rfl ?_;clear F a;intro a F
  refine sLd Tryd.isAgg5 F rfl rfl rfl (H.cell 0 rfl rfl) ?_;clear F a;intro a F
  refine sFa (f := 4) (k := 5) Tryd.underlying50 rfl Tryd.sizeOf48 rfl rfl F rfl rfl rfl ?_;clear F a;intro a F
  refine sFa (f := 1) (k := 6) Tryd.underlying48 rfl Tryd.sizeOf5 rfl rfl F rfl rfl rfl ?_;clear F a;intro a F
  refine sLd Tryd.isAgg5 F rfl rfl rfl (H.cell 0 rfl rfl) ?_;clear F a;intro a F
  refine sBin F rfl rfl rfl rfl bLssB ?_;clear F a;intro a F
  refine sAs F rfl rfl rfl ?_;clear F a;intro a F
  refine sNil ?_
  refine hK6 _ _ ?_; clear hK6
  refine cSeq (fun K12 hK12 => ?_)
  refine cReg ?_
  refine sMv F rfl rfl rfl ?_;clear F a;intro a F
  refine sNot F rfl rfl rfl ?_;clear F a;intro a F
  refine sMv F rfl rfl rfl ?_;clear F a;intro a F
  refine sAs F rfl rfl rfl ?_;clear F a;intro a F
  refine sAs F rfl rfl rfl ?_;clear F a;intro a F
  refine sNil ?_
  refine hK12 _ _ ?_; clear hK12
  refine wp_ret ?_
  refine bRet2 Tryd.results82 F rfl rfl ?_
  refine ⟨?_, H.below⟩
  clear F H
  have e1 : wayN x = (if (x.aR || x.bR) = true then true else !jumpC x) := rfl
  have e2 : wayJ x = (if (x.aR || x.bR) = true then true else jumpC x) := rfl
  rw [e1, e2]
  simp_all [jumpC]
/-- A thread and its skip at i. -/
structure SkipAt (w : World) (A : Option Addr) (l : List Ins) (b : Nat) (alive : List Bool) (i : Nat) (x : Ins) : Prop where
  rows : RowsAt w A 10 (l.map Ins.cells)
  al : w.rangeAt b 0 (bl alive)
  at' : l[i]? = some x
  len : alive.length = l.length
  l12 : l.length ≤ 12
  pos : 1 ≤ x.skip.toNat
  fit : i + 1 + x.skip.toNat ≤ l.length
theorem SkipAt.own {w0 w : World} {rs : List Res} {A : Option Addr} {l : List Ins} {b : Nat} {alive : List Bool} {i : Nat} {x : Ins} (h : SkipAt w0 A l b alive i x) (H : Own w0 none w rs) : SkipAt w A l b alive i x := ⟨h.rows.own H, H.argR h.al, h.at', h.len, h.l12, h.pos, h.fit⟩
theorem ofNat_succ8 (n : Nat) : UInt8.ofNat (n + 1) = UInt8.ofNat n + 1 := by
  apply UInt8.toNat_inj.1
  rw [UInt8.toNat_add, UInt8.toNat_ofNat', UInt8.toNat_ofNat']
  have : (1 : UInt8).toNat = 1 := rfl
  rw [this]; omega
theorem skipped_any (A : Option Addr) (C : Nat) (l : List Ins) (b : Nat) (alive : List Bool) (i : Nat) (x : Ins) (w0 : World) (hS : SkipAt w0 A l b alive i x) :
    Calls Tryd.prog 67 #[.slice A l.length C, .slice (some ⟨b, 0, none⟩) alive.length alive.length, .int .i64 (i : Int)] w0 fun e w' => e = .returned (b8 (UInt8.ofNat (skippedP alive i x.skip.toNat))) ∧ Below w0.heap.size w0 w' := by
  have H := Own.start w0 none
  obtain ⟨hR, hA, hx, hl, h12, hpos, hfit⟩ := hS
  obtain ⟨bI, oI, rfl, hIx⟩ := hR i x.cells (by rw [List.getElem?_map, hx]; rfl)
  generalize hs : x.skip.toNat = s at hpos hfit
  have hil : i < l.length := by omega
  refine enterF Tryd.func67 rfl Tryd.ntmps67 rfl (fun a F => ?_)
  refine cSeq (fun K1 hK1 => ?_)
  refine cReg ?_
  refine sAs F rfl rfl rfl ?_;clear F a;intro a F
  refine sNil ?_
  refine hK1 _ _ ?_; clear hK1
  refine cSeq (fun K2 hK2 => ?_)
  refine cReg ?_
  refine sAs F rfl rfl rfl ?_;clear F a;intro a F
  refine sNil ?_
  refine hK2 _ _ ?_; clear hK2
  refine cSeq (fun K3 hK3 => ?_)
  refine cSeq (fun K4 hK4 => ?_)
  refine cReg ?_
  refine sMv F rfl rfl rfl ?_;clear F a;intro a F
  refine sMv F rfl rfl rfl ?_;clear F a;intro a F
  refine sBin F rfl rfl rfl rfl (bAddI ?_) ?_
  focus omega
  clear F a; intro a F
  refine sMv F rfl rfl rfl ?_;clear F a;intro a F
  refine sBin F rfl rfl rfl rfl (bAddI ?_) ?_
  focus omega
  clear F a; intro a F
  refine sMv F rfl rfl rfl ?_;clear F a;intro a F
  refine sMv F rfl rfl rfl ?_;clear F a;intro a F
  refine sIx Tryd.underlying22 Tryd.sizeOf50 F rfl rfl rfl rfl ?_ ?_
  focus (first | omega | decide | (simp; omega))
  clear F a; intro a F
  refine sFa (f := 7) Tryd.underlying50 rfl Tryd.sizeOf5 rfl rfl F rfl rfl rfl ?_;clear F a;intro a F
  refine sLd Tryd.isAgg5 F rfl rfl rfl (H.arg (hIx 9 _ rfl)) ?_;clear F a;intro a F
  refine sCv Tryd.underlying5 Tryd.underlying3 F rfl rfl rfl (show IntKind.i64.wrap (x.skip.toNat : Int) = (s : Int) from by rw [hs]; exact wrapN (by omega)) ?_;clear F a;intro a F
  refine sBin F rfl rfl rfl rfl (bAddI ?_) ?_
  focus omega
  clear F a; intro a F
  refine sSlLH Tryd.underlying101 Tryd.sizeOf4 F rfl rfl rfl rfl rfl ?_ ?_ ?_ ?_
  focus (first | omega | decide | (simp; omega))
  focus (first | omega | decide | (simp; omega))
  focus (first | omega | decide | (simp; omega))
  clear F a; intro a F
  refine sLen Tryd.underlying101 F rfl rfl rfl ?_;clear F a;intro a F
  refine sMv F rfl rfl rfl ?_;clear F a;intro a F
  refine sNil ?_
  refine hK4 _ _ ?_; clear hK4
  refine wp_block ?_
  refine cLoopR [22, 23] (fun m ups w => ∃ j : Nat, m = s - j ∧ ups = [(7, Go.Proofs.YtmfdpnjgljlkbaaDoor.b8 (UInt8.ofNat (((alive.drop (i + 1)).take j).count true))), (24, .int .i64 ((j : Nat) : Int))] ∧ j ≤ s ∧ Own w0 none w []) F (s) [(7, Go.Proofs.YtmfdpnjgljlkbaaDoor.b8 0), (24, .int .i64 ((0 : Nat) : Int))] (by repeat (first | exact SubR.nil | (apply SubR.cons; · rfl))) ?_ ?_ ?_
  · exact ⟨0, rfl, rfl, by omega, H⟩
  · repeat (first | exact trivial | refine Le.cons rfl ?_)
  clear F
  clear H
  intro m ups a w hI F
  obtain ⟨j, rfl, rfl, hj, H⟩ := hI
  refine cSeq (fun K5 hK5 => ?_)
  refine cReg ?_
  refine sBin F rfl rfl rfl rfl bLss ?_;clear F a;intro a F
  refine sNil ?_
  refine hK5 _ _ ?_; clear hK5
  refine cSeq (fun K6 hK6 => ?_)
  refine cIf F rfl (fun h25 => ?_) (fun h25 => ?_)
  ·
   replace h25 := of_decide_eq_true h25
   have hjs : j < s := by omega
   obtain ⟨v, hv⟩ : ∃ v, alive[i + 1 + j]? = some v := ⟨_, List.getElem?_eq_getElem (by omega)⟩
   have hv2 : (alive.drop (i + 1))[j]? = some v := by rw [List.getElem?_drop]; exact hv
   have hc := hA (i + 1 + j) _ (bl_get hv)
   have hct := count_take hv2
   refine wp_skip ?_
   refine hK6 _ _ ?_; clear hK6
   refine cSeq (fun K7 hK7 => ?_)
   refine wp_block ?_
   refine cSeq (fun K8 hK8 => ?_)
   refine cReg ?_
   refine sIx Tryd.underlying101 Tryd.sizeOf4 F rfl rfl rfl rfl ?_ ?_
   focus (first | omega | decide | (simp; omega))
   clear F a; intro a F
   refine sLd Tryd.isAgg4 F rfl rfl rfl (H.arg (by rw [show 0 + (i + 1) * 1 + j * 1 = 0 + (i + 1 + j) by omega]; exact hc)) ?_;clear F a;intro a F
   refine sAs F rfl rfl rfl ?_;clear F a;intro a F
   refine sNil ?_
   refine hK8 _ _ ?_; clear hK8
   refine cSeq (fun K9 hK9 => ?_)
   refine cReg ?_
   refine sMv F rfl rfl rfl ?_;clear F a;intro a F
   refine sNil ?_
   refine hK9 _ _ ?_; clear hK9
   refine cIf F rfl (fun h28 => ?_) (fun h28 => ?_)
   ·
    refine cReg ?_
    refine sMv F rfl rfl rfl ?_;clear F a;intro a F
    refine sBin F rfl rfl rfl rfl (bAddB (y := 1)) ?_;clear F a;intro a F
    refine sAs F rfl rfl rfl ?_;clear F a;intro a F
    refine sNil ?_
    refine hK7 _ _ ?_; clear hK7
    refine cReg ?_
    refine sBin F rfl rfl rfl rfl (bAddN (j := 1) ?_) ?_
    focus omega
    clear F a; intro a F
    refine sMv F rfl rfl rfl ?_;clear F a;intro a F
    refine sNil ?_
    first
      | (have e : ((alive.drop (i + 1)).take (j + 1)).count true = ((alive.drop (i + 1)).take j).count true + 1 := by rw [hct, if_pos h28]
         rw [← ofNat_succ8, ← e] at F
         exact ⟨_, by omega, _, ⟨j + 1, rfl, rfl, by omega, H⟩, F.to (by repeat (first | exact trivial | refine Le.cons rfl ?_))⟩)
      | (have e : ((alive.drop (i + 1)).take (j + 1)).count true = ((alive.drop (i + 1)).take j).count true := by rw [hct, if_neg (by rw [h28]; simp), Nat.add_zero]
         rw [← e] at F
         exact ⟨_, by omega, _, ⟨j + 1, rfl, rfl, by omega, H⟩, F.to (by repeat (first | exact trivial | refine Le.cons rfl ?_))⟩)
   refine wp_skip ?_
   refine hK7 _ _ ?_; clear hK7
   refine cReg ?_
   refine sBin F rfl rfl rfl rfl (bAddN (j := 1) ?_) ?_
   focus omega
   clear F a; intro a F
   refine sMv F rfl rfl rfl ?_;clear F a;intro a F
   refine sNil ?_
   first
     | (have e : ((alive.drop (i + 1)).take (j + 1)).count true = ((alive.drop (i + 1)).take j).count true + 1 := by rw [hct, if_pos h28]
        rw [← ofNat_succ8, ← e] at F
        exact ⟨_, by omega, _, ⟨j + 1, rfl, rfl, by omega, H⟩, F.to (by repeat (first | exact trivial | refine Le.cons rfl ?_))⟩)
     | (have e : ((alive.drop (i + 1)).take (j + 1)).count true = ((alive.drop (i + 1)).take j).count true := by rw [hct, if_neg (by rw [h28]; simp), Nat.add_zero]
        rw [← e] at F
        exact ⟨_, by omega, _, ⟨j + 1, rfl, rfl, by omega, H⟩, F.to (by repeat (first | exact trivial | refine Le.cons rfl ?_))⟩)
  replace h25 := of_decide_eq_false h25
  obtain rfl : j = s := by omega
  refine wp_exit ?_
  refine hK3 _ _ ?_; clear hK3
  refine cSeq (fun K10 hK10 => ?_)
  refine cReg ?_
  refine sMv F rfl rfl rfl ?_;clear F a;intro a F
  refine sAs F rfl rfl rfl ?_;clear F a;intro a F
  refine sNil ?_
  refine hK10 _ _ ?_; clear hK10
  refine wp_ret ?_
  refine bRet Tryd.results67 F rfl ?_
  exact ⟨rfl, H.below⟩
theorem ofNat8_zero {n : Nat} (h : n < 256) : (UInt8.ofNat n == 0) = (n == 0) := by
  rw [Bool.eq_iff_iff, beq_iff_eq, beq_iff_eq, ← UInt8.toNat_inj, UInt8.toNat_ofNat', Nat.mod_eq_of_lt h]
  exact Iff.rfl
theorem skipped_lt (alive : List Bool) (i s : Nat) : skippedP alive i s ≤ s := by
  unfold skippedP
  exact Nat.le_trans List.count_le_length (by rw [List.length_take]; exact Nat.min_le_left _ _)
theorem idle_any (A : Option Addr) (C : Nat) (l : List Ins) (b : Nat) (alive : List Bool) (i : Nat) (x : Ins) (w0 : World) (hS : SkipAt w0 A l b alive i x) :
    Calls Tryd.prog 83 #[.slice A l.length C, .slice (some ⟨b, 0, none⟩) alive.length alive.length, .int .i64 (i : Int)] w0 fun e w' => e = .returned (.bool (idleP x alive i)) ∧ Below w0.heap.size w0 w' := by
  have H := Own.start w0 none
  have hS0 := hS
  obtain ⟨hR, hA, hx, hl, h12, hpos, hfit⟩ := hS
  obtain ⟨bI, oI, rfl, hIx⟩ := hR i x.cells (by rw [List.getElem?_map, hx]; rfl)
  have hil : i < l.length := by omega
  have hb := skipped_lt alive i x.skip.toNat
  refine enterF Tryd.func83 rfl Tryd.ntmps83 rfl (fun a F => ?_)
  refine cSeq (fun K1 hK1 => ?_)
  refine cReg ?_
  refine sAs F rfl rfl rfl ?_;clear F a;intro a F
  refine sNil ?_
  refine hK1 _ _ ?_; clear hK1
  refine cSeq (fun K2 hK2 => ?_)
  refine cReg ?_
  refine sMv F rfl rfl rfl ?_;clear F a;intro a F
  refine sMv F rfl rfl rfl ?_;clear F a;intro a F
  refine sIx Tryd.underlying22 Tryd.sizeOf50 F rfl rfl rfl rfl ?_ ?_
  focus (first | omega | decide | (simp; omega))
  clear F a; intro a F
  refine sLr Tryd.underlying50 rfl ?si F rfl rfl rfl (H.argR hIx) ?_
  case si => exact info_size Tryd.sizeOf50
  clear F a; intro a F
  refine sCall Tryd.call82 F rfl rfl rfl (ways_any x _) ?_
  rintro e w ⟨rfl, hb⟩
  replace H := H.grow hb; clear hb
  refine ⟨_, rfl, ?_⟩
  clear F a; intro a F
  refine sMv F rfl rfl rfl ?_;clear F a;intro a F
  refine sExt F rfl rfl rfl rfl ?_;clear F a;intro a F
  refine sExt F rfl rfl rfl rfl ?_;clear F a;intro a F
  refine sAs F rfl rfl rfl ?_;clear F a;intro a F
  refine sAs F rfl rfl rfl ?_;clear F a;intro a F
  refine sNil ?_
  refine hK2 _ _ ?_; clear hK2
  refine cSeq (fun K3 hK3 => ?_)
  refine cReg ?_
  refine sMv F rfl rfl rfl ?_;clear F a;intro a F
  refine sNot F rfl rfl rfl ?_;clear F a;intro a F
  refine sMv F rfl rfl rfl ?_;clear F a;intro a F
  refine F.split 19 rfl ?_ ?_ <;> (clear F; intro h19 F)
  ·
   replace h19 := notT h19
   refine sSk F rfl rfl ?_;clear F a;intro a F
   refine sSk F rfl rfl ?_;clear F a;intro a F
   refine sSk F rfl rfl ?_;clear F a;intro a F
   refine sSk F rfl rfl ?_;clear F a;intro a F
   refine sSk F rfl rfl ?_;clear F a;intro a F
   refine sPk F rfl rfl rfl rfl ?_;clear F a;intro a F
   refine sAs F rfl rfl rfl ?_;clear F a;intro a F
   refine sNil ?_
   refine hK3 _ _ ?_; clear hK3
   refine wp_ret ?_
   refine bRet Tryd.results83 F rfl ?_
   refine ⟨retB ?_, H.below⟩
   clear F H
   first
     | (rw [idleP, ← ofNat8_zero (by omega), h19]; rfl)
     | (rw [idleP, h19]; rfl)
  replace h19 := notF h19
  refine sMv F rfl rfl rfl ?_;clear F a;intro a F
  refine sMv F rfl rfl rfl ?_;clear F a;intro a F
  refine sMv F rfl rfl rfl ?_;clear F a;intro a F
  refine sCall Tryd.call67 F rfl rfl rfl (skipped_any _ C l b alive i x _ (hS0.own H)) ?_
  rintro e w ⟨rfl, hb⟩
  replace H := H.grow hb; clear hb
  refine ⟨_, rfl, ?_⟩
  clear F a; intro a F
  refine sBin F rfl rfl rfl rfl (bEqlB (y := 0)) ?_;clear F a;intro a F
  refine sPk F rfl rfl rfl rfl ?_;clear F a;intro a F
  refine sAs F rfl rfl rfl ?_;clear F a;intro a F
  refine sNil ?_
  refine hK3 _ _ ?_; clear hK3
  refine wp_ret ?_
  refine bRet Tryd.results83 F rfl ?_
  refine ⟨retB ?_, H.below⟩
  clear F H
  first
    | (rw [idleP, ← ofNat8_zero (by omega), h19]; rfl)
    | (rw [idleP, h19]; rfl)
end Go.Proofs.YtmfdpnjgljlkbaaDoor
