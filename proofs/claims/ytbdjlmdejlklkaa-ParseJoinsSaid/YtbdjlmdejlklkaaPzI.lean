/-
  WALK2. Chapter 05: ParseFits answers true. Conditions: the text's length.
-/
import Derived.Test.YtbdjlmdejlklkaaPzH
import Derived.Test.YtbdjlmdejlklkaaPrG
set_option linter.unusedSimpArgs false
set_option linter.unusedVariables false
namespace Go.Proofs.Ytbdjlmdejlklkaa
open Go.RowKit
set_option maxRecDepth 100000
theorem runR_inr {α : Type} {s : ByteArray} {R : Rs α} {v : α} (h : RunR s R = .inr v) : lexBad s = none ∧ ∃ t, R = .ok v t := by
  unfold RunR at h
  split at h
  · cases h
  next hl =>
    split at h
    next v' t => cases h; exact ⟨hl, t, rfl⟩
    · cases h
theorem parse_fit {s : ByteArray} {p : Prg} (h : parseT s = .inr p) : PgFit p := by
  obtain ⟨_, t, ht⟩ := runR_inr h
  exact progP_fit ht
theorem name_size {x : ByteArray} (h : nameOk x = true) : x.size ≤ 16 := by
  unfold nameOk at h
  split at h
  next h1 => exact h1.2
  · cases h
set_option maxHeartbeats 16000000 in
theorem parseFits_any (s : ByteArray) (w0 : World) (hs : s.size ≤ maxLen) : Calls Try.prog 4 #[.string s] w0 fun e w' => e = .returned (.bool true) ∧ Below w0.heap.size w0 w' := by
  have H := Own.start w0 none
  refine enterF Try.func4 rfl Try.ntmps4 rfl (fun a F => ?_)
  refine cSeq (fun K1 hK1 => ?_)
  refine cReg ?_
  refine sAs F rfl rfl rfl ?_;clear F a;intro a F
  refine sNil ?_
  refine hK1 _ _ ?_; clear hK1
  refine cSeq (fun K2 hK2 => ?_)
  refine cSeq (fun K3 hK3 => ?_)
  refine cReg ?_
  refine sCall Try.call8 F rfl rfl rfl (awake5_any _) ?_
  rintro e w ⟨rfl, hb⟩
  replace H := H.grow hb; clear hb
  refine ⟨_, rfl, ?_⟩
  clear F a; intro a F
  refine sNot F rfl rfl rfl ?_;clear F a;intro a F
  refine sNil ?_
  refine hK3 _ _ ?_; clear hK3
  refine cIf F rfl (fun h12 => ?_) (fun h12 => ?_)
  ·
   replace h12 := notT h12
   cases h12
  replace h12 := notF h12
  refine wp_skip ?_
  refine hK2 _ _ ?_; clear hK2
  refine cSeq (fun K4 hK4 => ?_)
  refine cSeq (fun K5 hK5 => ?_)
  refine cReg ?_
  refine sMv F rfl rfl rfl ?_;clear F a;intro a F
  refine sLenS Try.underlying9 F rfl rfl rfl ?_;clear F a;intro a F
  refine sBin F rfl rfl rfl rfl bGtr ?_;clear F a;intro a F
  refine sNil ?_
  refine hK5 _ _ ?_; clear hK5
  refine cIf F rfl (fun h15 => ?_) (fun h15 => ?_)
  ·
   replace h15 := of_decide_eq_true h15
   refine cSeq (fun K6 hK6 => ?_)
   refine cReg ?_
   refine sAs F rfl rfl rfl ?_;clear F a;intro a F
   refine sNil ?_
   refine hK6 _ _ ?_; clear hK6
   refine wp_ret ?_
   simp only [Exit.then]
   refine bRet Try.results4 F rfl ?_
   exact ⟨rfl, H.below⟩
  replace h15 := of_decide_eq_false h15
  refine wp_skip ?_
  refine hK4 _ _ ?_; clear hK4
  refine cSeq (fun K7 hK7 => ?_)
  refine cReg ?_
  refine sMv F rfl rfl rfl ?_;clear F a;intro a F
  refine sCall Try.call11 F rfl rfl rfl (pparse2_any s hs H) ?_
  rintro e w ⟨p, pl, er, ⟨LA, LC, IA, IC, TA, TC, CA, CC, hr, S1, hh⟩, rfl, hh2, H, hp⟩
  refine ⟨_, rfl, ?_⟩
  clear F a; intro a F
  refine sMv F rfl rfl rfl ?_;clear F a;intro a F
  refine sExt F rfl rfl rfl rfl ?_;clear F a;intro a F
  refine sExt F rfl rfl rfl rfl ?_;clear F a;intro a F
  refine sExt F rfl rfl rfl rfl ?_;clear F a;intro a F
  refine sAl H Try.zeroValue33 F rfl rfl ?_
  clear F a H; intro b3 a w F H
  refine sSr H 0 ?si F rfl rfl rfl ?s1 rfl rfl ?_
  case si => exact info_size Try.sizeOf33
  case s1 => first | rfl | (repeat (first | exact one_nil | (apply one_cons; · first | rfl | assumption | exact one_bif rfl rfl)))
  clear H; intro w H
  refine sAs F rfl rfl rfl ?_;clear F a;intro a F
  refine sAs F rfl rfl rfl ?_;clear F a;intro a F
  refine sNil ?_
  refine hK7 _ _ ?_; clear hK7
  refine cSeq (fun K8 hK8 => ?_)
  refine cSeq (fun K9 hK9 => ?_)
  refine cReg ?_
  refine sMv F rfl rfl rfl ?_;clear F a;intro a F
  refine sBin F rfl rfl rfl rfl bNeq ?_;clear F a;intro a F
  refine sNil ?_
  refine hK9 _ _ ?_; clear hK9
  refine cIf F rfl (fun h23 => ?_) (fun h23 => ?_)
  ·
   replace h23 := bneT h23
   refine cSeq (fun K10 hK10 => ?_)
   refine cReg ?_
   refine sAs F rfl rfl rfl ?_;clear F a;intro a F
   refine sNil ?_
   refine hK10 _ _ ?_; clear hK10
   refine wp_ret ?_
   simp only [Exit.then]
   refine bRet Try.results4 F rfl ?_
   exact ⟨rfl, H.below⟩
  replace h23 := bneF h23
  obtain hpt : parseT s = .inr p := by
    rcases hp with ⟨_, h, _⟩ | ⟨h, _⟩
    · exact absurd h23 h
    · exact h
  have fit := parse_fit hpt
  have few := fit.nm.few
  have fini := fit.ini
  have fthr := fit.thr
  have fask := fit.ask
  have fdeep := fit.deep
  refine wp_skip ?_
  refine hK8 _ _ ?_; clear hK8
  refine cSeq (fun K11 hK11 => ?_)
  refine cSeq (fun K12 hK12 => ?_)
  refine cReg ?_
  refine sFa (f := 1) (k := 1) Try.underlying33 rfl Try.sizeOf29 rfl rfl F rfl rfl rfl ?_;clear F a;intro a F
  refine sLd Try.isAgg29 F rfl rfl rfl (H.cell 0 rfl rfl) ?_;clear F a;intro a F
  refine sLen Try.underlying29 F rfl rfl rfl ?_;clear F a;intro a F
  refine sBin F rfl rfl rfl rfl bGtr ?_;clear F a;intro a F
  refine sMv F rfl rfl rfl ?_;clear F a;intro a F
  refine F.split 28 rfl ?_ ?_ <;> (clear F; intro h28 F)
  ·
   replace h28 := of_decide_eq_true h28
   omega
  replace h28 := of_decide_eq_false h28
  refine sFa (f := 2) (k := 2) Try.underlying33 rfl Try.sizeOf30 rfl rfl F rfl rfl rfl ?_;clear F a;intro a F
  refine sLd Try.isAgg30 F rfl rfl rfl (H.cell 0 rfl rfl) ?_;clear F a;intro a F
  refine sLen Try.underlying30 F rfl rfl rfl ?_;clear F a;intro a F
  refine sFa (f := 1) (k := 1) Try.underlying33 rfl Try.sizeOf29 rfl rfl F rfl rfl rfl ?_;clear F a;intro a F
  refine sLd Try.isAgg29 F rfl rfl rfl (H.cell 0 rfl rfl) ?_;clear F a;intro a F
  refine sLen Try.underlying29 F rfl rfl rfl ?_;clear F a;intro a F
  refine sBin F rfl rfl rfl rfl bNeq ?_;clear F a;intro a F
  refine sPk F rfl rfl rfl rfl ?_;clear F a;intro a F
  refine sMv F rfl rfl rfl ?_;clear F a;intro a F
  refine F.split 37 rfl ?_ ?_ <;> (clear F; intro h37 F)
  ·
   replace h37 := bneT h37
   omega
  replace h37 := bneF h37
  refine sFa (f := 3) (k := 3) Try.underlying33 rfl Try.sizeOf31 rfl rfl F rfl rfl rfl ?_;clear F a;intro a F
  refine sLd Try.isAgg31 F rfl rfl rfl (H.cell 0 rfl rfl) ?_;clear F a;intro a F
  refine sLen Try.underlying31 F rfl rfl rfl ?_;clear F a;intro a F
  refine sBin F rfl rfl rfl rfl bLss ?_;clear F a;intro a F
  refine sPk F rfl rfl rfl rfl ?_;clear F a;intro a F
  refine sMv F rfl rfl rfl ?_;clear F a;intro a F
  refine F.split 43 rfl ?_ ?_ <;> (clear F; intro h43 F)
  ·
   replace h43 := of_decide_eq_true h43
   omega
  replace h43 := of_decide_eq_false h43
  refine sFa (f := 3) (k := 3) Try.underlying33 rfl Try.sizeOf31 rfl rfl F rfl rfl rfl ?_;clear F a;intro a F
  refine sLd Try.isAgg31 F rfl rfl rfl (H.cell 0 rfl rfl) ?_;clear F a;intro a F
  refine sLen Try.underlying31 F rfl rfl rfl ?_;clear F a;intro a F
  refine sBin F rfl rfl rfl rfl bGtr ?_;clear F a;intro a F
  refine sPk F rfl rfl rfl rfl ?_;clear F a;intro a F
  refine sMv F rfl rfl rfl ?_;clear F a;intro a F
  refine F.split 49 rfl ?_ ?_ <;> (clear F; intro h49 F)
  ·
   replace h49 := of_decide_eq_true h49
   omega
  replace h49 := of_decide_eq_false h49
  refine sFa (f := 4) (k := 4) Try.underlying33 rfl Try.sizeOf5 rfl rfl F rfl rfl rfl ?_;clear F a;intro a F
  refine sLd Try.isAgg5 F rfl rfl rfl (H.cell 0 rfl rfl) ?_;clear F a;intro a F
  refine sBin F rfl rfl rfl rfl (bLssB (y := 1)) ?_;clear F a;intro a F
  refine sPk F rfl rfl rfl rfl ?_;clear F a;intro a F
  refine sMv F rfl rfl rfl ?_;clear F a;intro a F
  refine F.split 54 rfl ?_ ?_ <;> (clear F; intro h54 F)
  ·
   replace h54 := of_decide_eq_true h54
   (have h : p.ask.toNat < 1 := UInt8.lt_iff_toNat_lt.1 h54); omega
  replace h54 := of_decide_eq_false h54
  refine sFa (f := 4) (k := 4) Try.underlying33 rfl Try.sizeOf5 rfl rfl F rfl rfl rfl ?_;clear F a;intro a F
  refine sLd Try.isAgg5 F rfl rfl rfl (H.cell 0 rfl rfl) ?_;clear F a;intro a F
  refine sBin F rfl rfl rfl rfl (bGtrB (y := 3)) ?_;clear F a;intro a F
  refine sPk F rfl rfl rfl rfl ?_;clear F a;intro a F
  refine sMv F rfl rfl rfl ?_;clear F a;intro a F
  refine F.split 59 rfl ?_ ?_ <;> (clear F; intro h59 F)
  ·
   replace h59 := of_decide_eq_true h59
   (have h : 3 < p.ask.toNat := UInt8.lt_iff_toNat_lt.1 h59); omega
  replace h59 := of_decide_eq_false h59
  refine sFa (f := 5) (k := 5) Try.underlying33 rfl Try.sizeOf24 rfl rfl F rfl rfl rfl ?_;clear F a;intro a F
  refine sLr Try.underlying24 rfl ?si F rfl rfl rfl (H.range 0 rfl _ 5) ?_
  case si => exact info_size Try.sizeOf24
  clear F a; intro a F
  refine sCall Try.call9 F rfl rfl rfl (pdeep_any _ _ p.cond _ (H.prw 1 rfl).cond.at (by omega)) ?_
  rintro e w ⟨rfl, hb⟩
  replace H := H.grow hb; clear hb
  refine ⟨_, rfl, ?_⟩
  clear F a; intro a F
  refine sBin F rfl rfl rfl rfl bGtr ?_;clear F a;intro a F
  refine sPk F rfl rfl rfl rfl ?_;clear F a;intro a F
  refine sMv F rfl rfl rfl ?_;clear F a;intro a F
  refine F.split 65 rfl ?_ ?_ <;> (clear F; intro h65 F)
  ·
   replace h65 := of_decide_eq_true h65
   omega
  replace h65 := of_decide_eq_false h65
  refine sFa (f := 0) (k := 0) Try.underlying33 rfl Try.sizeOf9 rfl rfl F rfl rfl rfl ?_;clear F a;intro a F
  refine sLd Try.isAgg9 F rfl rfl rfl (H.cell 0 rfl rfl) ?_;clear F a;intro a F
  refine sBin F rfl rfl rfl rfl bStrEq ?_;clear F a;intro a F
  refine sPk F rfl rfl rfl rfl ?_;clear F a;intro a F
  refine sNil ?_
  refine hK12 _ _ ?_; clear hK12
  refine cIf F rfl (fun h69 => ?_) (fun h69 => ?_)
  ·
   replace h69 := beqT h69
   exact absurd (h69.trans (lit_toList [])) fit.name
  replace h69 := beqF h69
  refine wp_skip ?_
  refine hK11 _ _ ?_; clear hK11
  refine cSeq (fun K13 hK13 => ?_)
  refine cSeq (fun K14 hK14 => ?_)
  refine cReg ?_
  refine sAs F rfl rfl rfl ?_;clear F a;intro a F
  refine sNil ?_
  refine hK14 _ _ ?_; clear hK14
  refine wp_block ?_
  refine cLoopR [3] (fun m ups w => ∃ i : Nat, m = p.locs.length - i ∧ ups = [(6, .int .i64 ((i : Nat) : Int))] ∧ i ≤ p.locs.length ∧ Own w0 none w [.blk b3 (pcells p ⟨LA, LC, IA, IC, TA, TC, CA, CC, hr, S1, hh⟩) 33, .prw p ⟨LA, LC, IA, IC, TA, TC, CA, CC, hr, S1, hh⟩]) F (p.locs.length) [(6, .int .i64 ((0 : Nat) : Int))] (by repeat (first | exact SubR.nil | (apply SubR.cons; · rfl))) ?_ ?_ ?_
  · exact ⟨0, rfl, rfl, Nat.zero_le _, H⟩
  · repeat (first | exact trivial | refine Le.cons rfl ?_)
  clear F
  clear H
  intro m ups a w hI F
  obtain ⟨i, rfl, rfl, hi, H⟩ := hI
  refine cSeq (fun K15 hK15 => ?_)
  refine cSeq (fun K16 hK16 => ?_)
  refine cReg ?_
  refine sMv F rfl rfl rfl ?_;clear F a;intro a F
  refine sFa (f := 1) (k := 1) Try.underlying33 rfl Try.sizeOf29 rfl rfl F rfl rfl rfl ?_;clear F a;intro a F
  refine sLd Try.isAgg29 F rfl rfl rfl (H.cell 0 rfl rfl) ?_;clear F a;intro a F
  refine sLen Try.underlying29 F rfl rfl rfl ?_;clear F a;intro a F
  refine sBin F rfl rfl rfl rfl bLss ?_;clear F a;intro a F
  refine sNil ?_
  refine hK16 _ _ ?_; clear hK16
  refine cIf F rfl (fun h74 => ?_) (fun h74 => ?_)
  ·
   replace h74 := of_decide_eq_true h74
   obtain ⟨x, hx⟩ : ∃ x, p.locs[i]? = some x := ⟨_, List.getElem?_eq_getElem (by omega)⟩
   have hxok : nameOk x = true := fit.nm.ok x (List.mem_of_getElem? hx)
   obtain ⟨lb, lo, rfl⟩ := (H.prw 1 rfl).locs.addr (strC_at hx)
   refine wp_skip ?_
   refine hK15 _ _ ?_; clear hK15
   refine cSeq (fun K17 hK17 => ?_)
   refine wp_block ?_
   refine cSeq (fun K18 hK18 => ?_)
   refine cSeq (fun K19 hK19 => ?_)
   refine cReg ?_
   refine sFa (f := 1) (k := 1) Try.underlying33 rfl Try.sizeOf29 rfl rfl F rfl rfl rfl ?_;clear F a;intro a F
   refine sLd Try.isAgg29 F rfl rfl rfl (H.cell 0 rfl rfl) ?_;clear F a;intro a F
   refine sMv F rfl rfl rfl ?_;clear F a;intro a F
   refine sIx Try.underlying29 Try.sizeOf9 F rfl rfl rfl rfl ?_ ?_
   focus (first | omega | decide | (simp; omega))
   clear F a; intro a F
   refine sLd Try.isAgg9 F rfl rfl rfl ((H.prw 1 rfl).locs.at1 (strC_at hx)) ?_;clear F a;intro a F
   refine sCall Try.call12 F rfl rfl rfl (name_any x _ (by have := name_size hxok; unfold maxLen; omega) _ hxok) ?_
   rintro e w ⟨rfl, rfl⟩
   refine ⟨_, rfl, ?_⟩
   clear F a; intro a F
   refine sNot F rfl rfl rfl ?_;clear F a;intro a F
   refine sNil ?_
   refine hK19 _ _ ?_; clear hK19
   refine cIf F rfl (fun h83 => ?_) (fun h83 => ?_)
   ·
    replace h83 := notT h83
    cases h83
   replace h83 := notF h83
   refine wp_skip ?_
   refine hK18 _ _ ?_; clear hK18
   refine cSeq (fun K20 hK20 => ?_)
   refine cReg ?_
   refine sAs F rfl rfl rfl ?_;clear F a;intro a F
   refine sNil ?_
   refine hK20 _ _ ?_; clear hK20
   refine wp_block ?_
   refine cLoopR [3, 6] (fun m ups w => ∃ k : Nat, m = i - k ∧ ups = [(7, .int .i64 ((k : Nat) : Int))] ∧ k ≤ i ∧ Own w0 none w [.blk b3 (pcells p ⟨some ⟨lb, lo, none⟩, LC, IA, IC, TA, TC, CA, CC, hr, S1, hh⟩) 33, .prw p ⟨some ⟨lb, lo, none⟩, LC, IA, IC, TA, TC, CA, CC, hr, S1, hh⟩]) F (i) [(7, .int .i64 ((0 : Nat) : Int))] (by repeat (first | exact SubR.nil | (apply SubR.cons; · rfl))) ?_ ?_ ?_
   · exact ⟨0, rfl, rfl, Nat.zero_le _, H⟩
   · repeat (first | exact trivial | refine Le.cons rfl ?_)
   clear F
   clear H
   intro m ups a w hI F
   obtain ⟨k, rfl, rfl, hk, H⟩ := hI
   refine cSeq (fun K21 hK21 => ?_)
   refine cSeq (fun K22 hK22 => ?_)
   refine cReg ?_
   refine sMv F rfl rfl rfl ?_;clear F a;intro a F
   refine sMv F rfl rfl rfl ?_;clear F a;intro a F
   refine sBin F rfl rfl rfl rfl bLss ?_;clear F a;intro a F
   refine sNil ?_
   refine hK22 _ _ ?_; clear hK22
   refine cIf F rfl (fun h86 => ?_) (fun h86 => ?_)
   ·
    replace h86 := of_decide_eq_true h86
    have hki : k < i := by omega
    obtain ⟨y, hy⟩ : ∃ y, p.locs[k]? = some y := ⟨_, List.getElem?_eq_getElem (by omega)⟩
    refine wp_skip ?_
    refine hK21 _ _ ?_; clear hK21
    refine cSeq (fun K23 hK23 => ?_)
    refine wp_block ?_
    refine cSeq (fun K24 hK24 => ?_)
    refine cRegRO (by kernel_rfl) H ?_
    replace H := H.drew
    refine eTakeF (k := 0) (i := 0) rfl (by kernel_rfl) F rfl rfl rfl (fun w => rFa (f := 1) (k := 1) Try.underlying33 rfl Try.sizeOf29 rfl rfl F rfl) H (fun _ _ _ h => h) ?_;clear F a;intro a F
    refine eTake (k := 1) (i := 1) rfl (by kernel_rfl) F rfl rfl rfl rfl (fun w H => rLd Try.isAgg29 F rfl (H.cell 0 rfl rfl)) H (fun _ _ _ h => h) ?_;clear F a;intro a F
    refine eTakeF (k := 2) (i := 2) rfl (by kernel_rfl) F rfl rfl rfl (fun w => rMv F rfl) H (fun _ _ _ h => h) ?_;clear F a;intro a F
    refine eTakeF (k := 3) (i := 3) rfl (by kernel_rfl) F rfl rfl rfl (fun w => rIx Try.underlying29 Try.sizeOf9 F rfl rfl ?_) H (fun _ _ _ h => h) ?_
    focus (first | omega | decide | (simp; omega))
    clear F a; intro a F
    refine eTake (k := 4) (i := 4) rfl (by kernel_rfl) F rfl rfl rfl rfl (fun w H => rLd Try.isAgg9 F rfl ((H.prw 1 rfl).locs.at1 (strC_at hy))) H (fun _ _ _ h => h) ?_;clear F a;intro a F
    refine eTakeF (k := 5) (i := 5) rfl (by kernel_rfl) F rfl rfl rfl (fun w => rFa (f := 1) (k := 1) Try.underlying33 rfl Try.sizeOf29 rfl rfl F rfl) H (fun _ _ _ h => h) ?_;clear F a;intro a F
    refine eTake (k := 6) (i := 6) rfl (by kernel_rfl) F rfl rfl rfl rfl (fun w H => rLd Try.isAgg29 F rfl (H.cell 0 rfl rfl)) H (fun _ _ _ h => h) ?_;clear F a;intro a F
    refine eTakeF (k := 7) (i := 7) rfl (by kernel_rfl) F rfl rfl rfl (fun w => rMv F rfl) H (fun _ _ _ h => h) ?_;clear F a;intro a F
    refine eTakeF (k := 8) (i := 8) rfl (by kernel_rfl) F rfl rfl rfl (fun w => rIx Try.underlying29 Try.sizeOf9 F rfl rfl ?_) H (fun _ _ _ h => h) ?_
    focus (first | omega | decide | (simp; omega))
    clear F a; intro a F
    refine eTake (k := 9) (i := 9) rfl (by kernel_rfl) F rfl rfl rfl rfl (fun w H => rLd Try.isAgg9 F rfl ((H.prw 1 rfl).locs.at1 (strC_at hx))) H (fun _ _ _ h => h) ?_;clear F a;intro a F
    refine eTakeF (k := 10) (i := 10) rfl (by kernel_rfl) F rfl rfl rfl (fun w => rBin F rfl rfl bStrEq) H (fun _ _ _ h => h) ?_;clear F a;intro a F
    refine eNil (k := 11) (by kernel_rfl) ?_
    refine hK24 _ _ ?_; clear hK24
    refine cIf F rfl (fun h99 => ?_) (fun h99 => ?_)
    ·
     replace h99 := beqT h99
     obtain ⟨hkl, hyk⟩ := List.getElem?_eq_some_iff.1 hy
     obtain ⟨hil, hxi⟩ := List.getElem?_eq_some_iff.1 hx
     have := List.pairwise_iff_getElem.1 fit.nm.apart k i hkl hil hki
     rw [hyk, hxi] at this
     exact absurd h99 this
    replace h99 := beqF h99
    refine wp_skip ?_
    refine hK23 _ _ ?_; clear hK23
    refine cReg ?_
    refine sMv F rfl rfl rfl ?_;clear F a;intro a F
    refine sBin F rfl rfl rfl rfl (bAddN (j := 1) ?_) ?_
    focus omega
    clear F a; intro a F
    refine sAs F rfl rfl rfl ?_;clear F a;intro a F
    refine sNil ?_
    exact ⟨_, by omega, _, ⟨k + 1, rfl, rfl, by omega, H⟩, F.to (by repeat (first | exact trivial | refine Le.cons rfl ?_))⟩
   replace h86 := of_decide_eq_false h86
   refine wp_exit ?_
   refine hK17 _ _ ?_; clear hK17
   refine cReg ?_
   refine sMv F rfl rfl rfl ?_;clear F a;intro a F
   refine sBin F rfl rfl rfl rfl (bAddN (j := 1) ?_) ?_
   focus omega
   clear F a; intro a F
   refine sAs F rfl rfl rfl ?_;clear F a;intro a F
   refine sNil ?_
   exact ⟨_, by omega, _, ⟨i + 1, rfl, rfl, by omega, H⟩, F.to (by repeat (first | exact trivial | refine Le.cons rfl ?_))⟩
  replace h74 := of_decide_eq_false h74
  refine wp_exit ?_
  refine hK13 _ _ ?_; clear hK13
  refine cSeq (fun K25 hK25 => ?_)
  refine cSeq (fun K26 hK26 => ?_)
  refine cReg ?_
  refine sAs F rfl rfl rfl ?_;clear F a;intro a F
  refine sNil ?_
  refine hK26 _ _ ?_; clear hK26
  refine wp_block ?_
  refine cLoopR [3] (fun m ups w => ∃ t : Nat, m = p.threads.length - t ∧ ups = [(8, .int .i64 ((t : Nat) : Int))] ∧ t ≤ p.threads.length ∧ Own w0 none w [.blk b3 (pcells p ⟨LA, LC, IA, IC, TA, TC, CA, CC, hr, S1, hh⟩) 33, .prw p ⟨LA, LC, IA, IC, TA, TC, CA, CC, hr, S1, hh⟩]) F (p.threads.length) [(8, .int .i64 ((0 : Nat) : Int))] (by repeat (first | exact SubR.nil | (apply SubR.cons; · rfl))) ?_ ?_ ?_
  · exact ⟨0, rfl, rfl, Nat.zero_le _, H⟩
  · repeat (first | exact trivial | refine Le.cons rfl ?_)
  clear F
  clear H
  intro m ups a w hI F
  obtain ⟨t, rfl, rfl, ht, H⟩ := hI
  refine cSeq (fun K27 hK27 => ?_)
  refine cSeq (fun K28 hK28 => ?_)
  refine cReg ?_
  refine sMv F rfl rfl rfl ?_;clear F a;intro a F
  refine sFa (f := 3) (k := 3) Try.underlying33 rfl Try.sizeOf31 rfl rfl F rfl rfl rfl ?_;clear F a;intro a F
  refine sLd Try.isAgg31 F rfl rfl rfl (H.cell 0 rfl rfl) ?_;clear F a;intro a F
  refine sLen Try.underlying31 F rfl rfl rfl ?_;clear F a;intro a F
  refine sBin F rfl rfl rfl rfl bLss ?_;clear F a;intro a F
  refine sNil ?_
  refine hK28 _ _ ?_; clear hK28
  refine cIf F rfl (fun h104 => ?_) (fun h104 => ?_)
  ·
   replace h104 := of_decide_eq_true h104
   obtain ⟨l, hl⟩ : ∃ l, p.threads[t]? = some l := ⟨_, List.getElem?_eq_getElem (by omega)⟩
   obtain ⟨A1, C1, hA1⟩ := (H.prw 1 rfl).thr.hd hl
   obtain ⟨tb, to, rfl⟩ := (H.prw 1 rfl).hdr.addr hA1
   have hl12 := (fit.ins l (List.mem_of_getElem? hl)).1
   refine wp_skip ?_
   refine hK27 _ _ ?_; clear hK27
   refine cSeq (fun K29 hK29 => ?_)
   refine wp_block ?_
   refine cSeq (fun K30 hK30 => ?_)
   refine cSeq (fun K31 hK31 => ?_)
   refine cReg ?_
   refine sFa (f := 3) (k := 3) Try.underlying33 rfl Try.sizeOf31 rfl rfl F rfl rfl rfl ?_;clear F a;intro a F
   refine sLd Try.isAgg31 F rfl rfl rfl (H.cell 0 rfl rfl) ?_;clear F a;intro a F
   refine sMv F rfl rfl rfl ?_;clear F a;intro a F
   refine sIx Try.underlying31 Try.sizeOf38 F rfl rfl rfl rfl ?_ ?_
   focus (first | omega | decide | (simp; omega))
   clear F a; intro a F
   refine sLd Try.isAgg38 F rfl rfl rfl ((H.prw 1 rfl).hdr.at1 hA1) ?_;clear F a;intro a F
   refine sLen Try.underlying38 F rfl rfl rfl ?_;clear F a;intro a F
   refine sBin F rfl rfl rfl rfl bGtr ?_;clear F a;intro a F
   refine sNil ?_
   refine hK31 _ _ ?_; clear hK31
   refine cIf F rfl (fun h113 => ?_) (fun h113 => ?_)
   ·
    replace h113 := of_decide_eq_true h113
    omega
   replace h113 := of_decide_eq_false h113
   refine wp_skip ?_
   refine hK30 _ _ ?_; clear hK30
   refine cSeq (fun K32 hK32 => ?_)
   refine cReg ?_
   refine sAs F rfl rfl rfl ?_;clear F a;intro a F
   refine sNil ?_
   refine hK32 _ _ ?_; clear hK32
   refine wp_block ?_
   refine cLoopR [3, 8] (fun m ups w => ∃ i : Nat, m = l.length - i ∧ ups = [(9, .int .i64 ((i : Nat) : Int))] ∧ i ≤ l.length ∧ Own w0 none w [.blk b3 (pcells p ⟨LA, LC, IA, IC, some ⟨tb, to, none⟩, TC, CA, CC, hr, S1, hh⟩) 33, .prw p ⟨LA, LC, IA, IC, some ⟨tb, to, none⟩, TC, CA, CC, hr, S1, hh⟩]) F (l.length) [(9, .int .i64 ((0 : Nat) : Int))] (by repeat (first | exact SubR.nil | (apply SubR.cons; · rfl))) ?_ ?_ ?_
   · exact ⟨0, rfl, rfl, Nat.zero_le _, H⟩
   · repeat (first | exact trivial | refine Le.cons rfl ?_)
   clear F
   clear H
   intro m ups a w hI F
   obtain ⟨i, rfl, rfl, hi, H⟩ := hI
   refine cSeq (fun K33 hK33 => ?_)
   refine cSeq (fun K34 hK34 => ?_)
   refine cReg ?_
   refine sMv F rfl rfl rfl ?_;clear F a;intro a F
   refine sFa (f := 3) (k := 3) Try.underlying33 rfl Try.sizeOf31 rfl rfl F rfl rfl rfl ?_;clear F a;intro a F
   refine sLd Try.isAgg31 F rfl rfl rfl (H.cell 0 rfl rfl) ?_;clear F a;intro a F
   refine sMv F rfl rfl rfl ?_;clear F a;intro a F
   refine sIx Try.underlying31 Try.sizeOf38 F rfl rfl rfl rfl ?_ ?_
   focus (first | omega | decide | (simp; omega))
   clear F a; intro a F
   refine sLd Try.isAgg38 F rfl rfl rfl ((H.prw 1 rfl).hdr.at1 hA1) ?_;clear F a;intro a F
   refine sLen Try.underlying38 F rfl rfl rfl ?_;clear F a;intro a F
   refine sBin F rfl rfl rfl rfl bLss ?_;clear F a;intro a F
   refine sNil ?_
   refine hK34 _ _ ?_; clear hK34
   refine cIf F rfl (fun h121 => ?_) (fun h121 => ?_)
   ·
    replace h121 := of_decide_eq_true h121
    obtain ⟨x, hx⟩ : ∃ x, l[i]? = some x := ⟨_, List.getElem?_eq_getElem (by omega)⟩
    obtain ⟨ib, io, rfl⟩ := ((H.prw 1 rfl).thr.rows hl hA1).addr (insC_at hx)
    have fx := (fit.ins l (List.mem_of_getElem? hl)).2 x (List.mem_of_getElem? hx)
    have fop := fx.op
    have fds := fx.dst
    have fa := fx.a
    have fb := fx.b
    have flo := fx.loc
    refine wp_skip ?_
    refine hK33 _ _ ?_; clear hK33
    refine cSeq (fun K35 hK35 => ?_)
    refine wp_block ?_
    refine cSeq (fun K36 hK36 => ?_)
    refine cReg ?_
    refine sFa (f := 3) (k := 3) Try.underlying33 rfl Try.sizeOf31 rfl rfl F rfl rfl rfl ?_;clear F a;intro a F
    refine sLd Try.isAgg31 F rfl rfl rfl (H.cell 0 rfl rfl) ?_;clear F a;intro a F
    refine sMv F rfl rfl rfl ?_;clear F a;intro a F
    refine sIx Try.underlying31 Try.sizeOf38 F rfl rfl rfl rfl ?_ ?_
    focus (first | omega | decide | (simp; omega))
    clear F a; intro a F
    refine sLd Try.isAgg38 F rfl rfl rfl ((H.prw 1 rfl).hdr.at1 hA1) ?_;clear F a;intro a F
    refine sMv F rfl rfl rfl ?_;clear F a;intro a F
    refine sIx Try.underlying38 Try.sizeOf42 F rfl rfl rfl rfl ?_ ?_
    focus (first | omega | decide | (simp; omega))
    clear F a; intro a F
    refine sLr Try.underlying42 rfl ?si F rfl rfl rfl (((H.prw 1 rfl).thr.rows hl hA1).row (insC_at hx)) ?_
    case si => exact info_size Try.sizeOf42
    clear F a; intro a F
    refine sAl H Try.zeroValue42 F rfl rfl ?_
    clear F a H; intro b10 a w F H
    refine sSr H 0 ?si F rfl rfl rfl ?s1 rfl rfl ?_
    case si => exact info_size Try.sizeOf42
    case s1 => first | rfl | (repeat (first | exact one_nil | (apply one_cons; · first | rfl | assumption | exact one_bif rfl rfl)))
    clear H; intro w H
    refine sNil ?_
    refine hK36 _ _ ?_; clear hK36
    refine cSeq (fun K37 hK37 => ?_)
    refine cReg ?_
    refine sFa (f := 0) (k := 0) Try.underlying42 rfl Try.sizeOf5 rfl rfl F rfl rfl rfl ?_;clear F a;intro a F
    refine sLd Try.isAgg5 F rfl rfl rfl (H.cell 0 rfl rfl) ?_;clear F a;intro a F
    refine sBin F rfl rfl rfl rfl (bLssB (y := 1)) ?_;clear F a;intro a F
    refine sMv F rfl rfl rfl ?_;clear F a;intro a F
    refine F.split 135 rfl ?_ ?_ <;> (clear F; intro h135 F)
    ·
     replace h135 := of_decide_eq_true h135
     (have h : x.op.toNat < 1 := UInt8.lt_iff_toNat_lt.1 h135); omega
    replace h135 := of_decide_eq_false h135
    refine sFa (f := 0) (k := 0) Try.underlying42 rfl Try.sizeOf5 rfl rfl F rfl rfl rfl ?_;clear F a;intro a F
    refine sLd Try.isAgg5 F rfl rfl rfl (H.cell 0 rfl rfl) ?_;clear F a;intro a F
    refine sBin F rfl rfl rfl rfl (bGtrB (y := 8)) ?_;clear F a;intro a F
    refine sPk F rfl rfl rfl rfl ?_;clear F a;intro a F
    refine sMv F rfl rfl rfl ?_;clear F a;intro a F
    refine F.split 140 rfl ?_ ?_ <;> (clear F; intro h140 F)
    ·
     replace h140 := of_decide_eq_true h140
     (have h : 8 < x.op.toNat := UInt8.lt_iff_toNat_lt.1 h140); omega
    replace h140 := of_decide_eq_false h140
    refine sFa (f := 1) (k := 1) Try.underlying42 rfl Try.sizeOf5 rfl rfl F rfl rfl rfl ?_;clear F a;intro a F
    refine sLd Try.isAgg5 F rfl rfl rfl (H.cell 0 rfl rfl) ?_;clear F a;intro a F
    refine sBin F rfl rfl rfl rfl (bGeqB (y := 8)) ?_;clear F a;intro a F
    refine sPk F rfl rfl rfl rfl ?_;clear F a;intro a F
    refine sMv F rfl rfl rfl ?_;clear F a;intro a F
    refine F.split 145 rfl ?_ ?_ <;> (clear F; intro h145 F)
    ·
     replace h145 := of_decide_eq_true h145
     (have h : 8 ≤ x.dst.toNat := UInt8.le_iff_toNat_le.1 h145); omega
    replace h145 := of_decide_eq_false h145
    refine sFa (f := 3) (k := 3) Try.underlying42 rfl Try.sizeOf40 rfl rfl F rfl rfl rfl ?_;clear F a;intro a F
    refine sFa (f := 0) (k := 3) Try.underlying40 rfl Try.sizeOf4 rfl rfl F rfl rfl rfl ?_;clear F a;intro a F
    refine sLd Try.isAgg4 F rfl rfl rfl (H.cell 0 rfl rfl) ?_;clear F a;intro a F
    refine sMv F rfl rfl rfl ?_;clear F a;intro a F
    refine F.split 149 rfl ?_ ?_ <;> (clear F; intro h149 F)
    ·
     have fa := fa h149
     refine sFa (f := 3) (k := 3) Try.underlying42 rfl Try.sizeOf40 rfl rfl F rfl rfl rfl ?_;clear F a;intro a F
     refine sFa (f := 1) (k := 4) Try.underlying40 rfl Try.sizeOf5 rfl rfl F rfl rfl rfl ?_;clear F a;intro a F
     refine sLd Try.isAgg5 F rfl rfl rfl (H.cell 0 rfl rfl) ?_;clear F a;intro a F
     refine sBin F rfl rfl rfl rfl (bGeqB (y := 8)) ?_;clear F a;intro a F
     refine sPk F rfl rfl rfl rfl ?_;clear F a;intro a F
     refine sPk F rfl rfl rfl rfl ?_;clear F a;intro a F
     refine sMv F rfl rfl rfl ?_;clear F a;intro a F
     refine F.split 156 rfl ?_ ?_ <;> (clear F; intro h156 F)
     ·
      replace h156 := of_decide_eq_true h156
      (have h : 8 ≤ x.aN.toNat := UInt8.le_iff_toNat_le.1 h156); omega
     replace h156 := of_decide_eq_false h156
     refine sFa (f := 4) (k := 5) Try.underlying42 rfl Try.sizeOf40 rfl rfl F rfl rfl rfl ?_;clear F a;intro a F
     refine sFa (f := 0) (k := 5) Try.underlying40 rfl Try.sizeOf4 rfl rfl F rfl rfl rfl ?_;clear F a;intro a F
     refine sLd Try.isAgg4 F rfl rfl rfl (H.cell 0 rfl rfl) ?_;clear F a;intro a F
     refine sMv F rfl rfl rfl ?_;clear F a;intro a F
     refine F.split 160 rfl ?_ ?_ <;> (clear F; intro h160 F)
     ·
      have fb := fb h160
      refine sFa (f := 4) (k := 5) Try.underlying42 rfl Try.sizeOf40 rfl rfl F rfl rfl rfl ?_;clear F a;intro a F
      refine sFa (f := 1) (k := 6) Try.underlying40 rfl Try.sizeOf5 rfl rfl F rfl rfl rfl ?_;clear F a;intro a F
      refine sLd Try.isAgg5 F rfl rfl rfl (H.cell 0 rfl rfl) ?_;clear F a;intro a F
      refine sBin F rfl rfl rfl rfl (bGeqB (y := 8)) ?_;clear F a;intro a F
      refine sPk F rfl rfl rfl rfl ?_;clear F a;intro a F
      refine sPk F rfl rfl rfl rfl ?_;clear F a;intro a F
      refine sMv F rfl rfl rfl ?_;clear F a;intro a F
      refine F.split 167 rfl ?_ ?_ <;> (clear F; intro h167 F)
      ·
       replace h167 := of_decide_eq_true h167
       (have h : 8 ≤ x.bN.toNat := UInt8.le_iff_toNat_le.1 h167); omega
      replace h167 := of_decide_eq_false h167
      refine sFa (f := 2) (k := 2) Try.underlying42 rfl Try.sizeOf5 rfl rfl F rfl rfl rfl ?_;clear F a;intro a F
      refine sLd Try.isAgg5 F rfl rfl rfl (H.cell 0 rfl rfl) ?_;clear F a;intro a F
      refine sBin F rfl rfl rfl rfl (bGtrB (y := 0)) ?_;clear F a;intro a F
      refine sMv F rfl rfl rfl ?_;clear F a;intro a F
      refine F.split 171 rfl ?_ ?_ <;> (clear F; intro h171 F)
      ·
       replace h171 := of_decide_eq_true h171
       have flo := flo (UInt8.lt_iff_toNat_lt.1 h171)
       refine sFa (f := 2) (k := 2) Try.underlying42 rfl Try.sizeOf5 rfl rfl F rfl rfl rfl ?_;clear F a;intro a F
       refine sLd Try.isAgg5 F rfl rfl rfl (H.cell 0 rfl rfl) ?_;clear F a;intro a F
       refine sCv Try.underlying5 Try.underlying3 F rfl rfl rfl (wrapB _) ?_;clear F a;intro a F
       refine sFa (f := 1) (k := 1) Try.underlying33 rfl Try.sizeOf29 rfl rfl F rfl rfl rfl ?_;clear F a;intro a F
       refine sLd Try.isAgg29 F rfl rfl rfl (H.cell 1 rfl rfl) ?_;clear F a;intro a F
       refine sLen Try.underlying29 F rfl rfl rfl ?_;clear F a;intro a F
       refine sBin F rfl rfl rfl rfl bGeq ?_;clear F a;intro a F
       refine sPk F rfl rfl rfl rfl ?_;clear F a;intro a F
       refine sPk F rfl rfl rfl rfl ?_;clear F a;intro a F
       refine sNil ?_
       refine hK37 _ _ ?_; clear hK37
       refine cIf F rfl (fun h180 => ?_) (fun h180 => ?_)
       ·
        replace h180 := of_decide_eq_true h180
        omega
       replace h180 := of_decide_eq_false h180
       refine wp_skip ?_
       refine hK35 _ _ ?_; clear hK35
       refine cReg ?_
       refine sMv F rfl rfl rfl ?_;clear F a;intro a F
       refine sBin F rfl rfl rfl rfl (bAddN (j := 1) ?_) ?_
       focus omega
       clear F a; intro a F
       refine sAs F rfl rfl rfl ?_;clear F a;intro a F
       refine sNil ?_
       exact ⟨_, by omega, _, ⟨i + 1, rfl, rfl, by omega, H.tail⟩, F.to (by repeat (first | exact trivial | refine Le.cons rfl ?_))⟩
      replace h171 := of_decide_eq_false h171
      refine sSk F rfl rfl ?_;clear F a;intro a F
      refine sSk F rfl rfl ?_;clear F a;intro a F
      refine sSk F rfl rfl ?_;clear F a;intro a F
      refine sSk F rfl rfl ?_;clear F a;intro a F
      refine sSk F rfl rfl ?_;clear F a;intro a F
      refine sSk F rfl rfl ?_;clear F a;intro a F
      refine sSk F rfl rfl ?_;clear F a;intro a F
      refine sPk F rfl rfl rfl rfl ?_;clear F a;intro a F
      refine sPk F rfl rfl rfl rfl ?_;clear F a;intro a F
      refine sNil ?_
      refine hK37 _ _ ?_; clear hK37
      refine cIfF F rfl ?_
      refine wp_skip ?_
      refine hK35 _ _ ?_; clear hK35
      refine cReg ?_
      refine sMv F rfl rfl rfl ?_;clear F a;intro a F
      refine sBin F rfl rfl rfl rfl (bAddN (j := 1) ?_) ?_
      focus omega
      clear F a; intro a F
      refine sAs F rfl rfl rfl ?_;clear F a;intro a F
      refine sNil ?_
      exact ⟨_, by omega, _, ⟨i + 1, rfl, rfl, by omega, H.tail⟩, F.to (by repeat (first | exact trivial | refine Le.cons rfl ?_))⟩
     refine sSk F rfl rfl ?_;clear F a;intro a F
     refine sSk F rfl rfl ?_;clear F a;intro a F
     refine sSk F rfl rfl ?_;clear F a;intro a F
     refine sSk F rfl rfl ?_;clear F a;intro a F
     refine sPk F rfl rfl rfl rfl ?_;clear F a;intro a F
     refine sPk F rfl rfl rfl rfl ?_;clear F a;intro a F
     refine sMv F rfl rfl rfl ?_;clear F a;intro a F
     refine sFa (f := 2) (k := 2) Try.underlying42 rfl Try.sizeOf5 rfl rfl F rfl rfl rfl ?_;clear F a;intro a F
     refine sLd Try.isAgg5 F rfl rfl rfl (H.cell 0 rfl rfl) ?_;clear F a;intro a F
     refine sBin F rfl rfl rfl rfl (bGtrB (y := 0)) ?_;clear F a;intro a F
     refine sMv F rfl rfl rfl ?_;clear F a;intro a F
     refine F.split 171 rfl ?_ ?_ <;> (clear F; intro h171 F)
     ·
      replace h171 := of_decide_eq_true h171
      have flo := flo (UInt8.lt_iff_toNat_lt.1 h171)
      refine sFa (f := 2) (k := 2) Try.underlying42 rfl Try.sizeOf5 rfl rfl F rfl rfl rfl ?_;clear F a;intro a F
      refine sLd Try.isAgg5 F rfl rfl rfl (H.cell 0 rfl rfl) ?_;clear F a;intro a F
      refine sCv Try.underlying5 Try.underlying3 F rfl rfl rfl (wrapB _) ?_;clear F a;intro a F
      refine sFa (f := 1) (k := 1) Try.underlying33 rfl Try.sizeOf29 rfl rfl F rfl rfl rfl ?_;clear F a;intro a F
      refine sLd Try.isAgg29 F rfl rfl rfl (H.cell 1 rfl rfl) ?_;clear F a;intro a F
      refine sLen Try.underlying29 F rfl rfl rfl ?_;clear F a;intro a F
      refine sBin F rfl rfl rfl rfl bGeq ?_;clear F a;intro a F
      refine sPk F rfl rfl rfl rfl ?_;clear F a;intro a F
      refine sPk F rfl rfl rfl rfl ?_;clear F a;intro a F
      refine sNil ?_
      refine hK37 _ _ ?_; clear hK37
      refine cIf F rfl (fun h180 => ?_) (fun h180 => ?_)
      ·
       replace h180 := of_decide_eq_true h180
       omega
      replace h180 := of_decide_eq_false h180
      refine wp_skip ?_
      refine hK35 _ _ ?_; clear hK35
      refine cReg ?_
      refine sMv F rfl rfl rfl ?_;clear F a;intro a F
      refine sBin F rfl rfl rfl rfl (bAddN (j := 1) ?_) ?_
      focus omega
      clear F a; intro a F
      refine sAs F rfl rfl rfl ?_;clear F a;intro a F
      refine sNil ?_
      exact ⟨_, by omega, _, ⟨i + 1, rfl, rfl, by omega, H.tail⟩, F.to (by repeat (first | exact trivial | refine Le.cons rfl ?_))⟩
     replace h171 := of_decide_eq_false h171
     refine sSk F rfl rfl ?_;clear F a;intro a F
     refine sSk F rfl rfl ?_;clear F a;intro a F
     refine sSk F rfl rfl ?_;clear F a;intro a F
     refine sSk F rfl rfl ?_;clear F a;intro a F
     refine sSk F rfl rfl ?_;clear F a;intro a F
     refine sSk F rfl rfl ?_;clear F a;intro a F
     refine sSk F rfl rfl ?_;clear F a;intro a F
     refine sPk F rfl rfl rfl rfl ?_;clear F a;intro a F
     refine sPk F rfl rfl rfl rfl ?_;clear F a;intro a F
     refine sNil ?_
     refine hK37 _ _ ?_; clear hK37
     refine cIfF F rfl ?_
     refine wp_skip ?_
     refine hK35 _ _ ?_; clear hK35
     refine cReg ?_
     refine sMv F rfl rfl rfl ?_;clear F a;intro a F
     refine sBin F rfl rfl rfl rfl (bAddN (j := 1) ?_) ?_
     focus omega
     clear F a; intro a F
     refine sAs F rfl rfl rfl ?_;clear F a;intro a F
     refine sNil ?_
     exact ⟨_, by omega, _, ⟨i + 1, rfl, rfl, by omega, H.tail⟩, F.to (by repeat (first | exact trivial | refine Le.cons rfl ?_))⟩
    refine sSk F rfl rfl ?_;clear F a;intro a F
    refine sSk F rfl rfl ?_;clear F a;intro a F
    refine sSk F rfl rfl ?_;clear F a;intro a F
    refine sSk F rfl rfl ?_;clear F a;intro a F
    refine sPk F rfl rfl rfl rfl ?_;clear F a;intro a F
    refine sPk F rfl rfl rfl rfl ?_;clear F a;intro a F
    refine sMv F rfl rfl rfl ?_;clear F a;intro a F
    refine sFa (f := 4) (k := 5) Try.underlying42 rfl Try.sizeOf40 rfl rfl F rfl rfl rfl ?_;clear F a;intro a F
    refine sFa (f := 0) (k := 5) Try.underlying40 rfl Try.sizeOf4 rfl rfl F rfl rfl rfl ?_;clear F a;intro a F
    refine sLd Try.isAgg4 F rfl rfl rfl (H.cell 0 rfl rfl) ?_;clear F a;intro a F
    refine sMv F rfl rfl rfl ?_;clear F a;intro a F
    refine F.split 160 rfl ?_ ?_ <;> (clear F; intro h160 F)
    ·
     have fb := fb h160
     refine sFa (f := 4) (k := 5) Try.underlying42 rfl Try.sizeOf40 rfl rfl F rfl rfl rfl ?_;clear F a;intro a F
     refine sFa (f := 1) (k := 6) Try.underlying40 rfl Try.sizeOf5 rfl rfl F rfl rfl rfl ?_;clear F a;intro a F
     refine sLd Try.isAgg5 F rfl rfl rfl (H.cell 0 rfl rfl) ?_;clear F a;intro a F
     refine sBin F rfl rfl rfl rfl (bGeqB (y := 8)) ?_;clear F a;intro a F
     refine sPk F rfl rfl rfl rfl ?_;clear F a;intro a F
     refine sPk F rfl rfl rfl rfl ?_;clear F a;intro a F
     refine sMv F rfl rfl rfl ?_;clear F a;intro a F
     refine F.split 167 rfl ?_ ?_ <;> (clear F; intro h167 F)
     ·
      replace h167 := of_decide_eq_true h167
      (have h : 8 ≤ x.bN.toNat := UInt8.le_iff_toNat_le.1 h167); omega
     replace h167 := of_decide_eq_false h167
     refine sFa (f := 2) (k := 2) Try.underlying42 rfl Try.sizeOf5 rfl rfl F rfl rfl rfl ?_;clear F a;intro a F
     refine sLd Try.isAgg5 F rfl rfl rfl (H.cell 0 rfl rfl) ?_;clear F a;intro a F
     refine sBin F rfl rfl rfl rfl (bGtrB (y := 0)) ?_;clear F a;intro a F
     refine sMv F rfl rfl rfl ?_;clear F a;intro a F
     refine F.split 171 rfl ?_ ?_ <;> (clear F; intro h171 F)
     ·
      replace h171 := of_decide_eq_true h171
      have flo := flo (UInt8.lt_iff_toNat_lt.1 h171)
      refine sFa (f := 2) (k := 2) Try.underlying42 rfl Try.sizeOf5 rfl rfl F rfl rfl rfl ?_;clear F a;intro a F
      refine sLd Try.isAgg5 F rfl rfl rfl (H.cell 0 rfl rfl) ?_;clear F a;intro a F
      refine sCv Try.underlying5 Try.underlying3 F rfl rfl rfl (wrapB _) ?_;clear F a;intro a F
      refine sFa (f := 1) (k := 1) Try.underlying33 rfl Try.sizeOf29 rfl rfl F rfl rfl rfl ?_;clear F a;intro a F
      refine sLd Try.isAgg29 F rfl rfl rfl (H.cell 1 rfl rfl) ?_;clear F a;intro a F
      refine sLen Try.underlying29 F rfl rfl rfl ?_;clear F a;intro a F
      refine sBin F rfl rfl rfl rfl bGeq ?_;clear F a;intro a F
      refine sPk F rfl rfl rfl rfl ?_;clear F a;intro a F
      refine sPk F rfl rfl rfl rfl ?_;clear F a;intro a F
      refine sNil ?_
      refine hK37 _ _ ?_; clear hK37
      refine cIf F rfl (fun h180 => ?_) (fun h180 => ?_)
      ·
       replace h180 := of_decide_eq_true h180
       omega
      replace h180 := of_decide_eq_false h180
      refine wp_skip ?_
      refine hK35 _ _ ?_; clear hK35
      refine cReg ?_
      refine sMv F rfl rfl rfl ?_;clear F a;intro a F
      refine sBin F rfl rfl rfl rfl (bAddN (j := 1) ?_) ?_
      focus omega
      clear F a; intro a F
      refine sAs F rfl rfl rfl ?_;clear F a;intro a F
      refine sNil ?_
      exact ⟨_, by omega, _, ⟨i + 1, rfl, rfl, by omega, H.tail⟩, F.to (by repeat (first | exact trivial | refine Le.cons rfl ?_))⟩
     replace h171 := of_decide_eq_false h171
     refine sSk F rfl rfl ?_;clear F a;intro a F
     refine sSk F rfl rfl ?_;clear F a;intro a F
     refine sSk F rfl rfl ?_;clear F a;intro a F
     refine sSk F rfl rfl ?_;clear F a;intro a F
     refine sSk F rfl rfl ?_;clear F a;intro a F
     refine sSk F rfl rfl ?_;clear F a;intro a F
     refine sSk F rfl rfl ?_;clear F a;intro a F
     refine sPk F rfl rfl rfl rfl ?_;clear F a;intro a F
     refine sPk F rfl rfl rfl rfl ?_;clear F a;intro a F
     refine sNil ?_
     refine hK37 _ _ ?_; clear hK37
     refine cIfF F rfl ?_
     refine wp_skip ?_
     refine hK35 _ _ ?_; clear hK35
     refine cReg ?_
     refine sMv F rfl rfl rfl ?_;clear F a;intro a F
     refine sBin F rfl rfl rfl rfl (bAddN (j := 1) ?_) ?_
     focus omega
     clear F a; intro a F
     refine sAs F rfl rfl rfl ?_;clear F a;intro a F
     refine sNil ?_
     exact ⟨_, by omega, _, ⟨i + 1, rfl, rfl, by omega, H.tail⟩, F.to (by repeat (first | exact trivial | refine Le.cons rfl ?_))⟩
    refine sSk F rfl rfl ?_;clear F a;intro a F
    refine sSk F rfl rfl ?_;clear F a;intro a F
    refine sSk F rfl rfl ?_;clear F a;intro a F
    refine sSk F rfl rfl ?_;clear F a;intro a F
    refine sPk F rfl rfl rfl rfl ?_;clear F a;intro a F
    refine sPk F rfl rfl rfl rfl ?_;clear F a;intro a F
    refine sMv F rfl rfl rfl ?_;clear F a;intro a F
    refine sFa (f := 2) (k := 2) Try.underlying42 rfl Try.sizeOf5 rfl rfl F rfl rfl rfl ?_;clear F a;intro a F
    refine sLd Try.isAgg5 F rfl rfl rfl (H.cell 0 rfl rfl) ?_;clear F a;intro a F
    refine sBin F rfl rfl rfl rfl (bGtrB (y := 0)) ?_;clear F a;intro a F
    refine sMv F rfl rfl rfl ?_;clear F a;intro a F
    refine F.split 171 rfl ?_ ?_ <;> (clear F; intro h171 F)
    ·
     replace h171 := of_decide_eq_true h171
     have flo := flo (UInt8.lt_iff_toNat_lt.1 h171)
     refine sFa (f := 2) (k := 2) Try.underlying42 rfl Try.sizeOf5 rfl rfl F rfl rfl rfl ?_;clear F a;intro a F
     refine sLd Try.isAgg5 F rfl rfl rfl (H.cell 0 rfl rfl) ?_;clear F a;intro a F
     refine sCv Try.underlying5 Try.underlying3 F rfl rfl rfl (wrapB _) ?_;clear F a;intro a F
     refine sFa (f := 1) (k := 1) Try.underlying33 rfl Try.sizeOf29 rfl rfl F rfl rfl rfl ?_;clear F a;intro a F
     refine sLd Try.isAgg29 F rfl rfl rfl (H.cell 1 rfl rfl) ?_;clear F a;intro a F
     refine sLen Try.underlying29 F rfl rfl rfl ?_;clear F a;intro a F
     refine sBin F rfl rfl rfl rfl bGeq ?_;clear F a;intro a F
     refine sPk F rfl rfl rfl rfl ?_;clear F a;intro a F
     refine sPk F rfl rfl rfl rfl ?_;clear F a;intro a F
     refine sNil ?_
     refine hK37 _ _ ?_; clear hK37
     refine cIf F rfl (fun h180 => ?_) (fun h180 => ?_)
     ·
      replace h180 := of_decide_eq_true h180
      omega
     replace h180 := of_decide_eq_false h180
     refine wp_skip ?_
     refine hK35 _ _ ?_; clear hK35
     refine cReg ?_
     refine sMv F rfl rfl rfl ?_;clear F a;intro a F
     refine sBin F rfl rfl rfl rfl (bAddN (j := 1) ?_) ?_
     focus omega
     clear F a; intro a F
     refine sAs F rfl rfl rfl ?_;clear F a;intro a F
     refine sNil ?_
     exact ⟨_, by omega, _, ⟨i + 1, rfl, rfl, by omega, H.tail⟩, F.to (by repeat (first | exact trivial | refine Le.cons rfl ?_))⟩
    replace h171 := of_decide_eq_false h171
    refine sSk F rfl rfl ?_;clear F a;intro a F
    refine sSk F rfl rfl ?_;clear F a;intro a F
    refine sSk F rfl rfl ?_;clear F a;intro a F
    refine sSk F rfl rfl ?_;clear F a;intro a F
    refine sSk F rfl rfl ?_;clear F a;intro a F
    refine sSk F rfl rfl ?_;clear F a;intro a F
    refine sSk F rfl rfl ?_;clear F a;intro a F
    refine sPk F rfl rfl rfl rfl ?_;clear F a;intro a F
    refine sPk F rfl rfl rfl rfl ?_;clear F a;intro a F
    refine sNil ?_
    refine hK37 _ _ ?_; clear hK37
    refine cIfF F rfl ?_
    refine wp_skip ?_
    refine hK35 _ _ ?_; clear hK35
    refine cReg ?_
    refine sMv F rfl rfl rfl ?_;clear F a;intro a F
    refine sBin F rfl rfl rfl rfl (bAddN (j := 1) ?_) ?_
    focus omega
    clear F a; intro a F
    refine sAs F rfl rfl rfl ?_;clear F a;intro a F
    refine sNil ?_
    exact ⟨_, by omega, _, ⟨i + 1, rfl, rfl, by omega, H.tail⟩, F.to (by repeat (first | exact trivial | refine Le.cons rfl ?_))⟩
   replace h121 := of_decide_eq_false h121
   refine wp_exit ?_
   refine hK29 _ _ ?_; clear hK29
   refine cReg ?_
   refine sMv F rfl rfl rfl ?_;clear F a;intro a F
   refine sBin F rfl rfl rfl rfl (bAddN (j := 1) ?_) ?_
   focus omega
   clear F a; intro a F
   refine sAs F rfl rfl rfl ?_;clear F a;intro a F
   refine sNil ?_
   exact ⟨_, by omega, _, ⟨t + 1, rfl, rfl, by omega, H⟩, F.to (by repeat (first | exact trivial | refine Le.cons rfl ?_))⟩
  replace h104 := of_decide_eq_false h104
  refine wp_exit ?_
  refine hK25 _ _ ?_; clear hK25
  refine cSeq (fun K38 hK38 => ?_)
  refine cReg ?_
  refine sAs F rfl rfl rfl ?_;clear F a;intro a F
  refine sNil ?_
  refine hK38 _ _ ?_; clear hK38
  refine wp_ret ?_
  refine bRet Try.results4 F rfl ?_
  exact ⟨rfl, H.below⟩
end Go.Proofs.Ytbdjlmdejlklkaa
