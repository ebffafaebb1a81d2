/-
  WALK2. The law RunsWeaker. Conditions: the program lies in memory; block 0 holds the table of needs.
-/
import Derived.Test.YtbgnapmaimkpkaaGreatDoorRnI
import Derived.Test.YtbgnapmaimkpkaaGreatDoorRnT
set_option linter.unusedSimpArgs false
set_option linter.unusedVariables false
namespace Go.Proofs.YtbgnapmaimkpkaaGreatDoor
open Go.RowKit
set_option maxRecDepth 100000
def NoneS (p : Prg) (j k : Nat) : Prop := ∀ (t : Nat) (l : List Ins) (q : Nat) (x : Ins), p.threads[t]? = some l → l[q]? = some x → (t < j ∨ (t = j ∧ q < k)) → ¬ (x.op = 7 ∧ x.mode = 5)
theorem noneS_zero (p : Prg) : NoneS p 0 0 := fun t l q x _ _ h => by omega
theorem noneS_next {p : Prg} {j k : Nat} {l : List Ins} {x : Ins} (h : NoneS p j k) (hl : p.threads[j]? = some l) (hx : l[k]? = some x) (hn : ¬ (x.op = 7 ∧ x.mode = 5)) : NoneS p j (k + 1) := fun t l' q y h1 h2 h3 => by
  by_cases e : t = j ∧ q = k
  · obtain ⟨rfl, rfl⟩ := e
    rw [hl] at h1
    cases h1
    rw [hx] at h2
    cases h2
    exact hn
  · exact h t l' q y h1 h2 (by omega)
theorem noneS_row {p : Prg} {j : Nat} {l : List Ins} (h : NoneS p j l.length) (hl : p.threads[j]? = some l) : NoneS p (j + 1) 0 := fun t l' q y h1 h2 h3 => by
  refine h t l' q y h1 h2 ?_
  rcases Nat.lt_or_ge t j with e | e
  · exact .inl e
  · obtain rfl : t = j := by omega
    rw [hl] at h1
    cases h1
    exact .inr ⟨rfl, (List.getElem?_eq_some_iff.1 h2).1⟩
theorem noneS_all {p : Prg} {j : Nat} (h : NoneS p j 0) (hj : p.threads.length ≤ j) : NoStores p := fun t l k x h1 h2 => h t l k x h1 h2 (.inl (by
  have := (List.getElem?_eq_some_iff.1 h1).1
  omega))
set_option maxHeartbeats 1000000 in
theorem runsWeaker_any (cs : List Value) (p : Prg) (w0 : World) (hP : ProgAt w0 cs p) (hN : NeedsAt w0) :
    Calls Tryz.prog 3 #[.agg cs.toArray] w0 fun e w' => e = .returned (.bool true) ∧ Below w0.heap.size w0 w' := by
  have H := Own.start w0 none
  have hP0 := hP
  obtain ⟨LA, LC, IA, IC, TA, TC, h, ccs, hp⟩ := hP
  obtain ⟨c1, c2, c3, c4, c5, rfl⟩ := len5 (condAt_len hp.cond)
  have hcs := hp.cs
  subst hcs
  refine enterF Tryz.func3 rfl Tryz.ntmps3 rfl (fun a F => ?_)
  refine cSR fun K1 hK1=>?_
  refine sBx H F rfl rfl rfl ?_
  clear F a H; intro b1 a w F H
  refine sAs F rfl rfl rfl (qNK hK1 (qSR fun K2 hK2=>?_));clear hK1;clear F a;intro a F
  refine sLr Tryz.underlying29 rfl ?si F rfl rfl rfl (H.whole 0 rfl) ?_
  case si => exact info_size Tryz.sizeOf29
  clear F a; intro a F
  refine sCall Tryz.call12 F rfl rfl rfl (finals15_any _ p _ (hP0.own H) (hN.own H) 1 (by decide)) ?_
  rintro e w ⟨A1, k1, l1, q1, rfl, hq1, hf1, H2⟩
  replace H := H.join H2; clear H2
  refine ⟨_, rfl, ?_⟩
  clear F a; intro a F
  refine sMv F rfl rfl rfl (qExt rfl rfl rfl rfl (qExt rfl rfl rfl rfl (qExt rfl rfl rfl rfl (qAs rfl rfl rfl (qAs rfl rfl rfl (qAs rfl rfl rfl (qNK hK2 (qSR fun K3 hK3=>?_))))))));clear hK2;clear F a;intro a F
  refine sLr Tryz.underlying29 rfl ?si F rfl rfl rfl (H.whole 1 rfl) ?_
  case si => exact info_size Tryz.sizeOf29
  clear F a; intro a F
  refine sCall Tryz.call12 F rfl rfl rfl (finals15_any _ p _ (hP0.own H) (hN.own H) 2 (by decide)) ?_
  rintro e w ⟨A2, k2, l2, q2, rfl, hq2, hf2, H2⟩
  replace H := H.join H2; clear H2
  refine ⟨_, rfl, ?_⟩
  clear F a; intro a F
  refine sMv F rfl rfl rfl (qExt rfl rfl rfl rfl (qExt rfl rfl rfl rfl (qExt rfl rfl rfl rfl (qAs rfl rfl rfl (qAs rfl rfl rfl (qAs rfl rfl rfl (qNK hK3 (qSR fun K4 hK4=>?_))))))));clear hK3;clear F a;intro a F
  refine sLr Tryz.underlying29 rfl ?si F rfl rfl rfl (H.whole 2 rfl) ?_
  case si => exact info_size Tryz.sizeOf29
  clear F a; intro a F
  refine sCall Tryz.call12 F rfl rfl rfl (finals15_any _ p _ (hP0.own H) (hN.own H) 3 (by decide)) ?_
  rintro e w ⟨A3, k3, l3, q3, rfl, hq3, hf3, H2⟩
  replace H := H.join H2; clear H2
  refine ⟨_, rfl, ?_⟩
  clear F a; intro a F
  refine sMv F rfl rfl rfl (qExt rfl rfl rfl rfl (qExt rfl rfl rfl rfl (qExt rfl rfl rfl rfl (qAs rfl rfl rfl (qAs rfl rfl rfl (qAs rfl rfl rfl (qNK hK4 ?_)))))));clear hK4;clear F a;intro a F
  refine cSeq (fun K5 hK5 => ?_)
  refine cSR fun K6 hK6=>sMv F rfl rfl rfl (qNot rfl rfl rfl (qMv rfl rfl rfl ?_));clear F a;intro a F
  refine F.split 37 rfl ?_ ?_ <;> (clear F; intro h37 F)
  ·
   replace h37 := notT h37
   cases h37
  replace h37 := notF h37
  refine sMv F rfl rfl rfl (qNot rfl rfl rfl (qPk rfl rfl rfl rfl (qMv rfl rfl rfl ?_)));clear F a;intro a F
  refine F.split 41 rfl ?_ ?_ <;> (clear F; intro h41 F)
  ·
   replace h41 := notT h41
   cases h41
  replace h41 := notF h41
  refine sMv F rfl rfl rfl (qNot rfl rfl rfl (qPk rfl rfl rfl rfl (qNK hK6 ?_)));clear hK6;clear F a;intro a F
  refine cIf F rfl (fun h44 => ?_) (fun h44 => ?_)
  ·
   replace h44 := notT h44
   cases h44
  replace h44 := notF h44
  refine wp_skip (hK5 _ _ (cSR fun K7 hK7=>sAs F rfl rfl rfl (qNK hK7 ?_)));clear hK5 hK7;clear F a;intro a F
  refine cSeq (fun K8 hK8 => ?_)
  refine cSR fun K9 hK9=>sFa (f := 3) (k := 3) Tryz.underlying29 rfl Tryz.sizeOf24 rfl rfl F rfl rfl rfl (qLd Tryz.isAgg24 rfl rfl rfl (H.cell 3 rfl rfl) (qLen Tryz.underlying24 rfl rfl rfl (qMv rfl rfl rfl (qNK hK9 ?_))));clear hK9;clear F a;intro a F
  refine wp_block ?_
  refine cLoopR [3, 4, 6, 7, 9, 10, 46, 47] (fun m ups w => ∃ (j : Nat) (kp : Bool), m = p.threads.length - j ∧ ups = [(12, .bool kp), (48, .int .i64 ((j : Nat) : Int))] ∧ j ≤ p.threads.length ∧ (kp = false → NoneS p j 0) ∧ Own w0 none w [.rws 47 38 (.slice A3 l3.length k3) (l3.map (bs 38)), .rws 47 38 (.slice A2 l2.length k2) (l2.map (bs 38)), .rws 47 38 (.slice A1 l1.length k1) (l1.map (bs 38)), .blk b1 ([.string p.name, .slice LA p.locs.length LC, .slice IA p.init.length IC, .slice TA p.threads.length TC, Go.Proofs.YtbgnapmaimkpkaaGreatDoor.b8 p.ask, c1, c2, c3, c4, c5] : List Value) 29]) F (p.threads.length) [(12, .bool false), (48, .int .i64 ((0 : Nat) : Int))] (by repeat (first | exact SubR.nil | (apply SubR.cons; · rfl))) ?_ ?_ ?_
  · exact ⟨0, false, rfl, rfl, Nat.zero_le _, fun _ => noneS_zero p, H.sel [0, 1, 2, 3] rfl rfl⟩
  · repeat (first | exact trivial | refine Le.cons rfl ?_)
  clear F
  clear H
  intro m ups a w hI F
  obtain ⟨j, kp, rfl, rfl, hj, hkp, H⟩ := hI
  refine cSR fun K10 hK10=>sBin F rfl rfl rfl rfl bLss (qNK hK10 ?_);clear hK10;clear F a;intro a F
  refine cSeq (fun K11 hK11 => ?_)
  refine cIf F rfl (fun h49 => ?_) (fun h49 => ?_)
  ·
   replace h49 := of_decide_eq_true h49
   have hjl : j < p.threads.length := by omega
   have hlm := hp.threadsN
   obtain ⟨l, hl⟩ : ∃ l, p.threads[j]? = some l := ⟨_, List.getElem?_eq_getElem hjl⟩
   obtain ⟨bT, oT, BT, CT, rfl, hT1, hT2, hT3⟩ := hp.threads j l hl
   refine wp_skip (hK11 _ _ ?_);clear hK11
   refine cSeq (fun K12 hK12 => ?_)
   refine wp_block ?_
   refine cSR fun K13 hK13=>?_
   refine sIx Tryz.underlying24 Tryz.sizeOf33 F rfl rfl rfl rfl ?_ ?_
   focus (first | omega | decide | (simp; omega))
   clear F a; intro a F
   refine sLd Tryz.isAgg33 F rfl rfl rfl (H.arg hT1) (qAs rfl rfl rfl (qNK hK13 (qSR fun K14 hK14=>qMv rfl rfl rfl (qLen Tryz.underlying33 rfl rfl rfl (qMv rfl rfl rfl (qNK hK14 ?_))))));clear hK13 hK14;clear F a;intro a F
   refine wp_block ?_
   refine cLoopR [3, 4, 6, 7, 9, 10, 46, 47, 48, 52, 53] (fun m ups w => ∃ (k : Nat) (kp : Bool), m = l.length - k ∧ ups = [(12, .bool kp), (54, .int .i64 ((k : Nat) : Int))] ∧ k ≤ l.length ∧ (kp = false → NoneS p j k) ∧ Own w0 none w [.rws 47 38 (.slice A3 l3.length k3) (l3.map (bs 38)), .rws 47 38 (.slice A2 l2.length k2) (l2.map (bs 38)), .rws 47 38 (.slice A1 l1.length k1) (l1.map (bs 38)), .blk b1 ([.string p.name, .slice LA p.locs.length LC, .slice IA p.init.length IC, .slice (some ⟨bT, oT, none⟩) p.threads.length TC, Go.Proofs.YtbgnapmaimkpkaaGreatDoor.b8 p.ask, c1, c2, c3, c4, c5] : List Value) 29]) F (l.length) [(12, .bool kp), (54, .int .i64 ((0 : Nat) : Int))] (by repeat (first | exact SubR.nil | (apply SubR.cons; · rfl))) ?_ ?_ ?_
   · exact ⟨0, kp, rfl, rfl, Nat.zero_le _, hkp, H.sel [0, 1, 2, 3] rfl rfl⟩
   · repeat (first | exact trivial | refine Le.cons rfl ?_)
   clear F
   clear H
   intro m ups a w hI F
   obtain ⟨k, kq, rfl, rfl, hk2, hkq, H⟩ := hI
   refine cSR fun K15 hK15=>sBin F rfl rfl rfl rfl bLss (qNK hK15 ?_);clear hK15;clear F a;intro a F
   refine cSeq (fun K16 hK16 => ?_)
   refine cIf F rfl (fun h55 => ?_) (fun h55 => ?_)
   ·
    replace h55 := of_decide_eq_true h55
    have hkl : k < l.length := by omega
    obtain ⟨x, hx⟩ : ∃ x, l[k]? = some x := ⟨_, List.getElem?_eq_getElem hkl⟩
    obtain ⟨bI, oI, rfl, hI⟩ := hT2 k x.cells (by rw [List.getElem?_map, hx]; rfl)
    refine wp_skip (hK16 _ _ ?_);clear hK16
    refine cSeq (fun K17 hK17 => ?_)
    refine wp_block ?_
    refine cSR fun K18 hK18=>?_
    refine sIx Tryz.underlying33 Tryz.sizeOf37 F rfl rfl rfl rfl ?_ ?_
    focus (first | omega | decide | (simp; omega))
    clear F a; intro a F
    refine sLr Tryz.underlying37 rfl ?si F rfl rfl rfl (H.argR hI) ?_
    case si => exact info_size Tryz.sizeOf37
    clear F a; intro a F
    refine sAl H Tryz.zeroValue37 F rfl rfl ?_
    clear F a H; intro b16 a w F H
    refine sSr H 0 ?si F rfl rfl rfl ?s1 rfl rfl ?_
    case si => exact info_size Tryz.sizeOf37
    case s1 => first | rfl | (repeat (first | exact one_nil | (apply one_cons; · first | rfl | assumption | exact one_bif rfl rfl)))
    clear H; intro w H
    refine nK hK18 (cReg (sMv F rfl rfl rfl (qMv rfl rfl rfl ?_)));clear hK18;clear F a;intro a F
    refine F.split 59 rfl ?_ ?_ <;> (clear F; intro h59 F)
    ·
     refine sSk F rfl rfl (qSk rfl rfl (qSk rfl rfl (qSk rfl rfl (qSk rfl rfl (qSk rfl rfl (qSk rfl rfl (qSk rfl rfl (qPk rfl rfl rfl rfl (qAs rfl rfl rfl (qNK hK17 (qReg ?_)))))))))));clear hK17;clear F a;intro a F
     refine sBin F rfl rfl rfl rfl (bAddN (j := 1) ?_) ?_
     focus omega
     clear F a; intro a F
     refine sMv F rfl rfl rfl ?_;clear F a;intro a F
     refine sNil ?_
     first
     | (have e : kq = true := h59
        exact ⟨_, by omega, _, ⟨k + 1, true, rfl, rfl, by omega, fun h => Bool.noConfusion h, H.sel [1, 2, 3, 4] rfl rfl⟩, F.to (by repeat (first | exact trivial | refine Le.cons rfl ?_))⟩)
     | (have e : kq = false := h59
        have e2 : x.op = 7 := h63
        exact ⟨_, by omega, _, ⟨k + 1, x.mode == 5, rfl, rfl, by omega, fun h => noneS_next (hkq e) hl hx (fun hh => by rw [hh.2] at h; cases h), H.sel [1, 2, 3, 4] rfl rfl⟩, F.to (by repeat (first | exact trivial | refine Le.cons rfl ?_))⟩)
     | (have e : kq = false := h59
        have e2 : ¬ x.op = 7 := h63
        exact ⟨_, by omega, _, ⟨k + 1, false, rfl, rfl, by omega, fun h => noneS_next (hkq e) hl hx (fun hh => e2 hh.1), H.sel [1, 2, 3, 4] rfl rfl⟩, F.to (by repeat (first | exact trivial | refine Le.cons rfl ?_))⟩)
    refine sFa (f := 0) (k := 0) Tryz.underlying37 rfl Tryz.sizeOf5 rfl rfl F rfl rfl rfl (qLd Tryz.isAgg5 rfl rfl rfl (H.cell 0 rfl rfl) (qBin rfl rfl rfl rfl (bEqlB (y := 7)) (qMv rfl rfl rfl ?_)));clear F a;intro a F
    refine F.split 63 rfl ?_ ?_ <;> (clear F; intro h63 F)
    ·
     replace h63 := beqT h63
     refine sFa (f := 6) (k := 8) Tryz.underlying37 rfl Tryz.sizeOf5 rfl rfl F rfl rfl rfl (qLd Tryz.isAgg5 rfl rfl rfl (H.cell 0 rfl rfl) (qBin rfl rfl rfl rfl (bEqlB (y := 5)) (qPk rfl rfl rfl rfl (qPk rfl rfl rfl rfl (qAs rfl rfl rfl (qNK hK17 (qReg ?_)))))));clear hK17;clear F a;intro a F
     refine sBin F rfl rfl rfl rfl (bAddN (j := 1) ?_) ?_
     focus omega
     clear F a; intro a F
     refine sMv F rfl rfl rfl ?_;clear F a;intro a F
     refine sNil ?_
     first
     | (have e : kq = true := h59
        exact ⟨_, by omega, _, ⟨k + 1, true, rfl, rfl, by omega, fun h => Bool.noConfusion h, H.sel [1, 2, 3, 4] rfl rfl⟩, F.to (by repeat (first | exact trivial | refine Le.cons rfl ?_))⟩)
     | (have e : kq = false := h59
        have e2 : x.op = 7 := h63
        exact ⟨_, by omega, _, ⟨k + 1, x.mode == 5, rfl, rfl, by omega, fun h => noneS_next (hkq e) hl hx (fun hh => by rw [hh.2] at h; cases h), H.sel [1, 2, 3, 4] rfl rfl⟩, F.to (by repeat (first | exact trivial | refine Le.cons rfl ?_))⟩)
     | (have e : kq = false := h59
        have e2 : ¬ x.op = 7 := h63
        exact ⟨_, by omega, _, ⟨k + 1, false, rfl, rfl, by omega, fun h => noneS_next (hkq e) hl hx (fun hh => e2 hh.1), H.sel [1, 2, 3, 4] rfl rfl⟩, F.to (by repeat (first | exact trivial | refine Le.cons rfl ?_))⟩)
    replace h63 := beqF h63
    refine sSk F rfl rfl (qSk rfl rfl (qSk rfl rfl (qPk rfl rfl rfl rfl (qPk rfl rfl rfl rfl (qAs rfl rfl rfl (qNK hK17 (qReg ?_)))))));clear hK17;clear F a;intro a F
    refine sBin F rfl rfl rfl rfl (bAddN (j := 1) ?_) ?_
    focus omega
    clear F a; intro a F
    refine sMv F rfl rfl rfl ?_;clear F a;intro a F
    refine sNil ?_
    first
    | (have e : kq = true := h59
       exact ⟨_, by omega, _, ⟨k + 1, true, rfl, rfl, by omega, fun h => Bool.noConfusion h, H.sel [1, 2, 3, 4] rfl rfl⟩, F.to (by repeat (first | exact trivial | refine Le.cons rfl ?_))⟩)
    | (have e : kq = false := h59
       have e2 : x.op = 7 := h63
       exact ⟨_, by omega, _, ⟨k + 1, x.mode == 5, rfl, rfl, by omega, fun h => noneS_next (hkq e) hl hx (fun hh => by rw [hh.2] at h; cases h), H.sel [1, 2, 3, 4] rfl rfl⟩, F.to (by repeat (first | exact trivial | refine Le.cons rfl ?_))⟩)
    | (have e : kq = false := h59
       have e2 : ¬ x.op = 7 := h63
       exact ⟨_, by omega, _, ⟨k + 1, false, rfl, rfl, by omega, fun h => noneS_next (hkq e) hl hx (fun hh => e2 hh.1), H.sel [1, 2, 3, 4] rfl rfl⟩, F.to (by repeat (first | exact trivial | refine Le.cons rfl ?_))⟩)
   replace h55 := of_decide_eq_false h55
   obtain rfl : k = l.length := by omega
   refine wp_exit ?_
   refine hK12 _ _ (cReg ?_);clear hK12
   refine sBin F rfl rfl rfl rfl (bAddN (j := 1) ?_) ?_
   focus omega
   clear F a; intro a F
   refine sMv F rfl rfl rfl ?_;clear F a;intro a F
   refine sNil ?_
   exact ⟨_, by omega, _, ⟨j + 1, kq, rfl, rfl, by omega, fun h => noneS_row (hkq h) hl, H.sel [0, 1, 2, 3] rfl rfl⟩, F.to (by repeat (first | exact trivial | refine Le.cons rfl ?_))⟩
  replace h49 := of_decide_eq_false h49
  refine wp_exit ?_
  refine hK8 _ _ (cSR fun K19 hK19=>sMv F rfl rfl rfl (qNot rfl rfl rfl (qMv rfl rfl rfl ?_)));clear hK8;clear F a;intro a F
  refine F.split 73 rfl ?_ ?_ <;> (clear F; intro h73 F)
  ·
   replace h73 := notT h73
   refine sSk F rfl rfl (qSk rfl rfl (qPk rfl rfl rfl rfl (qMv rfl rfl rfl (qSk rfl rfl (qSk rfl rfl (qSk rfl rfl (qPk rfl rfl rfl rfl (qMv rfl rfl rfl (qMv rfl rfl rfl (qNot rfl rfl rfl (qMv rfl rfl rfl ?_)))))))))));clear F a;intro a F
   refine F.split 85 rfl ?_ ?_ <;> (clear F; intro h85 F)
   ·
    replace h85 := notT h85
    refine sSk F rfl rfl (qSk rfl rfl (qPk rfl rfl rfl rfl (qMv rfl rfl rfl (qSk rfl rfl (qSk rfl rfl (qSk rfl rfl (qPk rfl rfl rfl rfl (qPk rfl rfl rfl rfl (qMv rfl rfl rfl (qMv rfl rfl rfl (qNot rfl rfl rfl (qMv rfl rfl rfl ?_))))))))))));clear F a;intro a F
    refine F.split 98 rfl ?_ ?_ <;> (clear F; intro h98 F)
    ·
     replace h98 := notT h98
     refine sSk F rfl rfl (qSk rfl rfl (qPk rfl rfl rfl rfl (qMv rfl rfl rfl (qSk rfl rfl (qPk rfl rfl rfl rfl (qMv rfl rfl rfl (qSk rfl rfl (qSk rfl rfl (qSk rfl rfl (qPk rfl rfl rfl rfl (qPk rfl rfl rfl rfl (qMv rfl rfl rfl ?_))))))))))));clear F a;intro a F
     refine sCall Tryz.call14 F rfl rfl rfl (awake15_any _ (hN.own H)) ?_
     rintro e w ⟨rfl, hb⟩
     replace H := H.grow hb; clear hb
     refine ⟨_, rfl, ?_⟩
     clear F a; intro a F
     refine sPk F rfl rfl rfl rfl (qAs rfl rfl rfl (qNK hK19 ?_));clear hK19;clear F a;intro a F
     refine wp_ret ?_
     refine bRet Tryz.results3 F rfl ?_
     exact ⟨rfl, H.below⟩
    replace h98 := notF h98
    refine sMv F rfl rfl rfl (qNot rfl rfl rfl (qPk rfl rfl rfl rfl (qMv rfl rfl rfl ?_)));clear F a;intro a F
    refine F.split 102 rfl ?_ ?_ <;> (clear F; intro h102 F)
    ·
     replace h102 := notT h102
     refine sSk F rfl rfl (qPk rfl rfl rfl rfl (qMv rfl rfl rfl (qSk rfl rfl (qSk rfl rfl (qSk rfl rfl (qPk rfl rfl rfl rfl (qPk rfl rfl rfl rfl (qMv rfl rfl rfl ?_))))))));clear F a;intro a F
     refine sCall Tryz.call14 F rfl rfl rfl (awake15_any _ (hN.own H)) ?_
     rintro e w ⟨rfl, hb⟩
     replace H := H.grow hb; clear hb
     refine ⟨_, rfl, ?_⟩
     clear F a; intro a F
     refine sPk F rfl rfl rfl rfl (qAs rfl rfl rfl (qNK hK19 ?_));clear hK19;clear F a;intro a F
     refine wp_ret ?_
     refine bRet Tryz.results3 F rfl ?_
     exact ⟨rfl, H.below⟩
    replace h102 := notF h102
    refine sMv F rfl rfl rfl (qPk rfl rfl rfl rfl (qMv rfl rfl rfl ?_));clear F a;intro a F
    refine F.split 105 rfl ?_ ?_ <;> (clear F; intro h105 F)
    ·
     refine sSk F rfl rfl (qSk rfl rfl (qSk rfl rfl (qPk rfl rfl rfl rfl (qPk rfl rfl rfl rfl (qMv rfl rfl rfl ?_)))));clear F a;intro a F
     refine sCall Tryz.call14 F rfl rfl rfl (awake15_any _ (hN.own H)) ?_
     rintro e w ⟨rfl, hb⟩
     replace H := H.grow hb; clear hb
     refine ⟨_, rfl, ?_⟩
     clear F a; intro a F
     refine sPk F rfl rfl rfl rfl (qAs rfl rfl rfl (qNK hK19 ?_));clear hK19;clear F a;intro a F
     refine wp_ret ?_
     refine bRet Tryz.results3 F rfl ?_
     exact ⟨rfl, H.below⟩
    refine sMv F rfl rfl rfl (qMv rfl rfl rfl ?_);clear F a;intro a F
    refine sCall Tryz.call13 F rfl rfl rfl (within_true A2 A3 k2 k3 l2 l3 _ (H.rowsAt 1 rfl (bs38_len _) (by decide)) (H.rowsAt 0 rfl (bs38_len _) (by decide)) (fin_short hf2) (fin_short hf3) (fin_within hf2 hf3 (hq2.1 h98) (hq3.1 h102) fun x => out_weak (most_ok (hq2.1 h98)).1 (noneS_all (hkp h105) (by omega)))) ?_
    rintro e w ⟨rfl, hb⟩
    replace H := H.grow hb; clear hb
    refine ⟨_, rfl, ?_⟩
    clear F a; intro a F
    refine sPk F rfl rfl rfl rfl (qPk rfl rfl rfl rfl (qMv rfl rfl rfl ?_));clear F a;intro a F
    refine F.split 111 rfl ?_ ?_ <;> (clear F; intro h111 F)
    ·
     refine sCall Tryz.call14 F rfl rfl rfl (awake15_any _ (hN.own H)) ?_
     rintro e w ⟨rfl, hb⟩
     replace H := H.grow hb; clear hb
     refine ⟨_, rfl, ?_⟩
     clear F a; intro a F
     refine sPk F rfl rfl rfl rfl (qAs rfl rfl rfl (qNK hK19 ?_));clear hK19;clear F a;intro a F
     refine wp_ret ?_
     refine bRet Tryz.results3 F rfl ?_
     exact ⟨rfl, H.below⟩
    cases h111
   replace h85 := notF h85
   exact absurd (h73.symm.trans h85) (by decide)
  replace h73 := notF h73
  refine sMv F rfl rfl rfl (qNot rfl rfl rfl (qPk rfl rfl rfl rfl (qMv rfl rfl rfl ?_)));clear F a;intro a F
  refine F.split 77 rfl ?_ ?_ <;> (clear F; intro h77 F)
  ·
   replace h77 := notT h77
   refine sSk F rfl rfl (qSk rfl rfl (qSk rfl rfl (qPk rfl rfl rfl rfl (qMv rfl rfl rfl (qMv rfl rfl rfl (qNot rfl rfl rfl (qMv rfl rfl rfl ?_)))))));clear F a;intro a F
   refine F.split 85 rfl ?_ ?_ <;> (clear F; intro h85 F)
   ·
    replace h85 := notT h85
    exact absurd (h73.symm.trans h85) (by decide)
   replace h85 := notF h85
   refine sMv F rfl rfl rfl (qNot rfl rfl rfl (qPk rfl rfl rfl rfl (qMv rfl rfl rfl ?_)));clear F a;intro a F
   refine F.split 89 rfl ?_ ?_ <;> (clear F; intro h89 F)
   ·
    replace h89 := notT h89
    refine sSk F rfl rfl (qSk rfl rfl (qSk rfl rfl (qPk rfl rfl rfl rfl (qPk rfl rfl rfl rfl (qMv rfl rfl rfl (qMv rfl rfl rfl (qNot rfl rfl rfl (qMv rfl rfl rfl ?_))))))));clear F a;intro a F
    refine F.split 98 rfl ?_ ?_ <;> (clear F; intro h98 F)
    ·
     replace h98 := notT h98
     refine sSk F rfl rfl (qSk rfl rfl (qPk rfl rfl rfl rfl (qMv rfl rfl rfl (qSk rfl rfl (qPk rfl rfl rfl rfl (qMv rfl rfl rfl (qSk rfl rfl (qSk rfl rfl (qSk rfl rfl (qPk rfl rfl rfl rfl (qPk rfl rfl rfl rfl (qMv rfl rfl rfl ?_))))))))))));clear F a;intro a F
     refine sCall Tryz.call14 F rfl rfl rfl (awake15_any _ (hN.own H)) ?_
     rintro e w ⟨rfl, hb⟩
     replace H := H.grow hb; clear hb
     refine ⟨_, rfl, ?_⟩
     clear F a; intro a F
     refine sPk F rfl rfl rfl rfl (qAs rfl rfl rfl (qNK hK19 ?_));clear hK19;clear F a;intro a F
     refine wp_ret ?_
     refine bRet Tryz.results3 F rfl ?_
     exact ⟨rfl, H.below⟩
    replace h98 := notF h98
    exact absurd (h77.symm.trans h98) (by decide)
   replace h89 := notF h89
   refine sMv F rfl rfl rfl (qMv rfl rfl rfl ?_);clear F a;intro a F
   refine sCall Tryz.call13 F rfl rfl rfl (within_true A1 A3 k1 k3 l1 l3 _ (H.rowsAt 2 rfl (bs38_len _) (by decide)) (H.rowsAt 0 rfl (bs38_len _) (by decide)) (fin_short hf1) (fin_short hf3) (fin_within hf1 hf3 (hq1.1 h73) (hq3.1 h89) fun x => out_sc (most_ok (hq1.1 h73)).1 (by decide))) ?_
   rintro e w ⟨rfl, hb⟩
   replace H := H.grow hb; clear hb
   refine ⟨_, rfl, ?_⟩
   clear F a; intro a F
   refine sPk F rfl rfl rfl rfl (qPk rfl rfl rfl rfl (qMv rfl rfl rfl ?_));clear F a;intro a F
   refine F.split 95 rfl ?_ ?_ <;> (clear F; intro h95 F)
   ·
    refine sMv F rfl rfl rfl (qNot rfl rfl rfl (qMv rfl rfl rfl ?_));clear F a;intro a F
    refine F.split 98 rfl ?_ ?_ <;> (clear F; intro h98 F)
    ·
     replace h98 := notT h98
     refine sSk F rfl rfl (qSk rfl rfl (qPk rfl rfl rfl rfl (qMv rfl rfl rfl (qSk rfl rfl (qPk rfl rfl rfl rfl (qMv rfl rfl rfl (qSk rfl rfl (qSk rfl rfl (qSk rfl rfl (qPk rfl rfl rfl rfl (qPk rfl rfl rfl rfl (qMv rfl rfl rfl ?_))))))))))));clear F a;intro a F
     refine sCall Tryz.call14 F rfl rfl rfl (awake15_any _ (hN.own H)) ?_
     rintro e w ⟨rfl, hb⟩
     replace H := H.grow hb; clear hb
     refine ⟨_, rfl, ?_⟩
     clear F a; intro a F
     refine sPk F rfl rfl rfl rfl (qAs rfl rfl rfl (qNK hK19 ?_));clear hK19;clear F a;intro a F
     refine wp_ret ?_
     refine bRet Tryz.results3 F rfl ?_
     exact ⟨rfl, H.below⟩
    replace h98 := notF h98
    exact absurd (h77.symm.trans h98) (by decide)
   cases h95
  replace h77 := notF h77
  refine sMv F rfl rfl rfl (qMv rfl rfl rfl ?_);clear F a;intro a F
  refine sCall Tryz.call13 F rfl rfl rfl (within_true A1 A2 k1 k2 l1 l2 _ (H.rowsAt 2 rfl (bs38_len _) (by decide)) (H.rowsAt 1 rfl (bs38_len _) (by decide)) (fin_short hf1) (fin_short hf2) (fin_within hf1 hf2 (hq1.1 h73) (hq2.1 h77) fun x => out_sc (most_ok (hq1.1 h73)).1 (by decide))) ?_
  rintro e w ⟨rfl, hb⟩
  replace H := H.grow hb; clear hb
  refine ⟨_, rfl, ?_⟩
  clear F a; intro a F
  refine sPk F rfl rfl rfl rfl (qMv rfl rfl rfl ?_);clear F a;intro a F
  refine F.split 82 rfl ?_ ?_ <;> (clear F; intro h82 F)
  ·
   refine sMv F rfl rfl rfl (qNot rfl rfl rfl (qMv rfl rfl rfl ?_));clear F a;intro a F
   refine F.split 85 rfl ?_ ?_ <;> (clear F; intro h85 F)
   ·
    replace h85 := notT h85
    exact absurd (h73.symm.trans h85) (by decide)
   replace h85 := notF h85
   refine sMv F rfl rfl rfl (qNot rfl rfl rfl (qPk rfl rfl rfl rfl (qMv rfl rfl rfl ?_)));clear F a;intro a F
   refine F.split 89 rfl ?_ ?_ <;> (clear F; intro h89 F)
   ·
    replace h89 := notT h89
    refine sSk F rfl rfl (qSk rfl rfl (qSk rfl rfl (qPk rfl rfl rfl rfl (qPk rfl rfl rfl rfl (qMv rfl rfl rfl (qMv rfl rfl rfl (qNot rfl rfl rfl (qMv rfl rfl rfl ?_))))))));clear F a;intro a F
    refine F.split 98 rfl ?_ ?_ <;> (clear F; intro h98 F)
    ·
     replace h98 := notT h98
     exact absurd (h77.symm.trans h98) (by decide)
    replace h98 := notF h98
    refine sMv F rfl rfl rfl (qNot rfl rfl rfl (qPk rfl rfl rfl rfl (qMv rfl rfl rfl ?_)));clear F a;intro a F
    refine F.split 102 rfl ?_ ?_ <;> (clear F; intro h102 F)
    ·
     replace h102 := notT h102
     refine sSk F rfl rfl (qPk rfl rfl rfl rfl (qMv rfl rfl rfl (qSk rfl rfl (qSk rfl rfl (qSk rfl rfl (qPk rfl rfl rfl rfl (qPk rfl rfl rfl rfl (qMv rfl rfl rfl ?_))))))));clear F a;intro a F
     refine sCall Tryz.call14 F rfl rfl rfl (awake15_any _ (hN.own H)) ?_
     rintro e w ⟨rfl, hb⟩
     replace H := H.grow hb; clear hb
     refine ⟨_, rfl, ?_⟩
     clear F a; intro a F
     refine sPk F rfl rfl rfl rfl (qAs rfl rfl rfl (qNK hK19 ?_));clear hK19;clear F a;intro a F
     refine wp_ret ?_
     refine bRet Tryz.results3 F rfl ?_
     exact ⟨rfl, H.below⟩
    replace h102 := notF h102
    exact absurd (h89.symm.trans h102) (by decide)
   replace h89 := notF h89
   refine sMv F rfl rfl rfl (qMv rfl rfl rfl ?_);clear F a;intro a F
   refine sCall Tryz.call13 F rfl rfl rfl (within_true A1 A3 k1 k3 l1 l3 _ (H.rowsAt 2 rfl (bs38_len _) (by decide)) (H.rowsAt 0 rfl (bs38_len _) (by decide)) (fin_short hf1) (fin_short hf3) (fin_within hf1 hf3 (hq1.1 h73) (hq3.1 h89) fun x => out_sc (most_ok (hq1.1 h73)).1 (by decide))) ?_
   rintro e w ⟨rfl, hb⟩
   replace H := H.grow hb; clear hb
   refine ⟨_, rfl, ?_⟩
   clear F a; intro a F
   refine sPk F rfl rfl rfl rfl (qPk rfl rfl rfl rfl (qMv rfl rfl rfl ?_));clear F a;intro a F
   refine F.split 95 rfl ?_ ?_ <;> (clear F; intro h95 F)
   ·
    refine sMv F rfl rfl rfl (qNot rfl rfl rfl (qMv rfl rfl rfl ?_));clear F a;intro a F
    refine F.split 98 rfl ?_ ?_ <;> (clear F; intro h98 F)
    ·
     replace h98 := notT h98
     exact absurd (h77.symm.trans h98) (by decide)
    replace h98 := notF h98
    refine sMv F rfl rfl rfl (qNot rfl rfl rfl (qPk rfl rfl rfl rfl (qMv rfl rfl rfl ?_)));clear F a;intro a F
    refine F.split 102 rfl ?_ ?_ <;> (clear F; intro h102 F)
    ·
     replace h102 := notT h102
     exact absurd (h89.symm.trans h102) (by decide)
    replace h102 := notF h102
    refine sMv F rfl rfl rfl (qPk rfl rfl rfl rfl (qMv rfl rfl rfl ?_));clear F a;intro a F
    refine F.split 105 rfl ?_ ?_ <;> (clear F; intro h105 F)
    ·
     refine sSk F rfl rfl (qSk rfl rfl (qSk rfl rfl (qPk rfl rfl rfl rfl (qPk rfl rfl rfl rfl (qMv rfl rfl rfl ?_)))));clear F a;intro a F
     refine sCall Tryz.call14 F rfl rfl rfl (awake15_any _ (hN.own H)) ?_
     rintro e w ⟨rfl, hb⟩
     replace H := H.grow hb; clear hb
     refine ⟨_, rfl, ?_⟩
     clear F a; intro a F
     refine sPk F rfl rfl rfl rfl (qAs rfl rfl rfl (qNK hK19 ?_));clear hK19;clear F a;intro a F
     refine wp_ret ?_
     refine bRet Tryz.results3 F rfl ?_
     exact ⟨rfl, H.below⟩
    refine sMv F rfl rfl rfl (qMv rfl rfl rfl ?_);clear F a;intro a F
    refine sCall Tryz.call13 F rfl rfl rfl (within_true A2 A3 k2 k3 l2 l3 _ (H.rowsAt 1 rfl (bs38_len _) (by decide)) (H.rowsAt 0 rfl (bs38_len _) (by decide)) (fin_short hf2) (fin_short hf3) (fin_within hf2 hf3 (hq2.1 h98) (hq3.1 h102) fun x => out_weak (most_ok (hq2.1 h98)).1 (noneS_all (hkp h105) (by omega)))) ?_
    rintro e w ⟨rfl, hb⟩
    replace H := H.grow hb; clear hb
    refine ⟨_, rfl, ?_⟩
    clear F a; intro a F
    refine sPk F rfl rfl rfl rfl (qPk rfl rfl rfl rfl (qMv rfl rfl rfl ?_));clear F a;intro a F
    refine F.split 111 rfl ?_ ?_ <;> (clear F; intro h111 F)
    ·
     refine sCall Tryz.call14 F rfl rfl rfl (awake15_any _ (hN.own H)) ?_
     rintro e w ⟨rfl, hb⟩
     replace H := H.grow hb; clear hb
     refine ⟨_, rfl, ?_⟩
     clear F a; intro a F
     refine sPk F rfl rfl rfl rfl (qAs rfl rfl rfl (qNK hK19 ?_));clear hK19;clear F a;intro a F
     refine wp_ret ?_
     refine bRet Tryz.results3 F rfl ?_
     exact ⟨rfl, H.below⟩
    cases h111
   cases h95
  cases h82
end Go.Proofs.YtbgnapmaimkpkaaGreatDoor
