/-
  WALK2. The laws of chapter 15: finals, within. Conditions: the program lies in memory; block 0 holds the table of needs.
-/
import Derived.Test.YtbgnapmaimkpkaaGreatDoorRnY
set_option linter.unusedSimpArgs false
set_option linter.unusedVariables false
namespace Go.Proofs.YtbgnapmaimkpkaaGreatDoor
open Go.RowKit
set_option maxRecDepth 100000
theorem finals15_any (cs : List Value) (p : Prg) (w0 : World) (hP : ProgAt w0 cs p) (hN : NeedsAt w0) (mc : UInt8) (hk : (1 : UInt8) ≤ mc ∧ mc ≤ 3) :
    Calls Tryz.prog 12 #[.agg cs.toArray, Go.Proofs.YtbgnapmaimkpkaaGreatDoor.b8 mc] w0 fun e w' => ∃ (A : Option Addr) (c : Nat) (l2 : List By) (b : Bool), e = .returned (.tuple #[.slice A l2.length c, .bool b, .bool true]) ∧ (b = true ↔ statesE p mc 600 = 0) ∧ FinOut p mc 600 l2 ∧ Own w0 none w' [.rws 47 38 (.slice A l2.length c) (l2.map (bs 38))] := by
  have H := Own.start w0 none
  have hP0 := hP
  obtain ⟨LA, LC, IA, IC, TA, TC, h, ccs, hp⟩ := hP
  obtain ⟨c1, c2, c3, c4, c5, rfl⟩ := len5 (condAt_len hp.cond)
  have hcs := hp.cs
  subst hcs
  refine enterF Tryz.func12 rfl Tryz.ntmps12 rfl (fun a F => ?_)
  refine cSR fun K1 hK1=>?_
  refine sBx H F rfl rfl rfl ?_
  clear F a H; intro b2 a w F H
  refine sAs F rfl rfl rfl (qAs rfl rfl rfl (qAs rfl rfl rfl (qNK hK1 (qSR fun K2 hK2=>?_))));clear hK1;clear F a;intro a F
  refine sLr Tryz.underlying29 rfl ?si F rfl rfl rfl (H.whole 0 rfl) ?_
  case si => exact info_size Tryz.sizeOf29
  clear F a; intro a F
  refine sMv F rfl rfl rfl ?_;clear F a;intro a F
  refine sCall Tryz.call19 F rfl rfl rfl (finals_any _ p _ (hP0.own H) (hN.own H) mc 600 (by decide) (by decide)) ?_
  rintro e w ⟨A, c, l2, rfl, hf, H2⟩
  replace H := H.join H2; clear H2
  refine ⟨_, rfl, ?_⟩
  clear F a; intro a F
  refine sMv F rfl rfl rfl (qExt rfl rfl rfl rfl (qExt rfl rfl rfl rfl (qAs rfl rfl rfl (qAs rfl rfl rfl (qNK hK2 (qSR fun K3 hK3=>qMv rfl rfl rfl (qBin rfl rfl rfl rfl bEql (qMv rfl rfl rfl ?_))))))));clear hK2;clear F a;intro a F
  refine F.split 18 rfl ?_ ?_ <;> (clear F; intro h18 F)
  ·
   replace h18 := beqT h18
   refine sSk F rfl rfl (qSk rfl rfl (qSk rfl rfl (qSk rfl rfl (qSk rfl rfl (qSk rfl rfl (qSk rfl rfl (qPk rfl rfl rfl rfl (qMv rfl rfl rfl (qSk rfl rfl (qSk rfl rfl (qSk rfl rfl (qSk rfl rfl (qSk rfl rfl (qSk rfl rfl (qSk rfl rfl (qPk rfl rfl rfl rfl (qAs rfl rfl rfl (qNK hK3 (qSR fun K4 hK4=>qMv rfl rfl rfl (qMv rfl rfl rfl (qBin rfl rfl rfl rfl bEql (qMv rfl rfl rfl (qMv rfl rfl rfl (qMv rfl rfl rfl (qBin rfl rfl rfl rfl bEql (qMv rfl rfl rfl (qLen Tryz.underlying30 rfl rfl rfl (qBin rfl rfl rfl rfl bGtr (qBin rfl rfl rfl rfl (bBoolEq Tryz.underlying4) (qPk rfl rfl rfl rfl (qAs rfl rfl rfl (qAs rfl rfl rfl (qAs rfl rfl rfl (qNK hK4 ?_))))))))))))))))))))))))))))))))));clear hK3 hK4;clear F a;intro a F
   refine wp_ret ?_
   refine bRet3 Tryz.results12 F rfl rfl rfl ?_
   first
   | (have hlen : 0 < l2.length := List.length_pos_iff.2 (hf.2 h18).1
      refine ⟨A, c, l2, true, ?_, ⟨fun _ => h18, fun _ => rfl⟩, hf, H.pick 0 rfl⟩
      simp [h18, hlen])
   | (subst hl0
      refine ⟨A, c, [], false, ?_, ⟨fun h => Bool.noConfusion h, fun h => absurd h h18⟩, hf, H.pick 0 rfl⟩
      simp [h18])
  replace h18 := beqF h18
  have hbad := most_bad h18
  have hb : statesE p mc 600 = 5 ∨ statesE p mc 600 = 2 := hbad.2.2.imp (·.1) (·.1)
  have hb5 : statesE p mc 600 = 5 → rightErr p = 0 := fun e => by
   rcases hbad.2.2 with h | h
   · exact h.2.1
   · rw [e] at h; exact absurd h.1 (by decide)
  have hb2 : statesE p mc 600 = 2 → ¬ rightErr p = 0 := fun e => by
   rcases hbad.2.2 with h | h
   · rw [e] at h; exact absurd h.1 (by decide)
   · exact fun h2 => h.2 ⟨h2, hk⟩
  have hl0 : l2 = [] := hf.1 h18
  refine sMv F rfl rfl rfl (qBin rfl rfl rfl rfl bEql (qMv rfl rfl rfl ?_));clear F a;intro a F
  refine F.split 21 rfl ?_ ?_ <;> (clear F; intro h21 F)
  ·
   replace h21 := beqT h21
   refine sLr Tryz.underlying29 rfl ?si F rfl rfl rfl (H.whole 1 rfl) ?_
   case si => exact info_size Tryz.sizeOf29
   clear F a; intro a F
   refine sCall Tryz.call15 F rfl rfl rfl (right_any' _ p _ (hP0.own H) (hN.own H)) ?_
   rintro e w ⟨rfl, hb⟩
   replace H := H.grow hb; clear hb
   refine ⟨_, rfl, ?_⟩
   clear F a; intro a F
   refine sBin F rfl rfl rfl rfl bEql (qPk rfl rfl rfl rfl (qPk rfl rfl rfl rfl (qMv rfl rfl rfl ?_)));clear F a;intro a F
   refine F.split 27 rfl ?_ ?_ <;> (clear F; intro h27 F)
   ·
    replace h27 := beqT h27
    refine sSk F rfl rfl (qSk rfl rfl (qSk rfl rfl (qSk rfl rfl (qSk rfl rfl (qSk rfl rfl (qSk rfl rfl (qPk rfl rfl rfl rfl (qAs rfl rfl rfl (qNK hK3 (qSR fun K5 hK5=>qMv rfl rfl rfl (qMv rfl rfl rfl (qBin rfl rfl rfl rfl bEql (qMv rfl rfl rfl (qMv rfl rfl rfl (qMv rfl rfl rfl (qBin rfl rfl rfl rfl bEql (qMv rfl rfl rfl (qLen Tryz.underlying30 rfl rfl rfl (qBin rfl rfl rfl rfl bGtr (qBin rfl rfl rfl rfl (bBoolEq Tryz.underlying4) (qPk rfl rfl rfl rfl (qAs rfl rfl rfl (qAs rfl rfl rfl (qAs rfl rfl rfl (qNK hK5 ?_)))))))))))))))))))))))));clear hK3 hK5;clear F a;intro a F
    refine wp_ret ?_
    refine bRet3 Tryz.results12 F rfl rfl rfl ?_
    first
    | (have hlen : 0 < l2.length := List.length_pos_iff.2 (hf.2 h18).1
       refine ⟨A, c, l2, true, ?_, ⟨fun _ => h18, fun _ => rfl⟩, hf, H.pick 0 rfl⟩
       simp [h18, hlen])
    | (subst hl0
       refine ⟨A, c, [], false, ?_, ⟨fun h => Bool.noConfusion h, fun h => absurd h h18⟩, hf, H.pick 0 rfl⟩
       simp [h18])
   replace h27 := beqF h27
   exact absurd (hb5 h21) h27
  replace h21 := beqF h21
  refine sSk F rfl rfl (qSk rfl rfl (qSk rfl rfl (qPk rfl rfl rfl rfl (qPk rfl rfl rfl rfl (qMv rfl rfl rfl (qMv rfl rfl rfl (qBin rfl rfl rfl rfl bEql (qMv rfl rfl rfl ?_))))))));clear F a;intro a F
  refine F.split 30 rfl ?_ ?_ <;> (clear F; intro h30 F)
  ·
   replace h30 := beqT h30
   refine sLr Tryz.underlying29 rfl ?si F rfl rfl rfl (H.whole 1 rfl) ?_
   case si => exact info_size Tryz.sizeOf29
   clear F a; intro a F
   refine sCall Tryz.call15 F rfl rfl rfl (right_any' _ p _ (hP0.own H) (hN.own H)) ?_
   rintro e w ⟨rfl, hb⟩
   replace H := H.grow hb; clear hb
   refine ⟨_, rfl, ?_⟩
   clear F a; intro a F
   refine sBin F rfl rfl rfl rfl bNeq (qPk rfl rfl rfl rfl (qPk rfl rfl rfl rfl (qAs rfl rfl rfl (qNK hK3 (qSR fun K6 hK6=>qMv rfl rfl rfl (qMv rfl rfl rfl (qBin rfl rfl rfl rfl bEql (qMv rfl rfl rfl (qMv rfl rfl rfl ?_)))))))));clear hK3;clear F a;intro a F
   refine F.split 40 rfl ?_ ?_ <;> (clear F; intro h40 F)
   ·
    replace h40 := bneT h40
    refine sMv F rfl rfl rfl (qBin rfl rfl rfl rfl bEql (qMv rfl rfl rfl (qLen Tryz.underlying30 rfl rfl rfl (qBin rfl rfl rfl rfl bGtr (qBin rfl rfl rfl rfl (bBoolEq Tryz.underlying4) (qPk rfl rfl rfl rfl (qAs rfl rfl rfl (qAs rfl rfl rfl (qAs rfl rfl rfl (qNK hK6 ?_))))))))));clear hK6;clear F a;intro a F
    refine wp_ret ?_
    refine bRet3 Tryz.results12 F rfl rfl rfl ?_
    first
    | (have hlen : 0 < l2.length := List.length_pos_iff.2 (hf.2 h18).1
       refine ⟨A, c, l2, true, ?_, ⟨fun _ => h18, fun _ => rfl⟩, hf, H.pick 0 rfl⟩
       simp [h18, hlen])
    | (subst hl0
       refine ⟨A, c, [], false, ?_, ⟨fun h => Bool.noConfusion h, fun h => absurd h h18⟩, hf, H.pick 0 rfl⟩
       simp [h18])
   replace h40 := bneF h40
   exact absurd h40 (hb2 h30)
  replace h30 := beqF h30
  exact absurd (hb.resolve_left h21) h30
theorem take_snocT {q : List By} {i : Nat} {y : By} (hy : q[i]? = some y) : (tl q).take (i + 1) = (tl q).take i ++ [toL 38 y] := by
  rw [List.take_add_one, tl_get hy]; rfl
theorem within_any (A B : Option Addr) (CA CB : Nat) (l q : List By) (w0 : World) (hA : RowsAt w0 A 38 (l.map (bs 38))) (hB : RowsAt w0 B 38 (q.map (bs 38))) (hl : l.length ≤ 9223372036854775807) (hq : q.length ≤ 9223372036854775807) :
    Calls Tryz.prog 13 #[.slice A l.length CA, .slice B q.length CB] w0 fun e w' => ∃ b : Bool, e = .returned (.bool b) ∧ (b = true ↔ ∀ x ∈ tl l, x ∈ tl q) ∧ Below w0.heap.size w0 w' := by
  have H := Own.start w0 none
  refine enterF Tryz.func13 rfl Tryz.ntmps13 rfl (fun a F => ?_)
  refine cSR fun K1 hK1=>sAs F rfl rfl rfl (qNK hK1 ?_);clear hK1;clear F a;intro a F
  refine cSeq (fun K2 hK2 => ?_)
  refine cSR fun K3 hK3=>sMv F rfl rfl rfl (qLen Tryz.underlying30 rfl rfl rfl (qMv rfl rfl rfl (qNK hK3 ?_)));clear hK3;clear F a;intro a F
  refine wp_block ?_
  refine cLoopR [1, 10, 11] (fun m ups w => ∃ j : Nat, m = l.length - j ∧ ups = [(12, .int .i64 ((j : Nat) : Int))] ∧ j ≤ l.length ∧ (∀ x ∈ (tl l).take j, x ∈ tl q) ∧ Own w0 none w []) F (l.length) [(12, .int .i64 ((0 : Nat) : Int))] (by repeat (first | exact SubR.nil | (apply SubR.cons; · rfl))) ?_ ?_ ?_
  · exact ⟨0, rfl, rfl, by omega, fun x h => absurd h (by simp), H⟩
  · repeat (first | exact trivial | refine Le.cons rfl ?_)
  clear F
  clear H
  intro m ups a w hI F
  obtain ⟨j, rfl, rfl, hj, hin, H⟩ := hI
  refine cSR fun K4 hK4=>sBin F rfl rfl rfl rfl bLss (qNK hK4 ?_);clear hK4;clear F a;intro a F
  refine cSeq (fun K5 hK5 => ?_)
  refine cIf F rfl (fun h13 => ?_) (fun h13 => ?_)
  ·
   replace h13 := of_decide_eq_true h13
   have hjl : j < l.length := by omega
   obtain ⟨x, hx⟩ : ∃ x, l[j]? = some x := ⟨_, List.getElem?_eq_getElem hjl⟩
   obtain ⟨b1, o1, rfl, hR1⟩ := hA j (bs 38 x) (by rw [List.getElem?_map, hx]; rfl)
   refine wp_skip (hK5 _ _ ?_);clear hK5
   refine cSeq (fun K6 hK6 => ?_)
   refine wp_block ?_
   refine cSR fun K7 hK7=>?_
   refine sIx Tryz.underlying30 Tryz.sizeOf47 F rfl rfl rfl rfl ?_ ?_
   focus exact hjl
   clear F a; intro a F
   refine sLrB Tryz.underlying47 rfl Tryz.sizeOf47 F rfl rfl rfl (H.argR hR1) ?_;clear F a;intro a F
   refine sAlB H zB47 F rfl rfl ?_
   clear F a H; intro b6 a w F H
   refine sSrB H 0 Tryz.sizeOf47 F rfl rfl rfl rfl (by omega) ?_
   clear H; intro w H
   rw [lay_all] at H
   refine nK hK7 (cSR fun K8 hK8=>sAs F rfl rfl rfl (qNK hK8 ?_));clear hK7 hK8;clear F a;intro a F
   refine cSeq (fun K9 hK9 => ?_)
   refine cSR fun K10 hK10=>sMv F rfl rfl rfl (qLen Tryz.underlying30 rfl rfl rfl (qMv rfl rfl rfl (qNK hK10 ?_)));clear hK10;clear F a;intro a F
   refine wp_block ?_
   refine cLoopR [1, 6, 10, 11, 12, 16, 17] (fun m ups w => ∃ (i : Nat) (fnd : Bool), m = q.length - i ∧ ups = [(7, .bool fnd), (18, .int .i64 ((i : Nat) : Int))] ∧ i ≤ q.length ∧ (fnd = true ↔ toL 38 x ∈ (tl q).take i) ∧ Own w0 none w [.blk b6 (bs 38 x) 47]) F (q.length) [(7, .bool false), (18, .int .i64 ((0 : Nat) : Int))] (by repeat (first | exact SubR.nil | (apply SubR.cons; · rfl))) ?_ ?_ ?_
   · exact ⟨0, false, rfl, rfl, by omega, (by simp), H.sel [0] rfl rfl⟩
   · repeat (first | exact trivial | refine Le.cons rfl ?_)
   clear F
   clear H
   intro m ups a w hI F
   obtain ⟨i, fnd, rfl, rfl, hi, hfnd, H⟩ := hI
   refine cSR fun K11 hK11=>sBin F rfl rfl rfl rfl bLss (qNK hK11 ?_);clear hK11;clear F a;intro a F
   refine cSeq (fun K12 hK12 => ?_)
   refine cIf F rfl (fun h19 => ?_) (fun h19 => ?_)
   ·
    replace h19 := of_decide_eq_true h19
    have hiq : i < q.length := by omega
    obtain ⟨y, hy⟩ : ∃ y, q[i]? = some y := ⟨_, List.getElem?_eq_getElem hiq⟩
    obtain ⟨b2, o2, rfl, hR2⟩ := hB i (bs 38 y) (by rw [List.getElem?_map, hy]; rfl)
    refine wp_skip (hK12 _ _ ?_);clear hK12
    refine cSeq (fun K13 hK13 => ?_)
    refine wp_block ?_
    refine cSR fun K14 hK14=>?_
    refine sIx Tryz.underlying30 Tryz.sizeOf47 F rfl rfl rfl rfl ?_ ?_
    focus exact hiq
    clear F a; intro a F
    refine sLrB Tryz.underlying47 rfl Tryz.sizeOf47 F rfl rfl rfl (H.argR hR2) ?_;clear F a;intro a F
    refine sAlB H zB47 F rfl rfl ?_
    clear F a H; intro b9 a w F H
    refine sSrB H 0 Tryz.sizeOf47 F rfl rfl rfl rfl (by omega) ?_
    clear H; intro w H
    rw [lay_all] at H
    refine nK hK14 (cReg (sMv F rfl rfl rfl (qMv rfl rfl rfl ?_)));clear hK14;clear F a;intro a F
    refine F.split 23 rfl ?_ ?_ <;> (clear F; intro h23 F)
    ·
     refine sSk F rfl rfl (qSk rfl rfl (qSk rfl rfl (qPk rfl rfl rfl rfl (qAs rfl rfl rfl (qNK hK13 (qReg ?_))))));clear hK13;clear F a;intro a F
     refine sBin F rfl rfl rfl rfl (bAddN (j := 1) ?_) ?_
     focus omega
     clear F a; intro a F
     refine sMv F rfl rfl rfl ?_;clear F a;intro a F
     refine sNil ?_
     first
     | exact ⟨_, by omega, _, ⟨i + 1, true, rfl, rfl, by omega, ⟨fun _ => (by rw [take_snocT hy]; exact List.mem_append_left _ (hfnd.1 h23)), fun _ => rfl⟩, H.sel [1] rfl rfl⟩, F.to (by repeat (first | exact trivial | refine Le.cons rfl ?_))⟩
     | exact ⟨_, by omega, _, ⟨i + 1, same 38 x y, rfl, rfl, by omega, (by
        rw [take_snocT hy, List.mem_append, List.mem_singleton, toL_eq]
        exact ⟨.inr, fun h => h.resolve_left (fun h2 => by rw [hfnd.2 h2] at h23; cases h23)⟩), H.sel [1] rfl rfl⟩, F.to (by repeat (first | exact trivial | refine Le.cons rfl ?_))⟩
    refine sLrB Tryz.underlying47 rfl Tryz.sizeOf47 F rfl rfl rfl (H.whole 1 rfl) (qLrB Tryz.underlying47 rfl Tryz.sizeOf47 rfl rfl rfl (H.whole 0 rfl) (qBin rfl rfl rfl rfl (bEqY eT47 gT47 rfl) (qPk rfl rfl rfl rfl (qAs rfl rfl rfl (qNK hK13 (qReg ?_))))));clear hK13;clear F a;intro a F
    refine sBin F rfl rfl rfl rfl (bAddN (j := 1) ?_) ?_
    focus omega
    clear F a; intro a F
    refine sMv F rfl rfl rfl ?_;clear F a;intro a F
    refine sNil ?_
    first
    | exact ⟨_, by omega, _, ⟨i + 1, true, rfl, rfl, by omega, ⟨fun _ => (by rw [take_snocT hy]; exact List.mem_append_left _ (hfnd.1 h23)), fun _ => rfl⟩, H.sel [1] rfl rfl⟩, F.to (by repeat (first | exact trivial | refine Le.cons rfl ?_))⟩
    | exact ⟨_, by omega, _, ⟨i + 1, same 38 x y, rfl, rfl, by omega, (by
       rw [take_snocT hy, List.mem_append, List.mem_singleton, toL_eq]
       exact ⟨.inr, fun h => h.resolve_left (fun h2 => by rw [hfnd.2 h2] at h23; cases h23)⟩), H.sel [1] rfl rfl⟩, F.to (by repeat (first | exact trivial | refine Le.cons rfl ?_))⟩
   replace h19 := of_decide_eq_false h19
   obtain rfl : i = q.length := by omega
   rw [List.take_of_length_le (by rw [tl_len]; exact Nat.le_refl _)] at hfnd
   refine wp_exit ?_
   refine hK9 _ _ (cSR fun K15 hK15=>sMv F rfl rfl rfl (qNot rfl rfl rfl (qNK hK15 ?_)));clear hK9 hK15;clear F a;intro a F
   refine cIf F rfl (fun h30 => ?_) (fun h30 => ?_)
   ·
    replace h30 := notT h30
    refine cSR fun K16 hK16=>sAs F rfl rfl rfl (qNK hK16 ?_);clear hK16;clear F a;intro a F
    refine wp_ret ?_
    simp only [Exit.inBlock, Exit.then]
    refine bRet Tryz.results13 F rfl ?_
    first
    | (have hall : ∀ x ∈ tl l, x ∈ tl q := fun z hz => hin z (by rw [List.take_of_length_le (by rw [tl_len]; omega)]; exact hz)
       exact ⟨true, rfl, ⟨fun _ => hall, fun _ => rfl⟩, H.below⟩)
    | exact ⟨false, rfl, ⟨fun h => Bool.noConfusion h, fun h => absurd (hfnd.2 (h _ (List.mem_of_getElem? (tl_get hx)))) (by rw [h30]; decide)⟩, H.below⟩
   replace h30 := notF h30
   refine wp_skip (hK6 _ _ (cReg ?_));clear hK6
   refine sBin F rfl rfl rfl rfl (bAddN (j := 1) ?_) ?_
   focus omega
   clear F a; intro a F
   refine sMv F rfl rfl rfl ?_;clear F a;intro a F
   refine sNil ?_
   exact ⟨_, by omega, _, ⟨j + 1, rfl, rfl, by omega, fun z hz => (by
    rw [take_snocT hx, List.mem_append, List.mem_singleton] at hz
    rcases hz with h | h
    · exact hin z h
    · rw [h]; exact hfnd.1 h30), H.sel [] rfl rfl⟩, F.to (by repeat (first | exact trivial | refine Le.cons rfl ?_))⟩
  replace h13 := of_decide_eq_false h13
  refine wp_exit ?_
  refine hK2 _ _ (cSR fun K17 hK17=>sAs F rfl rfl rfl (qNK hK17 ?_));clear hK2 hK17;clear F a;intro a F
  refine wp_ret ?_
  refine bRet Tryz.results13 F rfl ?_
  first
  | (have hall : ∀ x ∈ tl l, x ∈ tl q := fun z hz => hin z (by rw [List.take_of_length_le (by rw [tl_len]; omega)]; exact hz)
     exact ⟨true, rfl, ⟨fun _ => hall, fun _ => rfl⟩, H.below⟩)
  | exact ⟨false, rfl, ⟨fun h => Bool.noConfusion h, fun h => absurd (hfnd.2 (h _ (List.mem_of_getElem? (tl_get hx)))) (by rw [h30]; decide)⟩, H.below⟩
theorem fin_within {p : Prg} {m m2 : UInt8} {l l2 : List By} (hf : FinOut p m 600 l) (hf2 : FinOut p m2 600 l2) (h : statesE p m 600 = 0) (h2 : statesE p m2 600 = 0) (hs : ∀ x, OutM p m x → OutM p m2 x) : ∀ x ∈ tl l, x ∈ tl l2 := fun x hx =>
  ((hf2.2 h2).2.2.2 x).2 (hs x (((hf.2 h).2.2.2 x).1 hx))
theorem fin_short {p : Prg} {m : UInt8} {l : List By} (hf : FinOut p m 600 l) : l.length ≤ 9223372036854775807 := by
  by_cases h : statesE p m 600 = 0
  · have := (hf.2 h).2.1; omega
  · rw [hf.1 h]; decide
theorem within_true (A B : Option Addr) (CA CB : Nat) (l q : List By) (w0 : World) (hA : RowsAt w0 A 38 (l.map (bs 38))) (hB : RowsAt w0 B 38 (q.map (bs 38))) (hl : l.length ≤ 9223372036854775807) (hq : q.length ≤ 9223372036854775807) (h : ∀ x ∈ tl l, x ∈ tl q) :
    Calls Tryz.prog 13 #[.slice A l.length CA, .slice B q.length CB] w0 fun e w' => e = .returned (.bool true) ∧ Below w0.heap.size w0 w' :=
  (within_any A B CA CB l q w0 hA hB hl hq).mono fun e w' hh => by
    obtain ⟨b, he, hb, hB⟩ := hh
    exact ⟨by rw [he, hb.2 h], hB⟩
theorem fins_true (A B : Option Addr) (CA CB : Nat) (l q : List By) (w0 : World) (hA : RowsAt w0 A 38 (l.map (bs 38))) (hB : RowsAt w0 B 38 (q.map (bs 38))) (hl : l.length ≤ 9223372036854775807) (hq : q.length ≤ 9223372036854775807) (h : tl l = tl q) :
    Calls Tryz.prog 16 #[.slice A l.length CA, .slice B q.length CB] w0 fun e w' => e = .returned (.bool true) ∧ Below w0.heap.size w0 w' :=
  (fins12_any A B CA CB l q w0 hA hB hl hq).mono fun e w' hh => by
    rw [decide_eq_true h] at hh
    exact hh
end Go.Proofs.YtbgnapmaimkpkaaGreatDoor
