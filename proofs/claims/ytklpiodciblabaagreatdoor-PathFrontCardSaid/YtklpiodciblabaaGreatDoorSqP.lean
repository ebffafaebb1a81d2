/-
  WALK2. The law PathFront. Conditions: the slices lie in memory; the tables.
-/
import Derived.Test.YtklpiodciblabaaGreatDoorPl1
set_option linter.unusedSimpArgs false
set_option linter.unusedVariables false
namespace Go.Proofs.YtklpiodciblabaaGreatDoor
open Go.Proofs.Tryz
open Go.RowKit
set_option maxRecDepth 100000
theorem new_first {x : Ins} (h : readsB x.op = true) (v : UInt8) (r : RunP) : ∃ m rest, newE x v r = ⟨1, x.loc, v, m, UInt8.ofNat r.pc, UInt8.ofNat r.many⟩ :: rest := by
  unfold newE
  rcases reads_or h with h | h | h | h
  · rw [if_pos h]; exact ⟨_, _, rfl⟩
  · rw [h]; exact ⟨_, _, rfl⟩
  · rw [h]; exact ⟨_, _, rfl⟩
  · rw [h]
    by_cases hv : v ≠ argV x.aR x.aN r
    · exact ⟨3, [], if_pos hv⟩
    · exact ⟨3, [⟨2, x.loc, argV x.bR x.bN r, 3, UInt8.ofNat r.pc, UInt8.ofNat (r.many + 1)⟩], if_neg hv⟩
theorem Path8.evs {l : List Ins} {r z : RunP} {vs : List UInt8} (h : Path8 l r vs z) : ∃ t, evsP z = evsP r ++ t := by
  induction h with
  | stop hx => exact ⟨[], by simp⟩
  | read hx hr _ ih => obtain ⟨t, ih⟩ := ih; exact ⟨_, by rw [ih, evs_exec, List.append_assoc]⟩
  | pass hx hr _ ih => obtain ⟨t, ih⟩ := ih; exact ⟨_, by rw [ih, evs_exec, List.append_assoc]⟩
def Part8 (a b : List Ev) : Prop := ∃ E e1 t1 e2 t2, a = E ++ e1 :: t1 ∧ b = E ++ e2 :: t2 ∧ e1.kind = 1 ∧ e2.kind = 1 ∧ e1.loc = e2.loc ∧ e1.ins = e2.ins ∧ e1.val ≠ e2.val
theorem front {l : List Ins} {r z1 : RunP} {vs1 : List UInt8} (h1 : Path8 l r vs1 z1) : ∀ {vs2 : List UInt8} {z2 : RunP}, Path8 l r vs2 z2 → z1 = z2 ∨ Part8 (evsP z1) (evsP z2) := by
  induction h1 with
  | stop hx =>
    intro vs2 z2 h2
    cases h2 with
    | stop _ => exact .inl rfl
    | read hx2 _ _ => rw [hx] at hx2; cases hx2
    | pass hx2 _ _ => rw [hx] at hx2; cases hx2
  | @read r z1 x v vs hx hr h ih =>
    intro vs2 z2 h2
    cases h2 with
    | stop hx2 => rw [hx] at hx2; cases hx2
    | @read _ _ x2 v2 vs2 hx2 hr2 h2 =>
      obtain rfl := Option.some.inj (hx.symm.trans hx2)
      by_cases hv : v = v2
      · subst hv; exact ih h2
      · refine .inr ?_
        obtain ⟨t1, e1⟩ := h.evs
        obtain ⟨t2, e2⟩ := h2.evs
        obtain ⟨m1, s1, n1⟩ := new_first hr v r
        obtain ⟨m2, s2, n2⟩ := new_first hr v2 r
        rw [evs_exec, n1, List.append_assoc, List.cons_append] at e1;rw [evs_exec, n2, List.append_assoc, List.cons_append] at e2
        exact ⟨_, _, _, _, _, e1, e2, rfl, rfl, rfl, rfl, hv⟩
    | pass hx2 hr2 _ =>
      obtain rfl := Option.some.inj (hx.symm.trans hx2)
      rw [hr] at hr2; cases hr2
  | @pass r z1 x vs hx hr h ih =>
    intro vs2 z2 h2
    cases h2 with
    | stop hx2 => rw [hx] at hx2; cases hx2
    | read hx2 hr2 _ =>
      obtain rfl := Option.some.inj (hx.symm.trans hx2)
      rw [hr] at hr2; cases hr2
    | pass hx2 _ h2 =>
      obtain rfl := Option.some.inj (hx.symm.trans hx2)
      exact ih h2
theorem part_at {a b : List Ev} {i : Nat} {x y : Ev} (h : Part8 a b) (hi : ∀ j, j < i → a[j]? = b[j]?) (hx : a[i]? = some x) (hy : b[i]? = some y) (hne : x ≠ y) : x.kind = 1 ∧ y.kind = 1 ∧ x.loc = y.loc ∧ x.ins = y.ins ∧ x.val ≠ y.val := by
  obtain ⟨E, e1, t1, e2, t2, rfl, rfl, h1, h2, h3, h4, h5⟩ := h
  have hi' : i = E.length := by
    rcases Nat.lt_trichotomy i E.length with h | h | h
    · rw [List.getElem?_append_left h] at hx hy
      exact absurd (Option.some.inj (hx.symm.trans hy)) hne
    · exact h
    · have := hi E.length h
      simp at this
      exact absurd (by rw [this]) h5
  subst hi'
  simp at hx hy
  subst hx hy
  exact ⟨h1, h2, h3, h4, h5⟩
theorem part_end {a b : List Ev} {i : Nat} (h : Part8 a b) (hi : ∀ j, j < i → a[j]? = b[j]?) (hl : ¬ (i < a.length ∧ i < b.length)) : False := by
  obtain ⟨E, e1, t1, e2, t2, rfl, rfl, h1, h2, h3, h4, h5⟩ := h
  rcases Nat.lt_or_ge E.length i with h | h
  · have := hi E.length h
    simp at this
    exact h5 (by rw [this])
  · simp at hl
    omega
theorem ok_of {l : List Ins} {reads : List UInt8} (he : (followR l reads).err = 0) : threadOk 6 l = true := by
  cases hl : threadOk 6 l with
  | true => rfl
  | false => rw [followR_bad hl] at he; cases he
set_option maxHeartbeats 8000000 in
theorem pathFront_any (A : Option Addr) (C : Nat) (l : List Ins) (RA : Option Addr) (RC : Nat) (v1 : List UInt8) (SA : Option Addr) (SC : Nat) (v2 : List UInt8) (w0 : World) (hA : RowsAt w0 A 10 (l.map Ins.cells)) (hn : l.length ≤ 9223372036854775807) (hR : RowsAt w0 RA 1 (v1.map fun x => [b8 x])) (hrn : v1.length ≤ 140737488351232) (hS : RowsAt w0 SA 1 (v2.map fun x => [b8 x])) (hsn : v2.length ≤ 140737488351232) (hN : NeedsAt w0) (hT : TabAt w0) :
    Calls Tryz.prog 3 #[.slice A l.length C, .slice RA v1.length RC, .slice SA v2.length SC] w0 fun e w' => e = .returned (.bool true) ∧ Below w0.heap.size w0 w' := by
  have H := Own.start w0 none
  refine enterF func3 rfl ntmps3 rfl (fun a F => ?_);refine cSR fun K1 hK1=>sAs F rfl rfl rfl (qNK hK1 (qSR fun K2 hK2=>qMv rfl rfl rfl (qMv rfl rfl rfl ?_)));clear hK1;clear F a;intro a F;refine sCall call11 F rfl rfl rfl (Follow_pl A C l.length l RA RC v1.length v1 _ (hA.own H) rfl hn (RowsAt.own hR H) rfl (by omega) (hN.own H) (hT.own H)) ?_;rintro e w ⟨qp, hqp, rfl, H2⟩;replace H := H.join H2
  clear H2
  have hqs : smallP qp.path = true := by rw [hqp]; exact small_fol _ _
  refine ⟨_, rfl, ?_⟩;clear F a; intro a F;refine sMv F rfl rfl rfl (qExt rfl rfl rfl rfl (qExt rfl rfl rfl rfl (qExt rfl rfl rfl rfl ?_)));clear F a;intro a F;refine sAl H zeroValue28 F rfl rfl ?_;clear F a H; intro b7 a w F H
  refine sSr H 0 ?si F rfl rfl rfl ?s1 rfl rfl ?_
  case si => exact info_size sizeOf28
  case s1 => first | rfl | (repeat (first | exact one_nil | (apply one_cons; · first | rfl | assumption | exact one_bif rfl rfl)))
  clear H; intro w H;refine sAs F rfl rfl rfl (qAs rfl rfl rfl (qNK hK2 (qSR fun K3 hK3=>qMv rfl rfl rfl (qMv rfl rfl rfl ?_))));clear hK2;clear F a;intro a F;refine sCall call11 F rfl rfl rfl (Follow_pl A C l.length l SA SC v2.length v2 _ (hA.own H) rfl hn (RowsAt.own hS H) rfl (by omega) (hN.own H) (hT.own H)) ?_;rintro e w ⟨qq, hqq, rfl, H2⟩;replace H := H.join H2
  clear H2
  have hqqs : smallP qq.path = true := by rw [hqq]; exact small_fol _ _
  refine ⟨_, rfl, ?_⟩;clear F a; intro a F;refine sMv F rfl rfl rfl (qExt rfl rfl rfl rfl (qExt rfl rfl rfl rfl (qExt rfl rfl rfl rfl ?_)));clear F a;intro a F;refine sAl H zeroValue28 F rfl rfl ?_;clear F a H; intro b10 a w F H
  refine sSr H 0 ?si F rfl rfl rfl ?s1 rfl rfl ?_
  case si => exact info_size sizeOf28
  case s1 => first | rfl | (repeat (first | exact one_nil | (apply one_cons; · first | rfl | assumption | exact one_bif rfl rfl)))
  clear H; intro w H;refine sAs F rfl rfl rfl (qAs rfl rfl rfl (qNK hK3 ?_));clear hK3;clear F a;intro a F;refine cSeq (fun K4 hK4 => ?_);refine cSR fun K5 hK5=>sMv F rfl rfl rfl (qBin rfl rfl rfl rfl bNeq (qMv rfl rfl rfl ?_));clear F a;intro a F
  refine F.split 32 rfl ?_ ?_ <;> (clear F; intro h32 F)
  ·
   replace h32 := bneT h32;refine sSk F rfl rfl (qSk rfl rfl (qPk rfl rfl rfl rfl (qMv rfl rfl rfl (qSk rfl rfl (qPk rfl rfl rfl rfl (qMv rfl rfl rfl (qSk rfl rfl (qPk rfl rfl rfl rfl (qNK hK5 ?_)))))))));clear hK5;clear F a;intro a F;refine cIfT F rfl ?_;refine cSR fun K6 hK6=>?_;refine sCall call12 F rfl rfl rfl (awake8_any _ (hN.own H) (hT.own H)) ?_;rintro e w ⟨rfl, hb⟩;replace H := H.grow hb; clear hb;refine ⟨_, rfl, ?_⟩;clear F a; intro a F;refine sAs F rfl rfl rfl (qNK hK6 ?_);clear hK6;clear F a;intro a F;refine wp_ret ?_;simp only [Exit.then];refine bRet results3 F rfl ?_
   exact ⟨rfl, H.below⟩
  replace h32 := bneF h32;refine sMv F rfl rfl rfl (qBin rfl rfl rfl rfl bNeq (qPk rfl rfl rfl rfl (qMv rfl rfl rfl ?_)));clear F a;intro a F
  refine F.split 36 rfl ?_ ?_ <;> (clear F; intro h36 F)
  ·
   replace h36 := bneT h36;refine sSk F rfl rfl (qPk rfl rfl rfl rfl (qMv rfl rfl rfl (qSk rfl rfl (qPk rfl rfl rfl rfl (qNK hK5 ?_)))));clear hK5;clear F a;intro a F;refine cIfT F rfl ?_;refine cSR fun K7 hK7=>?_;refine sCall call12 F rfl rfl rfl (awake8_any _ (hN.own H) (hT.own H)) ?_;rintro e w ⟨rfl, hb⟩;replace H := H.grow hb; clear hb;refine ⟨_, rfl, ?_⟩;clear F a; intro a F;refine sAs F rfl rfl rfl (qNK hK7 ?_);clear hK7;clear F a;intro a F;refine wp_ret ?_;simp only [Exit.then];refine bRet results3 F rfl ?_
   exact ⟨rfl, H.below⟩
  replace h36 := bneF h36;refine sMv F rfl rfl rfl (qPk rfl rfl rfl rfl (qMv rfl rfl rfl ?_));clear F a;intro a F
  refine F.split 39 rfl ?_ ?_ <;> (clear F; intro h39 F)
  ·
   refine sSk F rfl rfl (qPk rfl rfl rfl rfl (qNK hK5 ?_));clear hK5;clear F a;intro a F;refine cIfT F rfl ?_;refine cSR fun K8 hK8=>?_;refine sCall call12 F rfl rfl rfl (awake8_any _ (hN.own H) (hT.own H)) ?_;rintro e w ⟨rfl, hb⟩;replace H := H.grow hb; clear hb;refine ⟨_, rfl, ?_⟩;clear F a; intro a F;refine sAs F rfl rfl rfl (qNK hK8 ?_);clear hK8;clear F a;intro a F;refine wp_ret ?_;simp only [Exit.then];refine bRet results3 F rfl ?_
   exact ⟨rfl, H.below⟩
  refine sMv F rfl rfl rfl (qPk rfl rfl rfl rfl (qNK hK5 ?_));clear hK5;clear F a;intro a F
  refine cIf F rfl (fun h41 => ?_) (fun h41 => ?_)
  ·
   refine cSR fun K9 hK9=>?_;refine sCall call12 F rfl rfl rfl (awake8_any _ (hN.own H) (hT.own H)) ?_;rintro e w ⟨rfl, hb⟩;replace H := H.grow hb; clear hb;refine ⟨_, rfl, ?_⟩;clear F a; intro a F;refine sAs F rfl rfl rfl (qNK hK9 ?_);clear hK9;clear F a;intro a F;refine wp_ret ?_;simp only [Exit.then];refine bRet results3 F rfl ?_
   exact ⟨rfl, H.below⟩
  have hl := ok_of (l := l) (reads := v1) (by omega)
  obtain ⟨z1, hz1⟩ := done_of hl (reads := v1) (by omega) h39
  obtain ⟨z2, hz2⟩ := done_of hl (reads := v2) (by omega) h41
  have hp1 : qp.path = runPath z1 := by rw [hqp, hz1.fol]
  have hp2 : qq.path = runPath z2 := by rw [hqq, hz2.fol]
  have hfr : z1 = z2 ∨ Part8 qp.path.evs qq.path.evs := by rw [hp1, hp2]; exact front hz1.path hz2.path
  have hS2 := hqs
  have hS3 := hqqs
  simp only [smallP, Bool.and_eq_true, decide_eq_true_eq] at hS2 hS3
  have hpl := hS2.1.1.1
  have hql := hS3.1.1.1
  refine wp_skip (hK4 _ _ ?_);clear hK4;refine cSeq (fun K10 hK10 => ?_);refine cSR fun K11 hK11=>sAs F rfl rfl rfl (qNK hK11 ?_);clear hK11;clear F a;intro a F;refine wp_block ?_
  refine cLoopR [7, 10] (fun m ups w => ∃ i : Nat, m = qp.path.evs.length - i ∧ ups = [(13, .int .i64 ((i : Nat) : Int))] ∧ i ≤ qp.path.evs.length ∧ (∀ j, j < i → qp.path.evs[j]? = qq.path.evs[j]?) ∧ Own w0 none w (.blk b10 qq.cells 28 :: (qq.res ++ (.blk b7 qp.cells 28 :: qp.res)))) F (qp.path.evs.length) [(13, .int .i64 ((0 : Nat) : Int))] (by repeat (first | exact SubR.nil | (apply SubR.cons; · rfl))) ?_ ?_ ?_
  · exact ⟨0, rfl, rfl, by omega, fun j hj => by omega, H.sel [0, 1, 2, 3, 4, 5, 6, 7, 8, 9] rfl rfl⟩
  · repeat (first | exact trivial | refine Le.cons rfl ?_)
  clear F
  clear H
  intro m ups a w hI F
  obtain ⟨i, rfl, rfl, hi, hsm, H⟩ := hI
  refine cSeq (fun K12 hK12 => ?_);refine cSR fun K13 hK13=>sMv F rfl rfl rfl (qFa (f := 0) (k := 0) underlying28 rfl sizeOf24 rfl rfl rfl rfl rfl (qLd isAgg24 rfl rfl rfl (H.cell 5 rfl rfl) (qLen underlying24 rfl rfl rfl (qBin rfl rfl rfl rfl bLss (qMv rfl rfl rfl ?_)))));clear F a;intro a F
  refine F.split 48 rfl ?_ ?_ <;> (clear F; intro h48 F)
  ·
   replace h48 := of_decide_eq_true h48;refine sMv F rfl rfl rfl (qFa (f := 0) (k := 0) underlying28 rfl sizeOf24 rfl rfl rfl rfl rfl (qLd isAgg24 rfl rfl rfl (H.cell 0 rfl rfl) (qLen underlying24 rfl rfl rfl (qBin rfl rfl rfl rfl bLss (qPk rfl rfl rfl rfl (qNK hK13 ?_))))));clear hK13;clear F a;intro a F
   refine cIf F rfl (fun h54 => ?_) (fun h54 => ?_)
   ·
    replace h54 := of_decide_eq_true h54
    have hip : i < qp.path.evs.length := by omega
    have hiq : i < qq.path.evs.length := by omega
    obtain ⟨x, hx⟩ : ∃ x, qp.path.evs[i]? = some x := ⟨_, List.getElem?_eq_getElem hip⟩
    obtain ⟨y, hy⟩ : ∃ y, qq.path.evs[i]? = some y := ⟨_, List.getElem?_eq_getElem hiq⟩
    obtain ⟨bE, oE, hA1, hRE⟩ := H.rowsAt 6 rfl ev7 (by omega) i _ (evAt hx)
    obtain ⟨bF, oF, hB1, hRF⟩ := H.rowsAt 1 rfl ev7 (by omega) i _ (evAt hy)
    refine wp_skip (hK12 _ _ ?_);clear hK12;refine cSeq (fun K14 hK14 => ?_);refine wp_block ?_;refine cSeq (fun K15 hK15 => ?_);refine cRegRO (by kernel_rfl) H ?_;replace H := H.drew;refine eTF 0 rfl (by kernel_rfl) F rfl rfl rfl (fun w=>rFa (f := 0) (k := 0) underlying28 rfl sizeOf24 rfl rfl F rfl) H qq0 ?_;clear F a;intro a F;refine eTake (k := 1) (i := 1) rfl (by kernel_rfl) F rfl rfl rfl rfl (fun w H => rLd isAgg24 F rfl (show World.cell? _ ⟨b7, 0, none⟩ = some (.slice (some ⟨bE, oE, none⟩) qp.path.evs.length qp.c1) by rw [← hA1]; exact H.cell 5 rfl rfl)) H (fun _ _ _ h => h) ?_;clear F a;intro a F;refine eTF 2 rfl (by kernel_rfl) F rfl rfl rfl (fun w=>rMv F rfl) H qq0 ?_;clear F a;intro a F
    refine eTakeF (k := 3) (i := 3) rfl (by kernel_rfl) F rfl rfl rfl (fun w => rIx underlying24 sizeOf34 F rfl rfl ?_) H (fun _ _ _ h => h) ?_
    focus exact hip
    clear F a; intro a F
    refine eTake (k := 4) (i := 4) rfl (by kernel_rfl) F rfl rfl rfl rfl (fun w H => rLr underlying34 rfl ?si F rfl (own_rowAt H 6 rfl ev7 (by omega) hA1 (evAt hx))) H (fun _ _ _ h => h) ?_
    case si => exact info_size sizeOf34
    clear F a; intro a F;refine eTF 5 rfl (by kernel_rfl) F rfl rfl rfl (fun w=>rFa (f := 0) (k := 0) underlying28 rfl sizeOf24 rfl rfl F rfl) H qq0 ?_;clear F a;intro a F;refine eTake (k := 6) (i := 6) rfl (by kernel_rfl) F rfl rfl rfl rfl (fun w H => rLd isAgg24 F rfl (show World.cell? _ ⟨b10, 0, none⟩ = some (.slice (some ⟨bF, oF, none⟩) qq.path.evs.length qq.c1) by rw [← hB1]; exact H.cell 0 rfl rfl)) H (fun _ _ _ h => h) ?_;clear F a;intro a F;refine eTF 7 rfl (by kernel_rfl) F rfl rfl rfl (fun w=>rMv F rfl) H qq0 ?_;clear F a;intro a F
    refine eTakeF (k := 8) (i := 8) rfl (by kernel_rfl) F rfl rfl rfl (fun w => rIx underlying24 sizeOf34 F rfl rfl ?_) H (fun _ _ _ h => h) ?_
    focus exact hiq
    clear F a; intro a F
    refine eTake (k := 9) (i := 9) rfl (by kernel_rfl) F rfl rfl rfl rfl (fun w H => rLr underlying34 rfl ?si F rfl (own_rowAt H 1 rfl ev7 (by omega) hB1 (evAt hy))) H (fun _ _ _ h => h) ?_
    case si => exact info_size sizeOf34
    clear F a; intro a F
    refine eJoin F H [7, 10, 13, 61, 66] 12 [true, true, true, true, true, true, true, true, true, true, true, true, false, false] (fun rs ups w => ∃ b14 b15, ups = [(14, .pointer (some ⟨b14, 0, none⟩)), (15, .pointer (some ⟨b15, 0, none⟩))] ∧ Own w0 none w ((.blk b14 zEv.cells 34) :: (.blk b15 zEv.cells 34) :: rs)) (by repeat (first | exact SubR.nil | (apply SubR.cons; · rfl))) ?_ (fun hJ => ?_)
    rotate_left
    ·
     refine eTwo (k := 10) (i := 10) (j := 11) (by kernel_rfl) F rfl rfl rfl rfl ?_ ?_
     ·
      refine oAl H zeroValue34 F rfl ?_;clear F a H; intro b14 a w F H;refine eKeep H.tail ?_;refine eOne (k := 11) (i := 11) rfl (by kernel_rfl) F rfl (oAl H zeroValue34 F rfl ?_);clear F a H; intro b15 a w F H;refine eKeep H.tail.tail ?_
      exact eGo hJ (by kernel_rfl) _ ⟨b14, b15, rfl, H.sel [1, 0, 2, 3, 4, 5, 6, 7, 8, 9, 10, 11] rfl rfl⟩ (F.to (by repeat (first | exact trivial | refine Le.cons rfl ?_)))
     refine oAl H zeroValue34 F rfl ?_;clear F a H; intro b15 a w F H;refine eKeep H.tail ?_;refine eOne (k := 11) (i := 10) rfl (by kernel_rfl) F rfl (oAl H zeroValue34 F rfl ?_);clear F a H; intro b14 a w F H;refine eKeep H.tail.tail ?_
     exact eGo hJ (by kernel_rfl) _ ⟨b14, b15, rfl, H.sel [0, 1, 2, 3, 4, 5, 6, 7, 8, 9, 10, 11] rfl rfl⟩ (F.to (by repeat (first | exact trivial | refine Le.cons rfl ?_)))
    clear F H; intro ups a w hI F
    obtain ⟨b14, b15, rfl, H⟩ := hI
    refine eOne (k := 12) (i := 12) rfl (by kernel_rfl) F rfl (oSr H 0 ?si F rfl rfl ?s1 rfl rfl ?_)
    case si => exact info_size sizeOf34
    case s1 => first | rfl | (repeat (first | exact one_nil | (apply one_cons; · first | rfl | assumption | exact one_bif rfl rfl)))
    clear H; intro w H;refine eKeep H.tail.tail ?_
    refine eOne (k := 13) (i := 13) rfl (by kernel_rfl) F rfl (oSr H 1 ?si F rfl rfl ?s1 rfl rfl ?_)
    case si => exact info_size sizeOf34
    case s1 => first | rfl | (repeat (first | exact one_nil | (apply one_cons; · first | rfl | assumption | exact one_bif rfl rfl)))
    clear H; intro w H;refine ePartO (by kernel_rfl) H ?_;refine eNil (k := 14) (by kernel_rfl) ?_;refine hK15 _ _ ?_;clear hK15;refine cSeq (fun K16 hK16 => ?_);refine cSR fun K17 hK17=>?_
    refine sLr underlying34 rfl ?si F rfl rfl rfl (show World.rangeAt _ b14 0 x.cells from H.whole 0 rfl) ?_
    case si => exact info_size sizeOf34
    clear F a; intro a F
    refine sLr underlying34 rfl ?si F rfl rfl rfl (show World.rangeAt _ b15 0 y.cells from H.whole 1 rfl) ?_
    case si => exact info_size sizeOf34
    clear F a; intro a F;refine sBin F rfl rfl rfl rfl bEqEv (qNK hK17 ?_);clear hK17;clear F a;intro a F
    refine cIf F rfl (fun h69 => ?_) (fun h69 => ?_)
    ·
     refine wp_exit ?_;refine hK14 _ _ (cReg (sMv F rfl rfl rfl ?_));clear hK14;clear F a;intro a F
     refine sBin F rfl rfl rfl rfl (bAddN (j := 1) ?_) ?_
     focus omega
     clear F a; intro a F;refine sAs F rfl rfl rfl ?_;clear F a;intro a F;refine sNil ?_
     have hxy := eqEv_iff.1 h69
     refine ⟨_, ?_, _, ⟨i + 1, rfl, rfl, by omega, fun j hj => ?_, H.sel [2, 3, 4, 5, 6, 7, 8, 9, 10, 11] rfl rfl⟩, F.to (by repeat (first | exact trivial | refine Le.cons rfl ?_))⟩
     · omega
     rcases Nat.lt_or_ge j i with h | h
     · exact hsm j h
     · obtain rfl : j = i := by omega
       rw [hx, hy, hxy]
    have hne : x ≠ y := fun e => by rw [eqEv_iff.2 e] at h69; cases h69
    obtain ⟨hk1, hk2, hlo, hin, hva⟩ : x.kind = 1 ∧ y.kind = 1 ∧ x.loc = y.loc ∧ x.ins = y.ins ∧ x.val ≠ y.val := by
      rcases hfr with h | h
      · have hpp : qp.path = qq.path := by rw [hp1, hp2, h]
        rw [hpp] at hx
        exact absurd (Option.some.inj (hx.symm.trans hy)) hne
      · exact part_at h hsm hx hy hne
    refine wp_skip (hK16 _ _ (cSR fun K18 hK18=>sFa (f := 1) (k := 1) underlying34 rfl sizeOf5 rfl rfl F rfl rfl rfl (qLd isAgg5 rfl rfl rfl (H.cell 0 rfl rfl) (qBin rfl rfl rfl rfl (bEqlB (y := 1)) (qMv rfl rfl rfl ?_)))));clear hK16;clear F a;intro a F
    refine F.split 73 rfl ?_ ?_ <;> (clear F; intro h73 F)
    ·
     replace h73 := beqT h73;refine sFa (f := 1) (k := 1) underlying34 rfl sizeOf5 rfl rfl F rfl rfl rfl (qLd isAgg5 rfl rfl rfl (H.cell 1 rfl rfl) (qBin rfl rfl rfl rfl (bEqlB (y := 1)) (qPk rfl rfl rfl rfl (qMv rfl rfl rfl ?_))));clear F a;intro a F
     refine F.split 78 rfl ?_ ?_ <;> (clear F; intro h78 F)
     ·
      replace h78 := beqT h78;refine sFa (f := 2) (k := 2) underlying34 rfl sizeOf5 rfl rfl F rfl rfl rfl (qLd isAgg5 rfl rfl rfl (H.cell 0 rfl rfl) (qFa (f := 2) (k := 2) underlying34 rfl sizeOf5 rfl rfl rfl rfl rfl (qLd isAgg5 rfl rfl rfl (H.cell 1 rfl rfl) (qBin rfl rfl rfl rfl bEqlB (qPk rfl rfl rfl rfl (qMv rfl rfl rfl ?_))))));clear F a;intro a F
      refine F.split 85 rfl ?_ ?_ <;> (clear F; intro h85 F)
      ·
       replace h85 := beqT h85;refine sFa (f := 5) (k := 5) underlying34 rfl sizeOf5 rfl rfl F rfl rfl rfl (qLd isAgg5 rfl rfl rfl (H.cell 0 rfl rfl) (qFa (f := 5) (k := 5) underlying34 rfl sizeOf5 rfl rfl rfl rfl rfl (qLd isAgg5 rfl rfl rfl (H.cell 1 rfl rfl) (qBin rfl rfl rfl rfl bEqlB (qPk rfl rfl rfl rfl (qMv rfl rfl rfl ?_))))));clear F a;intro a F
       refine F.split 92 rfl ?_ ?_ <;> (clear F; intro h92 F)
       ·
        replace h92 := beqT h92;refine sFa (f := 3) (k := 3) underlying34 rfl sizeOf5 rfl rfl F rfl rfl rfl (qLd isAgg5 rfl rfl rfl (H.cell 0 rfl rfl) (qFa (f := 3) (k := 3) underlying34 rfl sizeOf5 rfl rfl rfl rfl rfl (qLd isAgg5 rfl rfl rfl (H.cell 1 rfl rfl) (qBin rfl rfl rfl rfl bNeqB (qPk rfl rfl rfl rfl (qMv rfl rfl rfl ?_))))));clear F a;intro a F
        refine F.split 99 rfl ?_ ?_ <;> (clear F; intro h99 F)
        ·
         replace h99 := bneT h99;refine sCall call12 F rfl rfl rfl (awake8_any _ (hN.own H) (hT.own H)) ?_;rintro e w ⟨rfl, hb⟩;replace H := H.grow hb; clear hb;refine ⟨_, rfl, ?_⟩;clear F a; intro a F;refine sPk F rfl rfl rfl rfl (qAs rfl rfl rfl (qNK hK18 ?_));clear hK18;clear F a;intro a F;refine wp_ret ?_;simp only [Exit.inBlock, Exit.then];refine bRet results3 F rfl ?_
         exact ⟨rfl, H.below⟩
        replace h99 := bneF h99
        exact (hva h99).elim
       replace h92 := beqF h92
       exact (h92 hin).elim
      replace h85 := beqF h85
      exact (h85 hlo).elim
     replace h78 := beqF h78
     exact (h78 hk2).elim
    replace h73 := beqF h73
    exact (h73 hk1).elim
   replace h54 := of_decide_eq_false h54
   have hzz : z1 = z2 := hfr.resolve_right (fun h => part_end h hsm (by omega))
   have hpp : qp.path = qq.path := by rw [hp1, hp2, hzz]
   refine wp_exit ?_;refine hK10 _ _ (cSR fun K19 hK19=>sFa (f := 0) (k := 0) underlying28 rfl sizeOf24 rfl rfl F rfl rfl rfl (qLd isAgg24 rfl rfl rfl (H.cell 5 rfl rfl) (qLen underlying24 rfl rfl rfl (qFa (f := 0) (k := 0) underlying28 rfl sizeOf24 rfl rfl rfl rfl rfl (qLd isAgg24 rfl rfl rfl (H.cell 0 rfl rfl) (qLen underlying24 rfl rfl rfl (qBin rfl rfl rfl rfl bEql (qMv rfl rfl rfl ?_))))))));clear hK10;clear F a;intro a F
   refine F.split 109 rfl ?_ ?_ <;> (clear F; intro h109 F)
   ·
    replace h109 := beqT h109
    refine sLr underlying28 rfl ?si F rfl rfl rfl (H.whole 5 rfl) ?_
    case si => exact info_size sizeOf28
    clear F a; intro a F
    refine sLr underlying28 rfl ?si F rfl rfl rfl (H.whole 0 rfl) ?_
    case si => exact info_size sizeOf28
    clear F a; intro a F;refine sCall call13 F rfl rfl rfl (Same_any qp qq _ (small_at (H.sel [6, 7, 8, 9] rfl rfl) hqs) (small_at (H.sel [1, 2, 3, 4] rfl rfl) hqqs)) ?_;rintro e w ⟨rfl, hb⟩;replace H := H.grow hb; clear hb;refine ⟨_, rfl, ?_⟩;clear F a; intro a F;refine sPk F rfl rfl rfl rfl (qMv rfl rfl rfl ?_);clear F a;intro a F
    refine F.split 114 rfl ?_ ?_ <;> (clear F; intro h114 F)
    ·
     refine sCall call12 F rfl rfl rfl (awake8_any _ (hN.own H) (hT.own H)) ?_;rintro e w ⟨rfl, hb⟩;replace H := H.grow hb; clear hb;refine ⟨_, rfl, ?_⟩;clear F a; intro a F;refine sPk F rfl rfl rfl rfl (qAs rfl rfl rfl (qNK hK19 ?_));clear hK19;clear F a;intro a F;refine wp_ret ?_;refine bRet results3 F rfl ?_
     exact ⟨rfl, H.below⟩
    exact notEq8 (by rw [hpp]; exact same_self _) h114
   replace h109 := beqF h109
   exact (h109 (by rw [hpp])).elim
  replace h48 := of_decide_eq_false h48
  have hzz : z1 = z2 := hfr.resolve_right (fun h => part_end h hsm (by omega))
  have hpp : qp.path = qq.path := by rw [hp1, hp2, hzz]
  refine sSk F rfl rfl (qSk rfl rfl (qSk rfl rfl (qSk rfl rfl (qSk rfl rfl (qPk rfl rfl rfl rfl (qNK hK13 ?_))))));clear hK13;clear F a;intro a F;refine cIfF F rfl ?_;refine wp_exit ?_;refine hK10 _ _ (cSR fun K20 hK20=>sFa (f := 0) (k := 0) underlying28 rfl sizeOf24 rfl rfl F rfl rfl rfl (qLd isAgg24 rfl rfl rfl (H.cell 5 rfl rfl) (qLen underlying24 rfl rfl rfl (qFa (f := 0) (k := 0) underlying28 rfl sizeOf24 rfl rfl rfl rfl rfl (qLd isAgg24 rfl rfl rfl (H.cell 0 rfl rfl) (qLen underlying24 rfl rfl rfl (qBin rfl rfl rfl rfl bEql (qMv rfl rfl rfl ?_))))))));clear hK10;clear F a;intro a F
  refine F.split 109 rfl ?_ ?_ <;> (clear F; intro h109 F)
  ·
   replace h109 := beqT h109
   refine sLr underlying28 rfl ?si F rfl rfl rfl (H.whole 5 rfl) ?_
   case si => exact info_size sizeOf28
   clear F a; intro a F
   refine sLr underlying28 rfl ?si F rfl rfl rfl (H.whole 0 rfl) ?_
   case si => exact info_size sizeOf28
   clear F a; intro a F;refine sCall call13 F rfl rfl rfl (Same_any qp qq _ (small_at (H.sel [6, 7, 8, 9] rfl rfl) hqs) (small_at (H.sel [1, 2, 3, 4] rfl rfl) hqqs)) ?_;rintro e w ⟨rfl, hb⟩;replace H := H.grow hb; clear hb;refine ⟨_, rfl, ?_⟩;clear F a; intro a F;refine sPk F rfl rfl rfl rfl (qMv rfl rfl rfl ?_);clear F a;intro a F
   refine F.split 114 rfl ?_ ?_ <;> (clear F; intro h114 F)
   ·
    refine sCall call12 F rfl rfl rfl (awake8_any _ (hN.own H) (hT.own H)) ?_;rintro e w ⟨rfl, hb⟩;replace H := H.grow hb; clear hb;refine ⟨_, rfl, ?_⟩;clear F a; intro a F;refine sPk F rfl rfl rfl rfl (qAs rfl rfl rfl (qNK hK20 ?_));clear hK20;clear F a;intro a F;refine wp_ret ?_;refine bRet results3 F rfl ?_
    exact ⟨rfl, H.below⟩
   exact notEq8 (by rw [hpp]; exact same_self _) h114
  replace h109 := beqF h109
  exact (h109 (by rw [hpp])).elim
end Go.Proofs.YtklpiodciblabaaGreatDoor
