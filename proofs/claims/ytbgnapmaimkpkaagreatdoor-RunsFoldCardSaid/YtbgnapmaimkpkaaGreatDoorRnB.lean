/-
  WALK2. Package runs: states, Count, Reached. Conditions: the program lies in memory; block 0 holds the table of needs.
-/
import Derived.Test.YtbgnapmaimkpkaaGreatDoorRnA
import Derived.Test.YtbgnapmaimkpkaaGreatDoorBfW1
set_option linter.unusedSimpArgs false
set_option linter.unusedVariables false
namespace Go.Proofs.YtbgnapmaimkpkaaGreatDoor
open Go.Proofs.Tryz
open Go.RowKit
set_option maxRecDepth 100000
def plainPr (p : Prg) : Prg := { p with name := ⟨#[97]⟩, ask := 1, cond := .mk 0 0 0 0 [] }
theorem plain_movesN (p : Prg) (m : UInt8) (s : By) : ∀ n, movesN (plainPr p) m s n = movesN p m s n
  | 0 => rfl
  | n + 1 => by rw [movesN, movesN, plain_movesN p m s n]; rfl
theorem plain_movesM (p : Prg) (m : UInt8) (s : By) : movesM (plainPr p) m s = movesM p m s := plain_movesN p m s _
theorem plain_visit (p : Prg) (m : UInt8) (most k : Nat) (s : By) : ∀ r l q, visitR (plainPr p) m most k s r l q = visitR p m most k s r l q
  | [], _, _ => rfl
  | x :: r, l, q => by
    rw [visitR, visitR, plain_visit p m most k s r, plain_visit p m most k s r]
    rfl
theorem plain_search (p : Prg) (m : UInt8) (most : Nat) : ∀ f k a, searchR (plainPr p) m most f k a = searchR p m most f k a
  | 0, _, _ => rfl
  | f + 1, k, a => by
    rw [searchR, searchR]
    cases a.list[k]? with
    | none => rfl
    | some s =>
      simp only [plain_movesM, plain_visit]
      cases visitR p m most k s (movesM p m s) a.list a.links with
      | none => rfl
      | some lq => exact plain_search p m most f (k + 1) _
theorem plain_reach (p : Prg) (m : UInt8) (most : Nat) : reachR (plainPr p) m most = reachR p m most := plain_search p m most _ _ _
theorem demands_right {p : Prg} (h : ∀ i, i < 6 → demandK p i = true) : rightErr p = 0 := by
  unfold rightErr
  simp [rightFrom, h]
theorem a_word : oneWord ⟨#[97]⟩ = true := by kernel_rfl
theorem plain_right {p : Prg} (h : rightErr p = 0) : rightErr (plainPr p) = 0 := demands_right fun i hi => by
  have h1 := right_demand h 1 (by omega)
  have h2 := right_demand h 2 (by omega)
  have h3 := right_demand h 3 (by omega)
  rcases (by omega : i = 0 ∨ i = 1 ∨ i = 2 ∨ i = 3 ∨ i = 4 ∨ i = 5) with e | e | e | e | e | e <;> rw [e]
  · rw [demandK]; exact a_word
  · rw [demandK] at h1 ⊢; exact h1
  · rw [demandK] at h2 ⊢; exact h2
  · rw [demandK] at h3 ⊢; exact h3
  · rw [demandK]; rfl
  · rw [demandK]; rfl
def statesC (p : Prg) (m : UInt8) (n : Int) : Prop := knownM m = true ∧ 1 ≤ n ∧ n ≤ 65536 ∧ rightErr p = 0
instance (p : Prg) (m : UInt8) (n : Int) : Decidable (statesC p m n) := by unfold statesC; infer_instance
def statesR (p : Prg) (m : UInt8) (n : Int) : Option Fnd := if statesC p m n then reachR p m n.toNat else none
def statesE (p : Prg) (m : UInt8) (n : Int) : Int := if statesC p m n then (if (reachR p m n.toNat).isSome = true then 0 else 5) else 2
theorem states_bad {p : Prg} {m : UInt8} {n : Int} (h : ¬ statesC p m n) {w0 w : World} {rs : List Res} (H : Own w0 none w rs) : ExpOut (statesR p m n) (.int .i64 (statesE p m n)) w0 (.returned (.tuple #[.agg #[.slice none 0 0, .slice none 0 0, .slice none 0 0], .int .i64 2])) w := by
  rw [statesR, statesE, if_neg h, if_neg h]
  exact exp_none H
theorem grownOwn {w w' : World} (hg : w.grownBy w' none) : Own w none w' [] := ⟨hg, fun i r h => by simp at h, fun i r h => by simp at h, fun i j r s h => by simp at h⟩
theorem clos1_any (p : Prg) (mc : UInt8) (b3 b4 : Nat) (c0 c1 c2 c3 c4 c5 c6 c7 c8 c9 : Value) (w0 : World) (h3 : w0.rangeAt b3 0 [c0, c1, c2, c3, c4, c5, c6, c7, c8, c9]) (h4 : w0.rangeAt b4 0 [Go.Proofs.YtbgnapmaimkpkaaGreatDoor.b8 mc]) (hP : ProgAt w0 [c0, c1, c2, c3, c4, c5, c6, c7, c8, c9] p) (hN : NeedsAt w0) (s : By) (hF : Fine p mc s) :
    CallsF Tryz.prog (.func (.func 95) #[] #[.pointer (some ⟨b3, 0, none⟩), .pointer (some ⟨b4, 0, none⟩)]) [.agg (bs 142 s).toArray] w0 (fun e w' => ∃ A c, e = .returned (.slice A (movesM p mc s).length c) ∧ Own w0 none w' [.rws 86 3 (.slice A (movesM p mc s).length c) ((movesM p mc s).map Pss.cells)]) := by
  refine ⟨_, [], [.pointer (some ⟨b3, 0, none⟩), .pointer (some ⟨b4, 0, none⟩)], rfl, call95, ?_⟩
  have H := Own.start w0 none
  have eR : movesR p mc s = movesM p mc s := movesR_eq hF.r
  refine enterF func95 rfl ntmps95 rfl (fun a F => ?_);refine cSR fun K1 hK1=>?_;refine sBxB H F rfl rfl rfl ?_;clear F a H; intro b3 a w F H;refine sAs F rfl rfl rfl (qNK hK1 (qSR fun K2 hK2=>?_));clear hK1;clear F a;intro a F
  refine sLr underlying29 rfl ?si F rfl rfl rfl (H.argR (subR h3 0 10)) ?_
  case si => exact info_size sizeOf29
  clear F a; intro a F;refine sLd isAgg5 F rfl rfl rfl (H.arg (h4 0 _ rfl)) (qLrB underlying70 rfl sizeOf70 rfl rfl rfl (H.whole 0 rfl) ?_);clear F a;intro a F;refine sCall call27 F rfl rfl rfl ((by have := movesR_any _ p _ (hP.own H) (hN.own H) mc s; rw [eR] at this; exact this)) ?_;rintro e w ⟨A, c, rfl, H2⟩;replace H := H.join H2; clear H2;refine ⟨_, rfl, ?_⟩;clear F a; intro a F;refine sAs F rfl rfl rfl (qNK hK2 ?_);clear hK2;clear F a;intro a F;refine wp_ret ?_;refine bRet results95 F rfl ?_
  exact ⟨A, c, rfl, H.pick 0 rfl⟩
theorem clos2_any (p : Prg) (mc : UInt8) (b3 b4 : Nat) (c0 c1 c2 c3 c4 c5 c6 c7 c8 c9 : Value) (w0 : World) (h3 : w0.rangeAt b3 0 [c0, c1, c2, c3, c4, c5, c6, c7, c8, c9]) (h4 : w0.rangeAt b4 0 [Go.Proofs.YtbgnapmaimkpkaaGreatDoor.b8 mc]) (hP : ProgAt w0 [c0, c1, c2, c3, c4, c5, c6, c7, c8, c9] p) (hN : NeedsAt w0) (s : By) (x : Pss) (hF : Fine p mc s) (hx : x ∈ movesM p mc s) :
    CallsF Tryz.prog (.func (.func 96) #[] #[.pointer (some ⟨b3, 0, none⟩), .pointer (some ⟨b4, 0, none⟩)]) [.agg (bs 142 s).toArray, .agg x.cells.toArray] w0 (fun e w' => e = .returned (.agg (bs 142 (stepM p mc s x)).toArray) ∧ Below w0.heap.size w0 w') := by
  refine ⟨_, [], [.pointer (some ⟨b3, 0, none⟩), .pointer (some ⟨b4, 0, none⟩)], rfl, call96, ?_⟩
  have H := Own.start w0 none
  have hxr : x ∈ movesR p mc s := by rw [movesR_eq hF.r]; exact hx
  have eS : moveSM p mc s x = stepM p mc s x := if_pos hxr
  refine enterF func96 rfl ntmps96 rfl (fun a F => ?_);refine cSR fun K1 hK1=>?_;refine sBxB H F rfl rfl rfl ?_;clear F a H; intro b4 a w F H;refine sBx H F rfl rfl rfl ?_;clear F a H; intro b5 a w F H;refine sAlB H zB70 F rfl rfl ?_;clear F a H; intro b6 a w F H;refine nK hK1 (cSR fun K2 hK2=>?_);clear hK1
  refine sLr underlying29 rfl ?si F rfl rfl rfl (H.argR (subR h3 0 10)) ?_
  case si => exact info_size sizeOf29
  clear F a; intro a F;refine sLd isAgg5 F rfl rfl rfl (H.arg (h4 0 _ rfl)) (qLrB underlying70 rfl sizeOf70 rfl rfl rfl (H.whole 2 rfl) ?_);clear F a;intro a F
  refine sLr underlying86 rfl ?si F rfl rfl rfl (H.whole 1 rfl) ?_
  case si => exact info_size sizeOf86
  clear F a; intro a F;refine sCall call28 F rfl rfl rfl ((by have := moveM_any _ p _ (hP.own H) (hN.own H) mc s x; rw [eS] at this; exact this)) ?_;rintro e w ⟨rfl, hb⟩;replace H := H.grow hb; clear hb;refine ⟨_, rfl, ?_⟩;clear F a; intro a F;refine sMv F rfl rfl rfl (qExt rfl rfl rfl rfl (qExt rfl rfl rfl rfl ?_));clear F a;intro a F;refine sAlB H zB70 F rfl rfl ?_;clear F a H; intro b7 a w F H;refine sSrB H 0 sizeOf70 F rfl rfl rfl rfl (by omega) ?_;clear H; intro w H;rw [lay_all] at H;refine sAs F rfl rfl rfl (qNK hK2 (qSR fun K3 hK3=>qLrB underlying70 rfl sizeOf70 rfl rfl rfl (H.whole 0 rfl) ?_));clear hK2;clear F a;intro a F;refine sSrB H 1 sizeOf70 F rfl rfl rfl rfl (by omega) ?_;clear H; intro w H;rw [lay_all] at H;refine nK hK3 ?_;clear hK3;refine wp_ret ?_;refine bRetB results96 F rfl underlying70 rfl sizeOf70 H 1 rfl ?_
  exact ⟨rfl, H.below⟩
theorem states_any (cs : List Value) (p : Prg) (w0 : World) (hP : ProgAt w0 cs p) (hN : NeedsAt w0) (mc : UInt8) (n : Int) (hlo : -9223372036854775808 ≤ n) (hhi : n ≤ 9223372036854775807) :
    Calls Tryz.prog 46 #[.agg cs.toArray, Go.Proofs.YtbgnapmaimkpkaaGreatDoor.b8 mc, .int .i64 n] w0 fun e w' => ExpOut (statesR p mc n) (.int .i64 (statesE p mc n)) w0 e w' := by
  have H := Own.start w0 none
  have hP0 := hP
  obtain ⟨LA, LC, IA, IC, TA, TC, h, ccs, hp⟩ := hP
  obtain ⟨c1, c2, c3, c4, c5, rfl⟩ := len5 (condAt_len hp.cond)
  have hcs := hp.cs
  subst hcs
  have hkn : knownM mc = true ↔ (1 : UInt8) ≤ mc ∧ mc ≤ 3 := by unfold knownM; simp
  refine enterF func46 rfl ntmps46 rfl (fun a F => ?_);refine cSR fun K1 hK1=>?_;refine sBx H F rfl rfl rfl ?_;clear F a H; intro b3 a w F H;refine sBx H F rfl rfl rfl ?_;clear F a H; intro b4 a w F H;refine sAl H zeroValue113 F rfl rfl ?_;clear F a H; intro b6 a w F H;refine sAs F rfl rfl rfl (qNK hK1 (qSR fun K2 hK2=>?_));clear hK1;clear F a;intro a F;refine sAl H zeroValue113 F rfl rfl ?_;clear F a H; intro b8 a w F H;refine nK hK2 ?_;clear hK2;refine cSeq (fun K3 hK3 => ?_);refine cSR fun K4 hK4=>sLd isAgg5 F rfl rfl rfl (H.cell 2 rfl rfl) (qBin rfl rfl rfl rfl (bLssB (y := 1)) (qMv rfl rfl rfl ?_));clear F a;intro a F
  refine F.split 15 rfl ?_ ?_ <;> (clear F; intro h15 F)
  ·
   replace h15 := of_decide_eq_true h15;refine sSk F rfl rfl (qSk rfl rfl (qPk rfl rfl rfl rfl (qMv rfl rfl rfl (qSk rfl rfl (qSk rfl rfl (qPk rfl rfl rfl rfl (qMv rfl rfl rfl (qSk rfl rfl (qSk rfl rfl (qPk rfl rfl rfl rfl (qNK hK4 ?_)))))))))));clear hK4;clear F a;intro a F;refine cIfT F rfl ?_;refine cSR fun K5 hK5=>?_
   refine sLr underlying113 rfl ?si F rfl rfl rfl (H.whole 0 rfl) ?_
   case si => exact info_size sizeOf113
   clear F a; intro a F
   refine sSr H 1 ?si F rfl rfl rfl ?s1 rfl rfl ?_
   case si => exact info_size sizeOf113
   case s1 => first | rfl | (repeat (first | exact one_nil | (apply one_cons; · first | rfl | assumption | exact one_bif rfl rfl)))
   clear H; intro w H;refine sAs F rfl rfl rfl (qNK hK5 ?_);clear hK5;clear F a;intro a F;refine wp_ret ?_;simp only [Exit.then];refine bRetD1 results46 F rfl rfl underlying113 rfl H 1 rfl sizeOf113 rfl ?_
   first
   | (refine states_bad ?_ H
      intro hC
      obtain ⟨q1, q2, q3, q4⟩ := hC
      have q5 := hkn.1 q1
      first
      | exact absurd h15 (UInt8.not_lt.2 q5.1)
      | exact absurd h19 (UInt8.not_lt.2 q5.2)
      | exact absurd h23 (by omega)
      | exact absurd h26 (by omega)
      | exact hv q4)
   | (simp only [plain_reach] at h50
      have e : reachR p mc n.toNat = none := Option.not_isSome_iff_eq_none.1 (by rw [h50]; simp)
      rw [statesR, statesE, if_pos hC, if_pos hC, e]
      exact exp_none H)
   | (simp only [plain_reach] at h50 H ⊢
      rw [statesR, statesE, if_pos hC, if_pos hC, if_pos h50]
      exact ⟨_, _, _, _, _, _, rfl, H.sel [0, 0, 0] rfl rfl⟩)
  replace h15 := of_decide_eq_false h15;refine sLd isAgg5 F rfl rfl rfl (H.cell 2 rfl rfl) (qBin rfl rfl rfl rfl (bGtrB (y := 3)) (qPk rfl rfl rfl rfl (qMv rfl rfl rfl ?_)));clear F a;intro a F
  refine F.split 19 rfl ?_ ?_ <;> (clear F; intro h19 F)
  ·
   replace h19 := of_decide_eq_true h19;refine sSk F rfl rfl (qSk rfl rfl (qPk rfl rfl rfl rfl (qMv rfl rfl rfl (qSk rfl rfl (qSk rfl rfl (qPk rfl rfl rfl rfl (qNK hK4 ?_)))))));clear hK4;clear F a;intro a F;refine cIfT F rfl ?_;refine cSR fun K6 hK6=>?_
   refine sLr underlying113 rfl ?si F rfl rfl rfl (H.whole 0 rfl) ?_
   case si => exact info_size sizeOf113
   clear F a; intro a F
   refine sSr H 1 ?si F rfl rfl rfl ?s1 rfl rfl ?_
   case si => exact info_size sizeOf113
   case s1 => first | rfl | (repeat (first | exact one_nil | (apply one_cons; · first | rfl | assumption | exact one_bif rfl rfl)))
   clear H; intro w H;refine sAs F rfl rfl rfl (qNK hK6 ?_);clear hK6;clear F a;intro a F;refine wp_ret ?_;simp only [Exit.then];refine bRetD1 results46 F rfl rfl underlying113 rfl H 1 rfl sizeOf113 rfl ?_
   first
   | (refine states_bad ?_ H
      intro hC
      obtain ⟨q1, q2, q3, q4⟩ := hC
      have q5 := hkn.1 q1
      first
      | exact absurd h15 (UInt8.not_lt.2 q5.1)
      | exact absurd h19 (UInt8.not_lt.2 q5.2)
      | exact absurd h23 (by omega)
      | exact absurd h26 (by omega)
      | exact hv q4)
   | (simp only [plain_reach] at h50
      have e : reachR p mc n.toNat = none := Option.not_isSome_iff_eq_none.1 (by rw [h50]; simp)
      rw [statesR, statesE, if_pos hC, if_pos hC, e]
      exact exp_none H)
   | (simp only [plain_reach] at h50 H ⊢
      rw [statesR, statesE, if_pos hC, if_pos hC, if_pos h50]
      exact ⟨_, _, _, _, _, _, rfl, H.sel [0, 0, 0] rfl rfl⟩)
  replace h19 := of_decide_eq_false h19;refine sMv F rfl rfl rfl (qBin rfl rfl rfl rfl bLss (qPk rfl rfl rfl rfl (qMv rfl rfl rfl ?_)));clear F a;intro a F
  refine F.split 23 rfl ?_ ?_ <;> (clear F; intro h23 F)
  ·
   replace h23 := of_decide_eq_true h23;refine sSk F rfl rfl (qSk rfl rfl (qPk rfl rfl rfl rfl (qNK hK4 ?_)));clear hK4;clear F a;intro a F;refine cIfT F rfl ?_;refine cSR fun K7 hK7=>?_
   refine sLr underlying113 rfl ?si F rfl rfl rfl (H.whole 0 rfl) ?_
   case si => exact info_size sizeOf113
   clear F a; intro a F
   refine sSr H 1 ?si F rfl rfl rfl ?s1 rfl rfl ?_
   case si => exact info_size sizeOf113
   case s1 => first | rfl | (repeat (first | exact one_nil | (apply one_cons; · first | rfl | assumption | exact one_bif rfl rfl)))
   clear H; intro w H;refine sAs F rfl rfl rfl (qNK hK7 ?_);clear hK7;clear F a;intro a F;refine wp_ret ?_;simp only [Exit.then];refine bRetD1 results46 F rfl rfl underlying113 rfl H 1 rfl sizeOf113 rfl ?_
   first
   | (refine states_bad ?_ H
      intro hC
      obtain ⟨q1, q2, q3, q4⟩ := hC
      have q5 := hkn.1 q1
      first
      | exact absurd h15 (UInt8.not_lt.2 q5.1)
      | exact absurd h19 (UInt8.not_lt.2 q5.2)
      | exact absurd h23 (by omega)
      | exact absurd h26 (by omega)
      | exact hv q4)
   | (simp only [plain_reach] at h50
      have e : reachR p mc n.toNat = none := Option.not_isSome_iff_eq_none.1 (by rw [h50]; simp)
      rw [statesR, statesE, if_pos hC, if_pos hC, e]
      exact exp_none H)
   | (simp only [plain_reach] at h50 H ⊢
      rw [statesR, statesE, if_pos hC, if_pos hC, if_pos h50]
      exact ⟨_, _, _, _, _, _, rfl, H.sel [0, 0, 0] rfl rfl⟩)
  replace h23 := of_decide_eq_false h23;refine sMv F rfl rfl rfl (qBin rfl rfl rfl rfl bGtr (qPk rfl rfl rfl rfl (qNK hK4 ?_)));clear hK4;clear F a;intro a F
  refine cIf F rfl (fun h26 => ?_) (fun h26 => ?_)
  ·
   replace h26 := of_decide_eq_true h26;refine cSR fun K8 hK8=>?_
   refine sLr underlying113 rfl ?si F rfl rfl rfl (H.whole 0 rfl) ?_
   case si => exact info_size sizeOf113
   clear F a; intro a F
   refine sSr H 1 ?si F rfl rfl rfl ?s1 rfl rfl ?_
   case si => exact info_size sizeOf113
   case s1 => first | rfl | (repeat (first | exact one_nil | (apply one_cons; · first | rfl | assumption | exact one_bif rfl rfl)))
   clear H; intro w H;refine sAs F rfl rfl rfl (qNK hK8 ?_);clear hK8;clear F a;intro a F;refine wp_ret ?_;simp only [Exit.then];refine bRetD1 results46 F rfl rfl underlying113 rfl H 1 rfl sizeOf113 rfl ?_
   first
   | (refine states_bad ?_ H
      intro hC
      obtain ⟨q1, q2, q3, q4⟩ := hC
      have q5 := hkn.1 q1
      first
      | exact absurd h15 (UInt8.not_lt.2 q5.1)
      | exact absurd h19 (UInt8.not_lt.2 q5.2)
      | exact absurd h23 (by omega)
      | exact absurd h26 (by omega)
      | exact hv q4)
   | (simp only [plain_reach] at h50
      have e : reachR p mc n.toNat = none := Option.not_isSome_iff_eq_none.1 (by rw [h50]; simp)
      rw [statesR, statesE, if_pos hC, if_pos hC, e]
      exact exp_none H)
   | (simp only [plain_reach] at h50 H ⊢
      rw [statesR, statesE, if_pos hC, if_pos hC, if_pos h50]
      exact ⟨_, _, _, _, _, _, rfl, H.sel [0, 0, 0] rfl rfl⟩)
  replace h26 := of_decide_eq_false h26;refine wp_skip (hK3 _ _ (cSR fun K9 hK9=>?_));clear hK3
  refine sLr underlying29 rfl ?si F rfl rfl rfl (H.whole 3 rfl) ?_
  case si => exact info_size sizeOf29
  clear F a; intro a F;refine sCall call26 F rfl rfl rfl (start_any _ p _ (hP0.own H) (hN.own H)) ?_;rintro e w ⟨rfl, hb⟩;replace H := H.grow hb; clear hb;refine ⟨_, rfl, ?_⟩;clear F a; intro a F;refine sMv F rfl rfl rfl (qExt rfl rfl rfl rfl (qExt rfl rfl rfl rfl ?_));clear F a;intro a F;refine sAlB H zB70 F rfl rfl ?_;clear F a H; intro b9 a w F H;refine sSrB H 0 sizeOf70 F rfl rfl rfl rfl (by omega) ?_;clear H; intro w H;rw [lay_all] at H;refine sAs F rfl rfl rfl (qNK hK9 ?_);clear hK9;clear F a;intro a F;refine cSeq (fun K10 hK10 => ?_);refine cSR fun K11 hK11=>sMv F rfl rfl rfl (qBin rfl rfl rfl rfl bNeq (qNK hK11 ?_));clear hK11;clear F a;intro a F
  refine cIf F rfl (fun h34 => ?_) (fun h34 => ?_)
  ·
   replace h34 := bneT h34
   have hv : rightErr p ≠ 0 := fun h => h34 (if_pos h)
   have eE : startE p = 2 := if_neg hv
   simp only [eE] at F
   refine cSR fun K12 hK12=>?_
   refine sLr underlying113 rfl ?si F rfl rfl rfl (H.whole 1 rfl) ?_
   case si => exact info_size sizeOf113
   clear F a; intro a F;refine sMv F rfl rfl rfl ?_;clear F a;intro a F
   refine sSr H 2 ?si F rfl rfl rfl ?s1 rfl rfl ?_
   case si => exact info_size sizeOf113
   case s1 => first | rfl | (repeat (first | exact one_nil | (apply one_cons; · first | rfl | assumption | exact one_bif rfl rfl)))
   clear H; intro w H;refine sAs F rfl rfl rfl (qNK hK12 ?_);clear hK12;clear F a;intro a F;refine wp_ret ?_;simp only [Exit.then];refine bRetD1 results46 F rfl rfl underlying113 rfl H 2 rfl sizeOf113 rfl ?_
   first
   | (refine states_bad ?_ H
      intro hC
      obtain ⟨q1, q2, q3, q4⟩ := hC
      have q5 := hkn.1 q1
      first
      | exact absurd h15 (UInt8.not_lt.2 q5.1)
      | exact absurd h19 (UInt8.not_lt.2 q5.2)
      | exact absurd h23 (by omega)
      | exact absurd h26 (by omega)
      | exact hv q4)
   | (simp only [plain_reach] at h50
      have e : reachR p mc n.toNat = none := Option.not_isSome_iff_eq_none.1 (by rw [h50]; simp)
      rw [statesR, statesE, if_pos hC, if_pos hC, e]
      exact exp_none H)
   | (simp only [plain_reach] at h50 H ⊢
      rw [statesR, statesE, if_pos hC, if_pos hC, if_pos h50]
      exact ⟨_, _, _, _, _, _, rfl, H.sel [0, 0, 0] rfl rfl⟩)
  replace h34 := bneF h34
  have hv : rightErr p = 0 := by
   apply Decidable.byContradiction
   intro hh
   rw [startE, if_neg hh] at h34
   cases h34
  have hv2 := plain_right hv
  have eS : startS p = startP (plainPr p) := if_pos hv
  have hk : knownM mc = true := hkn.2 ⟨UInt8.not_lt.1 h15, UInt8.not_lt.1 h19⟩
  have hC : statesC p mc n := ⟨hk, by omega, by omega, hv⟩
  have en : ((n.toNat : Nat) : Int) = n := by omega
  rw [eS] at H;refine wp_skip (hK10 _ _ (cSR fun K13 hK13=>sBd (cs := [Go.Proofs.YtbgnapmaimkpkaaGreatDoor.b8 0, Go.Proofs.YtbgnapmaimkpkaaGreatDoor.b8 0, Go.Proofs.YtbgnapmaimkpkaaGreatDoor.b8 0, Go.Proofs.YtbgnapmaimkpkaaGreatDoor.b8 0, .slice none 0 0]) (places := [(0, 1), (1, 1), (2, 1), (3, 1), (4, 1)]) zeroValue27 underlying27 (by kernel_rfl) F rfl rfl rfl rfl (qFa (f := 0) (k := 0) underlying29 rfl sizeOf9 rfl rfl rfl rfl rfl ?_)));clear hK10;clear F a;intro a F;refine sSt H 4 sizeOf9 F rfl rfl rfl rfl rfl rfl ?_;clear H; intro w H;refine sFa (f := 4) (k := 4) underlying29 rfl sizeOf5 rfl rfl F rfl rfl rfl ?_;clear F a;intro a F;refine sSt H 4 sizeOf5 F rfl rfl rfl rfl rfl rfl ?_;clear H; intro w H;refine sFa (f := 5) (k := 5) underlying29 rfl sizeOf27 rfl rfl F rfl rfl rfl ?_;clear F a;intro a F
  refine sSr H 4 ?si F rfl rfl rfl ?s1 rfl rfl ?_
  case si => exact info_size sizeOf27
  case s1 => first | rfl | (repeat (first | exact one_nil | (apply one_cons; · first | rfl | assumption | exact one_bif rfl rfl)))
  clear H; intro w H;refine nK hK13 (cSR fun K14 hK14=>sLrB underlying70 rfl sizeOf70 F rfl rfl rfl (H.whole 0 rfl) (qMv rfl rfl rfl (qFn rfl rfl rfl rfl (qFn rfl rfl rfl rfl ?_))));clear hK13;clear F a;intro a F
  refine sCall call94 F rfl rfl rfl ((by
    have hPl : ProgAt _ _ (plainPr p) := ⟨LA, LC, IA, IC, TA, TC, 1, [Go.Proofs.YtbgnapmaimkpkaaGreatDoor.b8 0, Go.Proofs.YtbgnapmaimkpkaaGreatDoor.b8 0, Go.Proofs.YtbgnapmaimkpkaaGreatDoor.b8 0, Go.Proofs.YtbgnapmaimkpkaaGreatDoor.b8 0, .slice none 0 0], rfl, (by show 1 ≤ maxLen; decide), (hp.own H).locs, hp.locsN, hp.locsC, hp.locsS, (hp.own H).init, hp.initN, (hp.own H).threads, hp.threadsN, ⟨none, 0, rfl, by simp [plainPr], fun j kid h => by simp at h⟩⟩
    have hE := explore_any (plainPr p) mc n.toNat _ _ _ hv2 hk (by omega) (by omega)
     (fun w' hg s hF => clos1_any (plainPr p) mc b3 b4 _ _ _ _ _ _ _ _ _ _ w' ((grownOwn hg).argR (H.whole 4 rfl)) ((grownOwn hg).argR (H.whole 3 rfl)) (hPl.own (grownOwn hg)) ((hN.own H).own (grownOwn hg)) s hF)
     (fun w' hg s x hF hx => clos2_any (plainPr p) mc b3 b4 _ _ _ _ _ _ _ _ _ _ w' ((grownOwn hg).argR (H.whole 4 rfl)) ((grownOwn hg).argR (H.whole 3 rfl)) (hPl.own (grownOwn hg)) ((hN.own H).own (grownOwn hg)) s x hF hx)
    rw [en] at hE
    exact hE)) ?_
  rintro e w ⟨A1, k1, A2, k2, A3, k3, rfl, H2⟩;replace H := H.join H2; clear H2;refine ⟨_, rfl, ?_⟩;clear F a; intro a F;refine sMv F rfl rfl rfl (qExt rfl rfl rfl rfl (qExt rfl rfl rfl rfl ?_));clear F a;intro a F;refine sAl H zeroValue113 F rfl rfl ?_;clear F a H; intro b11 a w F H
  refine sSr H 0 ?si F rfl rfl rfl ?s1 rfl rfl ?_
  case si => exact info_size sizeOf113
  case s1 => first | rfl | (repeat (first | exact one_nil | (apply one_cons; · first | rfl | assumption | exact one_bif rfl rfl)))
  clear H; intro w H;refine sAs F rfl rfl rfl (qNK hK14 ?_);clear hK14;clear F a;intro a F;refine cSeq (fun K15 hK15 => ?_);refine cSR fun K16 hK16=>sMv F rfl rfl rfl (qNot rfl rfl rfl (qNK hK16 ?_));clear hK16;clear F a;intro a F
  refine cIf F rfl (fun h50 => ?_) (fun h50 => ?_)
  ·
   replace h50 := notT h50;refine cSR fun K17 hK17=>?_
   refine sLr underlying113 rfl ?si F rfl rfl rfl (H.whole 5 rfl) ?_
   case si => exact info_size sizeOf113
   clear F a; intro a F
   refine sSr H 6 ?si F rfl rfl rfl ?s1 rfl rfl ?_
   case si => exact info_size sizeOf113
   case s1 => first | rfl | (repeat (first | exact one_nil | (apply one_cons; · first | rfl | assumption | exact one_bif rfl rfl)))
   clear H; intro w H;refine sAs F rfl rfl rfl (qNK hK17 ?_);clear hK17;clear F a;intro a F;refine wp_ret ?_;simp only [Exit.then];refine bRetD1 results46 F rfl rfl underlying113 rfl H 6 rfl sizeOf113 rfl ?_
   first
   | (refine states_bad ?_ H
      intro hC
      obtain ⟨q1, q2, q3, q4⟩ := hC
      have q5 := hkn.1 q1
      first
      | exact absurd h15 (UInt8.not_lt.2 q5.1)
      | exact absurd h19 (UInt8.not_lt.2 q5.2)
      | exact absurd h23 (by omega)
      | exact absurd h26 (by omega)
      | exact hv q4)
   | (simp only [plain_reach] at h50
      have e : reachR p mc n.toNat = none := Option.not_isSome_iff_eq_none.1 (by rw [h50]; simp)
      rw [statesR, statesE, if_pos hC, if_pos hC, e]
      exact exp_none H)
   | (simp only [plain_reach] at h50 H ⊢
      rw [statesR, statesE, if_pos hC, if_pos hC, if_pos h50]
      exact ⟨_, _, _, _, _, _, rfl, H.sel [1, 2, 3] rfl rfl⟩)
  replace h50 := notF h50;refine wp_skip (hK15 _ _ (cSR fun K18 hK18=>?_));clear hK15
  refine sLr underlying113 rfl ?si F rfl rfl rfl (H.whole 0 rfl) ?_
  case si => exact info_size sizeOf113
  clear F a; intro a F
  refine sSr H 6 ?si F rfl rfl rfl ?s1 rfl rfl ?_
  case si => exact info_size sizeOf113
  case s1 => first | rfl | (repeat (first | exact one_nil | (apply one_cons; · first | rfl | assumption | exact one_bif rfl rfl)))
  clear H; intro w H;refine sAs F rfl rfl rfl (qNK hK18 ?_);clear hK18;clear F a;intro a F;refine wp_ret ?_;refine bRetD1 results46 F rfl rfl underlying113 rfl H 6 rfl sizeOf113 rfl ?_
  first
  | (refine states_bad ?_ H
     intro hC
     obtain ⟨q1, q2, q3, q4⟩ := hC
     have q5 := hkn.1 q1
     first
     | exact absurd h15 (UInt8.not_lt.2 q5.1)
     | exact absurd h19 (UInt8.not_lt.2 q5.2)
     | exact absurd h23 (by omega)
     | exact absurd h26 (by omega)
     | exact hv q4)
  | (simp only [plain_reach] at h50
     have e : reachR p mc n.toNat = none := Option.not_isSome_iff_eq_none.1 (by rw [h50]; simp)
     rw [statesR, statesE, if_pos hC, if_pos hC, e]
     exact exp_none H)
  | (simp only [plain_reach] at h50 H ⊢
     rw [statesR, statesE, if_pos hC, if_pos hC, if_pos h50]
     exact ⟨_, _, _, _, _, _, rfl, H.sel [1, 2, 3] rfl rfl⟩)
end Go.Proofs.YtbgnapmaimkpkaaGreatDoor
