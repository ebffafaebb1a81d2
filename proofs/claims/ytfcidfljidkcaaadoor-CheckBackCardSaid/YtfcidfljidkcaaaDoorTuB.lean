/-
  WALK2. Package check: Final. Conditions: the numbers lie in memory.
-/
import Derived.Test.YtfcidfljidkcaaaDoorTuA
set_option linter.unusedSimpArgs false
set_option linter.unusedVariables false
namespace Go.Proofs.YtfcidfljidkcaaaDoor
open Go.RowKit
set_option maxRecDepth 100000
def finMid (f : By) (T : List Int) (k : Nat) : By := fun i => if i < 32 ∧ i / 8 < k then f (idxZ T (i / 8) * 8 + i % 8) else f i
def finMid2 (f : By) (T L : List Int) (k : Nat) : By := fun i => if i < 32 then finMid f T T.length i else if i - 32 < k then f (32 + idxZ L (i - 32)) else f i
theorem fin_zero (f : By) (T : List Int) (i : Nat) : finMid f T 0 i = f i := by unfold finMid; rw [if_neg (by omega)]
theorem fin_step1 {f g : By} {T : List Int} {k : Nat} (hg : ∀ i, i < 38 → g i = finMid f T k i) (hk : k < 4) (i : Nat) (hi : i < 38) : lay g (k * 8) 8 (cut f (idxZ T k * 8)) i = finMid f T (k + 1) i := by
  unfold lay finMid
  by_cases h : k * 8 ≤ i ∧ i < k * 8 + 8
  · rw [if_pos h, if_pos (by omega)]
    unfold cut
    rw [show i / 8 = k by omega]
    congr 1
    omega
  · rw [if_neg h, hg i hi]
    unfold finMid
    by_cases h2 : i < 32 ∧ i / 8 < k
    · rw [if_pos h2, if_pos (by omega)]
    · rw [if_neg h2, if_neg (by omega)]
theorem fin_turn {f g : By} {T : List Int} (L : List Int) (h4 : T.length ≤ 4) (hg : ∀ i, i < 38 → g i = finMid f T T.length i) (i : Nat) (hi : i < 38) : g i = finMid2 f T L 0 i := by
  rw [hg i hi]
  unfold finMid2
  by_cases h : i < 32
  · rw [if_pos h]
  · rw [if_neg h, if_neg (by omega)]
    unfold finMid
    rw [if_neg (by omega)]
theorem fin_step2 {f g : By} {T L : List Int} {k : Nat} (hg : ∀ i, i < 38 → g i = finMid2 f T L k i) (i : Nat) (hi : i < 38) : put g (32 + k) (f (32 + idxZ L k)) i = finMid2 f T L (k + 1) i := by
  unfold put
  by_cases h : i = 32 + k
  · rw [if_pos h]
    unfold finMid2
    rw [if_neg (by omega), if_pos (by omega), show i - 32 = k by omega]
  · rw [if_neg h, hg i hi]
    unfold finMid2
    by_cases h2 : i < 32
    · rw [if_pos h2, if_pos h2]
    · rw [if_neg h2, if_neg h2]
      by_cases h3 : i - 32 < k
      · rw [if_pos h3, if_pos (by omega)]
      · rw [if_neg h3, if_neg (by omega)]
theorem fin_done {f g : By} {T L : List Int} (hg : ∀ i, i < 38 → g i = finMid2 f T L L.length i) (i : Nat) (hi : i < 38) : g i = finT f T L i := by
  rw [hg i hi]
  unfold finMid2 finT finMid
  by_cases h : i < 32
  · rw [if_pos h, if_pos h]
    by_cases h2 : i / 8 < T.length
    · rw [if_pos ⟨h, h2⟩, if_pos h2]
    · rw [if_neg (fun e => h2 e.2), if_neg h2]
  · rw [if_neg h, if_neg h]
def FinGood (T L : List Int) : Prop := T.length ≤ 4 ∧ L.length ≤ 6 ∧ IsPerm T.length T ∧ IsPerm L.length L
set_option maxHeartbeats 1000000 in
theorem finalT_any (f : By) (A : Option Addr) (C : Nat) (T : List Int) (B : Option Addr) (D : Nat) (L : List Int) (n m : Nat) (w0 : World) (hA : RowsAt w0 A 1 (intsZ T)) (hB : RowsAt w0 B 1 (intsZ L)) (hn : n = T.length) (hm : m = L.length) (hTl : T.length ≤ 9223372036854775807) (hLl : L.length ≤ 9223372036854775807) :
    Calls Tryd.prog 7 #[.agg (bs 38 f).toArray, .slice A n C, .slice B m D] w0 fun e w' => ∃ (g : By) (er : Int), e = .returned (.tuple #[.agg (bs 38 g).toArray, .int .i64 er]) ∧ (FinGood T L → er = 0 ∧ bs 38 g = bs 38 (finT f T L)) ∧ Below w0.heap.size w0 w' := by
  subst hn hm
  have H := Own.start w0 none
  refine enterF Tryd.func7 rfl Tryd.ntmps7 rfl (fun a F => ?_)
  refine cSeq (fun K1 hK1 => ?_)
  refine cReg ?_
  refine sBxB H F rfl rfl rfl ?_
  clear F a H; intro b3 a w F H
  refine sAlB H zB34 F rfl rfl ?_
  clear F a H; intro b6 a w F H
  refine sAs F rfl rfl rfl ?_;clear F a;intro a F
  refine sNil ?_
  refine hK1 _ _ ?_; clear hK1
  refine cSeq (fun K2 hK2 => ?_)
  refine cSeq (fun K3 hK3 => ?_)
  refine cReg ?_
  refine sMv F rfl rfl rfl ?_;clear F a;intro a F
  refine sLen Tryd.underlying35 F rfl rfl rfl ?_;clear F a;intro a F
  refine sBin F rfl rfl rfl rfl bGtr ?_;clear F a;intro a F
  refine sMv F rfl rfl rfl ?_;clear F a;intro a F
  refine F.split 20 rfl ?_ ?_ <;> (clear F; intro h20 F)
  ·
   replace h20 := of_decide_eq_true h20
   refine sSk F rfl rfl ?_;clear F a;intro a F
   refine sSk F rfl rfl ?_;clear F a;intro a F
   refine sSk F rfl rfl ?_;clear F a;intro a F
   refine sPk F rfl rfl rfl rfl ?_;clear F a;intro a F
   refine sNil ?_
   refine hK3 _ _ ?_; clear hK3
   refine cIfT F rfl ?_
   refine cSeq (fun K4 hK4 => ?_)
   refine cReg ?_
   refine sBdB (places := [(0, 32), (32, 6)]) zB34 Tryd.underlying34 (by kernel_rfl) F rfl rfl rfl FillB.nil ?_;clear F a;intro a F
   refine sSrB H 0 Tryd.sizeOf34 F rfl rfl rfl rfl (by omega) ?_
   clear H; intro w H
   rw [lay_all] at H
   refine sAs F rfl rfl rfl ?_;clear F a;intro a F
   refine sNil ?_
   refine hK4 _ _ ?_; clear hK4
   refine wp_ret ?_
   simp only [Exit.then]
   refine bRetB1 Tryd.results7 F rfl rfl Tryd.underlying34 rfl Tryd.sizeOf34 H 0 rfl ?_
   first
   | (subst hkL
      exact ⟨g2, 0, rfl, fun _ => ⟨rfl, bs_ext (fun i hi => fin_done hg2 i hi)⟩, H.below⟩)
   | (have h44 : o40 = false := h44
      refine ⟨zb, 2, rfl, fun hh => ?_, H.below⟩
      have := hpL.2 hh.2.2.2
      rw [h44] at this; cases this)
   | (have h34 : o30 = false := h34
      refine ⟨zb, 2, rfl, fun hh => ?_, H.below⟩
      have := hpT.2 hh.2.2.1
      rw [h34] at this; cases this)
   | (refine ⟨zb, 2, rfl, fun hh => ?_, H.below⟩
      have h1 := hh.1
      have h2 := hh.2.1
      omega)
  replace h20 := of_decide_eq_false h20
  refine sMv F rfl rfl rfl ?_;clear F a;intro a F
  refine sLen Tryd.underlying35 F rfl rfl rfl ?_;clear F a;intro a F
  refine sBin F rfl rfl rfl rfl bGtr ?_;clear F a;intro a F
  refine sPk F rfl rfl rfl rfl ?_;clear F a;intro a F
  refine sNil ?_
  refine hK3 _ _ ?_; clear hK3
  refine cIf F rfl (fun h24 => ?_) (fun h24 => ?_)
  ·
   replace h24 := of_decide_eq_true h24
   refine cSeq (fun K5 hK5 => ?_)
   refine cReg ?_
   refine sBdB (places := [(0, 32), (32, 6)]) zB34 Tryd.underlying34 (by kernel_rfl) F rfl rfl rfl FillB.nil ?_;clear F a;intro a F
   refine sSrB H 0 Tryd.sizeOf34 F rfl rfl rfl rfl (by omega) ?_
   clear H; intro w H
   rw [lay_all] at H
   refine sAs F rfl rfl rfl ?_;clear F a;intro a F
   refine sNil ?_
   refine hK5 _ _ ?_; clear hK5
   refine wp_ret ?_
   simp only [Exit.then]
   refine bRetB1 Tryd.results7 F rfl rfl Tryd.underlying34 rfl Tryd.sizeOf34 H 0 rfl ?_
   first
   | (subst hkL
      exact ⟨g2, 0, rfl, fun _ => ⟨rfl, bs_ext (fun i hi => fin_done hg2 i hi)⟩, H.below⟩)
   | (have h44 : o40 = false := h44
      refine ⟨zb, 2, rfl, fun hh => ?_, H.below⟩
      have := hpL.2 hh.2.2.2
      rw [h44] at this; cases this)
   | (have h34 : o30 = false := h34
      refine ⟨zb, 2, rfl, fun hh => ?_, H.below⟩
      have := hpT.2 hh.2.2.1
      rw [h34] at this; cases this)
   | (refine ⟨zb, 2, rfl, fun hh => ?_, H.below⟩
      have h1 := hh.1
      have h2 := hh.2.1
      omega)
  replace h24 := of_decide_eq_false h24
  have h4 : T.length ≤ 4 := by omega
  have h6 : L.length ≤ 6 := by omega
  refine wp_skip ?_
  refine hK2 _ _ ?_; clear hK2
  refine cSeq (fun K6 hK6 => ?_)
  refine cSeq (fun K7 hK7 => ?_)
  refine cReg ?_
  refine sMv F rfl rfl rfl ?_;clear F a;intro a F
  refine sMv F rfl rfl rfl ?_;clear F a;intro a F
  refine sLen Tryd.underlying35 F rfl rfl rfl ?_;clear F a;intro a F
  refine sCall Tryd.call17 F rfl rfl rfl (inverse_any A C T T.length _ (hA.own H) (by omega) hTl) ?_
  rintro e w hinv
  (obtain ⟨v30, o30, rfl, hpT, hb⟩ : ∃ v30 o30, e = .returned (.tuple #[v30, .bool o30]) ∧ (o30 = true ↔ IsPerm T.length T) ∧ Own _ none w [] := (by rcases hinv with ⟨g1, b, cells, g2, _, g3⟩ | ⟨g1, g2, g3⟩; exact ⟨_, _, g2, by simp [g1], g3.sel [] rfl rfl⟩; exact ⟨_, _, g2, by simp [g1], (Own.start _ none).grow g3⟩); replace H := H.join hb; clear hb hinv)
  refine ⟨_, rfl, ?_⟩
  clear F a; intro a F
  refine sMv F rfl rfl rfl ?_;clear F a;intro a F
  refine sExt F rfl rfl rfl rfl ?_;clear F a;intro a F
  refine sExt F rfl rfl rfl rfl ?_;clear F a;intro a F
  refine sAs F rfl rfl rfl ?_;clear F a;intro a F
  refine sAs F rfl rfl rfl ?_;clear F a;intro a F
  refine sNil ?_
  refine hK7 _ _ ?_; clear hK7
  refine cSeq (fun K8 hK8 => ?_)
  refine cReg ?_
  refine sMv F rfl rfl rfl ?_;clear F a;intro a F
  refine sNot F rfl rfl rfl ?_;clear F a;intro a F
  refine sNil ?_
  refine hK8 _ _ ?_; clear hK8
  refine cIf F rfl (fun h34 => ?_) (fun h34 => ?_)
  ·
   replace h34 := notT h34
   refine cSeq (fun K9 hK9 => ?_)
   refine cReg ?_
   refine sBdB (places := [(0, 32), (32, 6)]) zB34 Tryd.underlying34 (by kernel_rfl) F rfl rfl rfl FillB.nil ?_;clear F a;intro a F
   refine sSrB H 0 Tryd.sizeOf34 F rfl rfl rfl rfl (by omega) ?_
   clear H; intro w H
   rw [lay_all] at H
   refine sAs F rfl rfl rfl ?_;clear F a;intro a F
   refine sNil ?_
   refine hK9 _ _ ?_; clear hK9
   refine wp_ret ?_
   simp only [Exit.then]
   refine bRetB1 Tryd.results7 F rfl rfl Tryd.underlying34 rfl Tryd.sizeOf34 H 0 rfl ?_
   first
   | (subst hkL
      exact ⟨g2, 0, rfl, fun _ => ⟨rfl, bs_ext (fun i hi => fin_done hg2 i hi)⟩, H.below⟩)
   | (have h44 : o40 = false := h44
      refine ⟨zb, 2, rfl, fun hh => ?_, H.below⟩
      have := hpL.2 hh.2.2.2
      rw [h44] at this; cases this)
   | (have h34 : o30 = false := h34
      refine ⟨zb, 2, rfl, fun hh => ?_, H.below⟩
      have := hpT.2 hh.2.2.1
      rw [h34] at this; cases this)
   | (refine ⟨zb, 2, rfl, fun hh => ?_, H.below⟩
      have h1 := hh.1
      have h2 := hh.2.1
      omega)
  replace h34 := notF h34
  have hpT' : IsPerm T.length T := hpT.1 h34
  refine wp_skip ?_
  refine hK6 _ _ ?_; clear hK6
  refine cSeq (fun K10 hK10 => ?_)
  refine cSeq (fun K11 hK11 => ?_)
  refine cReg ?_
  refine sMv F rfl rfl rfl ?_;clear F a;intro a F
  refine sMv F rfl rfl rfl ?_;clear F a;intro a F
  refine sLen Tryd.underlying35 F rfl rfl rfl ?_;clear F a;intro a F
  refine sCall Tryd.call17 F rfl rfl rfl (inverse_any B D L L.length _ (hB.own H) (by omega) hLl) ?_
  rintro e w hinv
  (obtain ⟨v40, o40, rfl, hpL, hb⟩ : ∃ v40 o40, e = .returned (.tuple #[v40, .bool o40]) ∧ (o40 = true ↔ IsPerm L.length L) ∧ Own _ none w [] := (by rcases hinv with ⟨g1, b, cells, g2, _, g3⟩ | ⟨g1, g2, g3⟩; exact ⟨_, _, g2, by simp [g1], g3.sel [] rfl rfl⟩; exact ⟨_, _, g2, by simp [g1], (Own.start _ none).grow g3⟩); replace H := H.join hb; clear hb hinv)
  refine ⟨_, rfl, ?_⟩
  clear F a; intro a F
  refine sMv F rfl rfl rfl ?_;clear F a;intro a F
  refine sExt F rfl rfl rfl rfl ?_;clear F a;intro a F
  refine sExt F rfl rfl rfl rfl ?_;clear F a;intro a F
  refine sAs F rfl rfl rfl ?_;clear F a;intro a F
  refine sAs F rfl rfl rfl ?_;clear F a;intro a F
  refine sNil ?_
  refine hK11 _ _ ?_; clear hK11
  refine cSeq (fun K12 hK12 => ?_)
  refine cReg ?_
  refine sMv F rfl rfl rfl ?_;clear F a;intro a F
  refine sNot F rfl rfl rfl ?_;clear F a;intro a F
  refine sNil ?_
  refine hK12 _ _ ?_; clear hK12
  refine cIf F rfl (fun h44 => ?_) (fun h44 => ?_)
  ·
   replace h44 := notT h44
   refine cSeq (fun K13 hK13 => ?_)
   refine cReg ?_
   refine sBdB (places := [(0, 32), (32, 6)]) zB34 Tryd.underlying34 (by kernel_rfl) F rfl rfl rfl FillB.nil ?_;clear F a;intro a F
   refine sSrB H 0 Tryd.sizeOf34 F rfl rfl rfl rfl (by omega) ?_
   clear H; intro w H
   rw [lay_all] at H
   refine sAs F rfl rfl rfl ?_;clear F a;intro a F
   refine sNil ?_
   refine hK13 _ _ ?_; clear hK13
   refine wp_ret ?_
   simp only [Exit.then]
   refine bRetB1 Tryd.results7 F rfl rfl Tryd.underlying34 rfl Tryd.sizeOf34 H 0 rfl ?_
   first
   | (subst hkL
      exact ⟨g2, 0, rfl, fun _ => ⟨rfl, bs_ext (fun i hi => fin_done hg2 i hi)⟩, H.below⟩)
   | (have h44 : o40 = false := h44
      refine ⟨zb, 2, rfl, fun hh => ?_, H.below⟩
      have := hpL.2 hh.2.2.2
      rw [h44] at this; cases this)
   | (have h34 : o30 = false := h34
      refine ⟨zb, 2, rfl, fun hh => ?_, H.below⟩
      have := hpT.2 hh.2.2.1
      rw [h34] at this; cases this)
   | (refine ⟨zb, 2, rfl, fun hh => ?_, H.below⟩
      have h1 := hh.1
      have h2 := hh.2.1
      omega)
  replace h44 := notF h44
  have hpL' : IsPerm L.length L := hpL.1 h44
  refine wp_skip ?_
  refine hK10 _ _ ?_; clear hK10
  refine cSeq (fun K14 hK14 => ?_)
  refine cReg ?_
  refine sLrB Tryd.underlying34 rfl Tryd.sizeOf34 F rfl rfl rfl (H.whole 1 rfl) ?_;clear F a;intro a F
  refine sAlB H zB34 F rfl rfl ?_
  clear F a H; intro b12 a w F H
  refine sSrB H 0 Tryd.sizeOf34 F rfl rfl rfl rfl (by omega) ?_
  clear H; intro w H
  rw [lay_all] at H
  refine sNil ?_
  refine hK14 _ _ ?_; clear hK14
  refine cSeq (fun K15 hK15 => ?_)
  refine cSeq (fun K16 hK16 => ?_)
  refine cReg ?_
  refine sMv F rfl rfl rfl ?_;clear F a;intro a F
  refine sLen Tryd.underlying35 F rfl rfl rfl ?_;clear F a;intro a F
  refine sMv F rfl rfl rfl ?_;clear F a;intro a F
  refine sNil ?_
  refine hK16 _ _ ?_; clear hK16
  refine wp_block ?_
  refine cLoopR [2, 3, 6, 12, 47, 48] (fun m ups w => ∃ (k : Nat) (g : By), m = T.length - k ∧ ups = [(49, .int .i64 ((k : Nat) : Int))] ∧ k ≤ T.length ∧ (∀ i, i < 38 → g i = finMid f T k i) ∧ Own w0 none w [.blk b12 (bs 38 g) 34, .blk b6 (bs 38 zb) 34, .blk b3 (bs 38 f) 34]) F (T.length) [(49, .int .i64 ((0 : Nat) : Int))] (by repeat (first | exact SubR.nil | (apply SubR.cons; · rfl))) ?_ ?_ ?_
  · exact ⟨0, f, rfl, rfl, Nat.zero_le _, fun i _ => (fin_zero f T i).symm, H.sel [0, 1, 2] rfl rfl⟩
  · repeat (first | exact trivial | refine Le.cons rfl ?_)
  clear F
  clear H
  intro m ups a w hI F
  obtain ⟨k, g, rfl, rfl, hk, hg, H⟩ := hI
  refine cSeq (fun K17 hK17 => ?_)
  refine cReg ?_
  refine sBin F rfl rfl rfl rfl bLss ?_;clear F a;intro a F
  refine sNil ?_
  refine hK17 _ _ ?_; clear hK17
  refine cSeq (fun K18 hK18 => ?_)
  refine cIf F rfl (fun h50 => ?_) (fun h50 => ?_)
  ·
   replace h50 := of_decide_eq_true h50
   have hkl : k < T.length := by omega
   obtain ⟨hx, hxn⟩ := idx_at hpT' hkl
   obtain ⟨bA, oA, rfl, hAx⟩ := intsZ_at hA hx
   refine wp_skip ?_
   refine hK18 _ _ ?_; clear hK18
   refine cSeq (fun K19 hK19 => ?_)
   refine wp_block ?_
   refine cSeq (fun K20 hK20 => ?_)
   refine cReg ?_
   refine sMv F rfl rfl rfl ?_;clear F a;intro a F
   refine sIx Tryd.underlying35 Tryd.sizeOf3 F rfl rfl rfl rfl ?_ ?_
   focus (first | omega | decide | (simp; omega))
   clear F a; intro a F
   refine sLd Tryd.isAgg3 F rfl rfl rfl (H.arg hAx) ?_;clear F a;intro a F
   refine sAs F rfl rfl rfl ?_;clear F a;intro a F
   refine sAs F rfl rfl rfl ?_;clear F a;intro a F
   refine sNil ?_
   refine hK20 _ _ ?_; clear hK20
   refine cReg ?_
   refine sMv F rfl rfl rfl ?_;clear F a;intro a F
   refine sMv F rfl rfl rfl ?_;clear F a;intro a F
   refine sFa (f := 0) (k := 0) Tryd.underlying34 rfl Tryd.sizeOf31 rfl rfl F rfl rfl rfl ?_;clear F a;intro a F
   refine sIaZ Tryd.underlying31 Tryd.sizeOf30 F rfl rfl rfl rfl ?_ ?_
   focus omega
   clear F a; intro a F
   refine sLrB Tryd.underlying30 rfl Tryd.sizeOf30 F rfl rfl rfl (H.rangeB 2 _ 8 rfl (by omega)) ?_;clear F a;intro a F
   refine sFa (f := 0) (k := 0) Tryd.underlying34 rfl Tryd.sizeOf31 rfl rfl F rfl rfl rfl ?_;clear F a;intro a F
   refine sIaZ Tryd.underlying31 Tryd.sizeOf30 F rfl rfl rfl rfl ?_ ?_
   focus omega
   clear F a; intro a F
   refine sSrB H 0 Tryd.sizeOf30 F rfl rfl rfl rfl (by omega) ?_
   clear H; intro w H
   refine sNil ?_
   refine hK19 _ _ ?_; clear hK19
   refine cReg ?_
   refine sBin F rfl rfl rfl rfl (bAddN (j := 1) ?_) ?_
   focus omega
   clear F a; intro a F
   refine sMv F rfl rfl rfl ?_;clear F a;intro a F
   refine sNil ?_
   exact ⟨_, by omega, _, ⟨k + 1, _, rfl, rfl, hkl, fun i hi => fin_step1 hg (by omega) i hi, H.sel [0, 1, 2] rfl rfl⟩, F.to (by repeat (first | exact trivial | refine Le.cons rfl ?_))⟩
  replace h50 := of_decide_eq_false h50
  have hkT : k = T.length := by omega
  refine wp_exit ?_
  refine hK15 _ _ ?_; clear hK15
  refine cSeq (fun K21 hK21 => ?_)
  refine cSeq (fun K22 hK22 => ?_)
  refine cReg ?_
  refine sMv F rfl rfl rfl ?_;clear F a;intro a F
  refine sLen Tryd.underlying35 F rfl rfl rfl ?_;clear F a;intro a F
  refine sMv F rfl rfl rfl ?_;clear F a;intro a F
  refine sNil ?_
  refine hK22 _ _ ?_; clear hK22
  refine wp_block ?_
  refine cLoopR [3, 6, 12, 62, 63] (fun m ups w => ∃ (k : Nat) (g : By), m = L.length - k ∧ ups = [(64, .int .i64 ((k : Nat) : Int))] ∧ k ≤ L.length ∧ (∀ i, i < 38 → g i = finMid2 f T L k i) ∧ Own w0 none w [.blk b12 (bs 38 g) 34, .blk b6 (bs 38 zb) 34, .blk b3 (bs 38 f) 34]) F (L.length) [(64, .int .i64 ((0 : Nat) : Int))] (by repeat (first | exact SubR.nil | (apply SubR.cons; · rfl))) ?_ ?_ ?_
  · exact ⟨0, g, rfl, rfl, Nat.zero_le _, fun i hi => fin_turn L h4 (fun i hi => by rw [hg i hi, hkT]) i hi, H.sel [0, 1, 2] rfl rfl⟩
  · repeat (first | exact trivial | refine Le.cons rfl ?_)
  clear F
  clear H
  intro m ups a w hI F
  obtain ⟨k2, g2, rfl, rfl, hk2, hg2, H⟩ := hI
  refine cSeq (fun K23 hK23 => ?_)
  refine cReg ?_
  refine sBin F rfl rfl rfl rfl bLss ?_;clear F a;intro a F
  refine sNil ?_
  refine hK23 _ _ ?_; clear hK23
  refine cSeq (fun K24 hK24 => ?_)
  refine cIf F rfl (fun h65 => ?_) (fun h65 => ?_)
  ·
   replace h65 := of_decide_eq_true h65
   have hkl2 : k2 < L.length := by omega
   obtain ⟨hx2, hxn2⟩ := idx_at hpL' hkl2
   obtain ⟨bB, oB, rfl, hBx⟩ := intsZ_at hB hx2
   refine wp_skip ?_
   refine hK24 _ _ ?_; clear hK24
   refine cSeq (fun K25 hK25 => ?_)
   refine wp_block ?_
   refine cSeq (fun K26 hK26 => ?_)
   refine cReg ?_
   refine sMv F rfl rfl rfl ?_;clear F a;intro a F
   refine sIx Tryd.underlying35 Tryd.sizeOf3 F rfl rfl rfl rfl ?_ ?_
   focus (first | omega | decide | (simp; omega))
   clear F a; intro a F
   refine sLd Tryd.isAgg3 F rfl rfl rfl (H.arg hBx) ?_;clear F a;intro a F
   refine sAs F rfl rfl rfl ?_;clear F a;intro a F
   refine sAs F rfl rfl rfl ?_;clear F a;intro a F
   refine sNil ?_
   refine hK26 _ _ ?_; clear hK26
   refine cReg ?_
   refine sMv F rfl rfl rfl ?_;clear F a;intro a F
   refine sMv F rfl rfl rfl ?_;clear F a;intro a F
   refine sFa (f := 1) (k := 32) Tryd.underlying34 rfl Tryd.sizeOf32 rfl rfl F rfl rfl rfl ?_;clear F a;intro a F
   refine sIa1 Tryd.underlying32 Tryd.sizeOf5 F rfl rfl rfl rfl ?_ ?_
   focus omega
   clear F a; intro a F
   refine sLd Tryd.isAgg5 F rfl rfl rfl (H.cellB 2 rfl (by omega)) ?_;clear F a;intro a F
   refine sFa (f := 1) (k := 32) Tryd.underlying34 rfl Tryd.sizeOf32 rfl rfl F rfl rfl rfl ?_;clear F a;intro a F
   refine sIa1 Tryd.underlying32 Tryd.sizeOf5 F rfl rfl rfl rfl ?_ ?_
   focus omega
   clear F a; intro a F
   refine sStB H 0 Tryd.sizeOf5 F rfl rfl rfl rfl (by omega) ?_
   clear H; intro w H
   refine sNil ?_
   refine hK25 _ _ ?_; clear hK25
   refine cReg ?_
   refine sBin F rfl rfl rfl rfl (bAddN (j := 1) ?_) ?_
   focus omega
   clear F a; intro a F
   refine sMv F rfl rfl rfl ?_;clear F a;intro a F
   refine sNil ?_
   exact ⟨_, by omega, _, ⟨k2 + 1, _, rfl, rfl, hkl2, fun i hi => fin_step2 hg2 i hi, H.sel [0, 1, 2] rfl rfl⟩, F.to (by repeat (first | exact trivial | refine Le.cons rfl ?_))⟩
  replace h65 := of_decide_eq_false h65
  have hkL : k2 = L.length := by omega
  refine wp_exit ?_
  refine hK21 _ _ ?_; clear hK21
  refine cSeq (fun K27 hK27 => ?_)
  refine cReg ?_
  refine sLrB Tryd.underlying34 rfl Tryd.sizeOf34 F rfl rfl rfl (H.whole 0 rfl) ?_;clear F a;intro a F
  refine sSrB H 1 Tryd.sizeOf34 F rfl rfl rfl rfl (by omega) ?_
  clear H; intro w H
  rw [lay_all] at H
  refine sAs F rfl rfl rfl ?_;clear F a;intro a F
  refine sNil ?_
  refine hK27 _ _ ?_; clear hK27
  refine wp_ret ?_
  refine bRetB1 Tryd.results7 F rfl rfl Tryd.underlying34 rfl Tryd.sizeOf34 H 1 rfl ?_
  first
  | (subst hkL
     exact ⟨g2, 0, rfl, fun _ => ⟨rfl, bs_ext (fun i hi => fin_done hg2 i hi)⟩, H.below⟩)
  | (have h44 : o40 = false := h44
     refine ⟨zb, 2, rfl, fun hh => ?_, H.below⟩
     have := hpL.2 hh.2.2.2
     rw [h44] at this; cases this)
  | (have h34 : o30 = false := h34
     refine ⟨zb, 2, rfl, fun hh => ?_, H.below⟩
     have := hpT.2 hh.2.2.1
     rw [h34] at this; cases this)
  | (refine ⟨zb, 2, rfl, fun hh => ?_, H.below⟩
     have h1 := hh.1
     have h2 := hh.2.1
     omega)
end Go.Proofs.YtfcidfljidkcaaaDoor
