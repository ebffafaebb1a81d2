/-
  WALK2. The law PathValues. Conditions: the program lies in memory; the tables.
-/
import Derived.Test.YtklpiodciblabaaGreatDoorSqT
set_option linter.unusedSimpArgs false
set_option linter.unusedVariables false
namespace Go.Proofs.YtklpiodciblabaaGreatDoor
open Go.Proofs.Tryz
open Go.RowKit
set_option maxRecDepth 100000
theorem byteV_at {w : World} {A : Option Addr} {l : List UInt8} (h : RowsAt w A 1 (l.map fun x => [b8 x])) {j : Nat} {x : UInt8} (hj : l[j]? = some x) : ∃ b off, A = some ⟨b, off, none⟩ ∧ w.cell? ⟨b, off + j * 1, none⟩ = some (b8 x) := BytesAt.get (w := w) (l := l) h hj
def initW (p : Prg) (j v : Nat) : Prop := ∃ u ∈ p.init.take j, u.toNat = v
def thrW (p : Prg) (dom : List UInt8) (j v : Nat) : Prop := (∃ u ∈ p.init, u.toNat = v) ∨ ∃ l ∈ p.threads.take j, wroteL (endsL l dom) v = true
theorem initW_succ {p : Prg} {j : Nat} {y : UInt8} (hy : p.init[j]? = some y) (v : Nat) : initW p (j + 1) v ↔ initW p j v ∨ v = y.toNat := by
  unfold initW
  rw [List.take_add_one, hy]
  constructor
  · rintro ⟨u, hu, rfl⟩
    rcases List.mem_append.1 hu with h | h
    · exact .inl ⟨u, h, rfl⟩
    · obtain rfl : u = y := by simpa using h
      exact .inr rfl
  · rintro (⟨u, hu, rfl⟩ | rfl)
    · exact ⟨u, List.mem_append_left _ hu, rfl⟩
    · exact ⟨y, List.mem_append_right _ (by simp), rfl⟩
theorem thrW_succ {p : Prg} {dom : List UInt8} {j : Nat} {l : List Ins} (hl : p.threads[j]? = some l) (v : Nat) : thrW p dom (j + 1) v ↔ thrW p dom j v ∨ wroteL (endsL l dom) v = true := by
  unfold thrW
  rw [List.take_add_one, hl]
  constructor
  · rintro (h | ⟨m, hm, hw⟩)
    · exact .inl (.inl h)
    · rcases List.mem_append.1 hm with h | h
      · exact .inl (.inr ⟨m, h, hw⟩)
      · obtain rfl : m = l := by simpa using h
        exact .inr hw
  · rintro ((h | ⟨m, hm, hw⟩) | hw)
    · exact .inl h
    · exact .inr ⟨m, List.mem_append_left _ hm, hw⟩
    · exact .inr ⟨l, List.mem_append_right _ (by simp), hw⟩
theorem inc_next {dom : List UInt8} (hd : distL dom = dom) {i : Nat} {x y : UInt8} (hx : dom[i - 1]? = some x) (hy : dom[i]? = some y) (hi : 0 < i) : x.toNat < y.toNat := by
  have hp := dist_inc dom
  rw [hd] at hp
  obtain ⟨h1, rfl⟩ := List.getElem?_eq_some_iff.1 hx
  obtain ⟨h2, rfl⟩ := List.getElem?_eq_some_iff.1 hy
  exact List.pairwise_iff_getElem.1 hp _ _ h1 h2 (by omega)
theorem told_succ {M : Nat → Nat} {k : Nat} : ((List.range (k + 1)).filter fun v => decide (0 < M v)).length = ((List.range k).filter fun v => decide (0 < M v)).length + (if 0 < M k then 1 else 0) := by
  rw [List.range_succ, List.filter_append, List.length_append]
  congr 1
  by_cases h : 0 < M k <;> simp [h]
theorem told_le (M : Nat → Nat) (k : Nat) : ((List.range k).filter fun v => decide (0 < M v)).length ≤ k := Nat.le_trans (List.length_filter_le _ _) (by rw [List.length_range]; exact Nat.le_refl _)
def toldN (M : Nat → Nat) (k : Nat) : Nat := ((List.range k).filter fun v => decide (0 < M v)).length
theorem told_T {M : Nat → Nat} {k : Nat} (h : 0 < M k) : toldN M (k + 1) = toldN M k + 1 := by unfold toldN; rw [told_succ, if_pos h]
theorem told_F {M : Nat → Nat} {k : Nat} (h : ¬ 0 < M k) : toldN M (k + 1) = toldN M k := by unfold toldN; rw [told_succ, if_neg h, Nat.add_zero]
set_option maxHeartbeats 16000000 in
theorem pathValues_any (cs : List Value) (p : Prg) (w0 : World) (hP : ProgAt w0 cs p) (hN : NeedsAt w0) (hT : TabAt w0) :
    Calls Tryz.prog 5 #[.agg cs.toArray] w0 fun e w' => e = .returned (.bool true) ∧ Below w0.heap.size w0 w' := by
  have H := Own.start w0 none
  have hP0 := hP
  obtain ⟨LA, LC, IA, IC, TA, TC, h, ccs, hp⟩ := hP
  obtain ⟨d1, d2, d3, d4, d5, rfl⟩ := len5 (condAt_len hp.cond)
  have hcs := hp.cs
  subst hcs
  have hn := hp.threadsN
  have hin := hp.initN
  refine enterF func5 rfl ntmps5 rfl (fun a F => ?_);refine cSR fun K1 hK1=>?_;refine sBx H F rfl rfl rfl ?_;clear F a H; intro b1 a w F H;refine sAs F rfl rfl rfl (qNK hK1 ?_);clear hK1;clear F a;intro a F;refine cSeq (fun K2 hK2 => ?_);refine cSR fun K3 hK3=>sFa (f := 3) (k := 3) underlying46 rfl sizeOf41 rfl rfl F rfl rfl rfl (qLd isAgg41 rfl rfl rfl (H.cell 0 rfl rfl) (qLen underlying41 rfl rfl rfl (qMv rfl rfl rfl (qNK hK3 ?_))));clear hK3;clear F a;intro a F;refine wp_block ?_
  refine cLoopR [1, 24, 25] (fun m ups w => ∃ j : Nat, m = p.threads.length - j ∧ ups = [(26, .int .i64 ((j : Nat) : Int))] ∧ j ≤ p.threads.length ∧ Own w0 none w [.blk b1 ([.string p.name, .slice LA p.locs.length LC, .slice IA p.init.length IC, .slice TA p.threads.length TC, Go.Proofs.YtklpiodciblabaaGreatDoor.b8 p.ask] ++ [d1, d2, d3, d4, d5]) 46]) F (p.threads.length) [(26, .int .i64 ((0 : Nat) : Int))] (by repeat (first | exact SubR.nil | (apply SubR.cons; · rfl))) ?_ ?_ ?_
  · exact ⟨0, rfl, rfl, Nat.zero_le _, H⟩
  · repeat (first | exact trivial | refine Le.cons rfl ?_)
  clear F
  clear H
  intro m ups a w hI F
  obtain ⟨j, rfl, rfl, hj, H⟩ := hI
  refine cSR fun K4 hK4=>sBin F rfl rfl rfl rfl bLss (qNK hK4 ?_);clear hK4;clear F a;intro a F;refine cSeq (fun K5 hK5 => ?_)
  refine cIf F rfl (fun h27 => ?_) (fun h27 => ?_)
  ·
   replace h27 := of_decide_eq_true h27
   have hjl : j < p.threads.length := by omega
   obtain ⟨l, hl⟩ : ∃ l, p.threads[j]? = some l := ⟨_, List.getElem?_eq_getElem hjl⟩
   obtain ⟨bT, oT, BT, CT, rfl, hT1, hT2, hT3⟩ := hp.threads j l hl
   refine wp_skip (hK5 _ _ ?_);clear hK5;refine cSeq (fun K6 hK6 => ?_);refine wp_block ?_;refine cSR fun K7 hK7=>?_
   refine sIx underlying41 sizeOf22 F rfl rfl rfl rfl ?_ ?_
   focus exact hjl
   clear F a; intro a F;refine sLd isAgg22 F rfl rfl rfl (H.arg hT1) (qAs rfl rfl rfl (qNK hK7 (qSR fun K8 hK8=>qMv rfl rfl rfl ?_)));clear hK7;clear F a;intro a F;refine sCall call14 F rfl rfl rfl (Few_any BT CT l _ (hT2.own H) hT3) ?_;rintro e w ⟨rfl, hb⟩;replace H := H.grow hb; clear hb;refine ⟨_, rfl, ?_⟩;clear F a; intro a F;refine sNot F rfl rfl rfl (qNK hK8 ?_);clear hK8;clear F a;intro a F
   refine cIf F rfl (fun h32 => ?_) (fun h32 => ?_)
   ·
    replace h32 := notT h32;refine cSR fun K9 hK9=>?_;refine sCall call12 F rfl rfl rfl (awake8_any _ (hN.own H) (hT.own H)) ?_;rintro e w ⟨rfl, hb⟩;replace H := H.grow hb; clear hb;refine ⟨_, rfl, ?_⟩;clear F a; intro a F;refine sAs F rfl rfl rfl (qNK hK9 ?_);clear hK9;clear F a;intro a F;refine wp_ret ?_;simp only [Exit.inBlock, Exit.then];refine bRet results5 F rfl ?_
    exact ⟨rfl, H.below⟩
   replace h32 := notF h32;refine wp_skip (hK6 _ _ (cReg ?_));clear hK6
   refine sBin F rfl rfl rfl rfl (bAddN (j := 1) ?_) ?_
   focus omega
   clear F a; intro a F;refine sMv F rfl rfl rfl ?_;clear F a;intro a F;refine sNil ?_
   refine ⟨_, ?_, _, ⟨j + 1, rfl, rfl, by omega, H⟩, F.to (by repeat (first | exact trivial | refine Le.cons rfl ?_))⟩
   omega
  replace h27 := of_decide_eq_false h27;refine wp_exit ?_;refine hK2 _ _ (cSR fun K10 hK10=>?_);clear hK2
  refine sLr underlying46 rfl ?si F rfl rfl rfl (H.whole 0 rfl) ?_
  case si => exact info_size sizeOf46
  clear F a; intro a F;refine sCall call15 F rfl rfl rfl (Values_any _ p 5 _ (hP0.own H) (hN.own H)) ?_;rintro e w ⟨VA, VC, rfl, H2⟩;replace H := H.join H2; clear H2;refine ⟨_, rfl, ?_⟩;clear F a; intro a F;refine sMv F rfl rfl rfl (qExt rfl rfl rfl rfl (qExt rfl rfl rfl rfl (qAs rfl rfl rfl (qAs rfl rfl rfl (qNK hK10 ?_)))));clear hK10;clear F a;intro a F;refine cSeq (fun K11 hK11 => ?_);refine cSR fun K12 hK12=>?_
  refine sLr underlying46 rfl ?si F rfl rfl rfl (H.whole 1 rfl) ?_
  case si => exact info_size sizeOf46
  clear F a; intro a F;refine sCall call16 F rfl rfl rfl (right_any' _ p _ (hP0.own H) (hN.own H)) ?_;rintro e w ⟨rfl, hb⟩;replace H := H.grow hb; clear hb;refine ⟨_, rfl, ?_⟩;clear F a; intro a F;refine sBin F rfl rfl rfl rfl bNeq (qNK hK12 ?_);clear hK12;clear F a;intro a F
  refine cIf F rfl (fun h42 => ?_) (fun h42 => ?_)
  ·
   replace h42 := bneT h42
   have hvb := values_bad (p := p) (most := 5) (.inr (.inr h42))
   refine cSR fun K13 hK13=>sMv F rfl rfl rfl (qBin rfl rfl rfl rfl bEql (qMv rfl rfl rfl ?_));clear F a;intro a F
   refine F.split 45 rfl ?_ ?_ <;> (clear F; intro h45 F)
   ·
    replace h45 := beqT h45;refine sMv F rfl rfl rfl (qLen underlying23 rfl rfl rfl (qBin rfl rfl rfl rfl bEql (qPk rfl rfl rfl rfl (qMv rfl rfl rfl ?_))));clear F a;intro a F
    refine F.split 50 rfl ?_ ?_ <;> (clear F; intro h50 F)
    ·
     replace h50 := beqT h50;refine sCall call12 F rfl rfl rfl (awake8_any _ (hN.own H) (hT.own H)) ?_;rintro e w ⟨rfl, hb⟩;replace H := H.grow hb; clear hb;refine ⟨_, rfl, ?_⟩;clear F a; intro a F;refine sPk F rfl rfl rfl rfl (qAs rfl rfl rfl (qNK hK13 ?_));clear hK13;clear F a;intro a F;refine wp_ret ?_;simp only [Exit.then];refine bRet results5 F rfl ?_
     exact ⟨rfl, H.below⟩
    replace h50 := beqF h50
    exact absurd (by rw [hvb]; rfl) h50
   replace h45 := beqF h45
   exact absurd (by rw [hvb]; rfl) h45
  replace h42 := bneF h42
  have hr0 : rightErr p = 0 := h42
  have hV := valid hr0
  refine wp_skip (hK11 _ _ ?_);clear hK11;refine cSeq (fun K14 hK14 => ?_);refine cSR fun K15 hK15=>sMv F rfl rfl rfl (qBin rfl rfl rfl rfl bNeq (qNK hK15 ?_));clear hK15;clear F a;intro a F
  refine cIf F rfl (fun h54 => ?_) (fun h54 => ?_)
  ·
   replace h54 := bneT h54
   have hve := vals_err (p := p) (most := 5) (by decide) (by decide) hr0 (fun e => h54 (by rw [e]; rfl))
   refine cSR fun K16 hK16=>sMv F rfl rfl rfl (qBin rfl rfl rfl rfl bEql (qMv rfl rfl rfl ?_));clear F a;intro a F
   refine F.split 57 rfl ?_ ?_ <;> (clear F; intro h57 F)
   ·
    replace h57 := beqT h57;refine sMv F rfl rfl rfl (qLen underlying23 rfl rfl rfl (qBin rfl rfl rfl rfl bEql (qPk rfl rfl rfl rfl (qMv rfl rfl rfl ?_))));clear F a;intro a F
    refine F.split 62 rfl ?_ ?_ <;> (clear F; intro h62 F)
    ·
     replace h62 := beqT h62;refine sCall call12 F rfl rfl rfl (awake8_any _ (hN.own H) (hT.own H)) ?_;rintro e w ⟨rfl, hb⟩;replace H := H.grow hb; clear hb;refine ⟨_, rfl, ?_⟩;clear F a; intro a F;refine sPk F rfl rfl rfl rfl (qAs rfl rfl rfl (qNK hK16 ?_));clear hK16;clear F a;intro a F;refine wp_ret ?_;simp only [Exit.then];refine bRet results5 F rfl ?_
     exact ⟨rfl, H.below⟩
    replace h62 := beqF h62
    exact absurd (by rw [hve]; rfl) h62
   replace h57 := beqF h57
   exact absurd (by rw [hve]; rfl) h57
  replace h54 := bneF h54
  obtain ⟨dom, hdm⟩ : ∃ dom, dom = (valuesR p 5).1 := ⟨_, rfl⟩
  have hdv : valuesR p 5 = (dom, 0) := Prod.ext hdm.symm (by show (valuesR p 5).2 = 0; omega)
  have hVO := vals_of hr0 hdv
  rw [← hdm] at H F
  have hdl : dom.length ≤ 256 := by rw [← hVO.dist]; exact dist_le dom
  refine wp_skip (hK14 _ _ (cSR fun K17 hK17=>?_));clear hK14;refine sMk (n := 256) (z := .int .i64 0) (bytes := 8) H underlying51 (by kernel_rfl) rfl F rfl rfl rfl rfl (by omega) (by omega) ?_;clear F a H; intro b65 a w F H;refine sAs F rfl rfl rfl (qNK hK17 ?_);clear hK17;clear F a;intro a F;refine cSeq (fun K18 hK18 => ?_);refine cSR fun K19 hK19=>sFa (f := 2) (k := 2) underlying46 rfl sizeOf23 rfl rfl F rfl rfl rfl (qLd isAgg23 rfl rfl rfl (H.cell 2 rfl rfl) (qLen underlying23 rfl rfl rfl (qMv rfl rfl rfl (qNK hK19 ?_))));clear hK19;clear F a;intro a F;refine wp_block ?_;rw [mc_zero] at H
  refine cLoopR [1, 5, 7, 67, 68] (fun m ups w => ∃ (j : Nat) (M : Nat → Nat), m = p.init.length - j ∧ ups = [(69, .int .i64 ((j : Nat) : Int))] ∧ j ≤ p.init.length ∧ (∀ v, v < 256 → (0 < M v ↔ initW p j v)) ∧ (∀ v, M v ≤ j) ∧ Own w0 none w [.blk b65 (mCells M) 3, .rws 5 1 (.slice VA dom.length VC) (bRows dom), .blk b1 ([.string p.name, .slice LA p.locs.length LC, .slice IA p.init.length IC, .slice TA p.threads.length TC, Go.Proofs.YtklpiodciblabaaGreatDoor.b8 p.ask] ++ [d1, d2, d3, d4, d5]) 46]) F (p.init.length) [(69, .int .i64 ((0 : Nat) : Int))] (by repeat (first | exact SubR.nil | (apply SubR.cons; · rfl))) ?_ ?_ ?_
  · exact ⟨0, fun _ => 0, rfl, rfl, Nat.zero_le _, fun v _ => ⟨fun h => absurd h (Nat.lt_irrefl 0), fun ⟨u, hu, _⟩ => by simp at hu⟩, fun v => Nat.le_refl _, H⟩
  · repeat (first | exact trivial | refine Le.cons rfl ?_)
  clear F
  clear H
  intro m ups a w hI F
  obtain ⟨j, M, rfl, rfl, hj, hM, hMl, H⟩ := hI
  refine cSR fun K20 hK20=>sBin F rfl rfl rfl rfl bLss (qNK hK20 ?_);clear hK20;clear F a;intro a F;refine cSeq (fun K21 hK21 => ?_)
  refine cIf F rfl (fun h70 => ?_) (fun h70 => ?_)
  ·
   replace h70 := of_decide_eq_true h70
   have hjl : j < p.init.length := by omega
   obtain ⟨y, hy⟩ : ∃ y, p.init[j]? = some y := ⟨_, List.getElem?_eq_getElem hjl⟩
   obtain ⟨bY, oY, rfl, hcY⟩ := byteV_at hp.init hy
   have hMy := hMl y.toNat
   refine wp_skip (hK21 _ _ ?_);clear hK21;refine cSeq (fun K22 hK22 => ?_);refine wp_block ?_;refine cSR fun K23 hK23=>?_
   refine sIx underlying23 sizeOf5 F rfl rfl rfl rfl ?_ ?_
   focus exact hjl
   clear F a; intro a F;refine sLd isAgg5 F rfl rfl rfl (H.arg hcY) (qAs rfl rfl rfl (qNK hK23 (qReg (qMv rfl rfl rfl (qMv rfl rfl rfl ?_)))));clear hK23;clear F a;intro a F
   refine sIx underlying51 sizeOf3 F rfl rfl rfl rfl ?_ ?_
   focus exact UInt8.toNat_lt _
   clear F a; intro a F;refine sLd isAgg3 F rfl rfl rfl (show World.cell? _ ⟨b65, 0 + y.toNat * 1, none⟩ = some (.int .i64 (M y.toNat : Int)) by rw [Nat.zero_add, Nat.mul_one]; exact H.cell 0 rfl (mc_at (UInt8.toNat_lt _))) ?_;clear F a;intro a F
   refine sBin F rfl rfl rfl rfl (bAddN (j := 1) ?_) ?_
   focus omega
   clear F a; intro a F
   refine sIx underlying51 sizeOf3 F rfl rfl rfl rfl ?_ ?_
   focus exact UInt8.toNat_lt _
   clear F a; intro a F;refine sSt H 0 sizeOf3 F rfl rfl rfl rfl rfl (by rw [Nat.zero_add, Nat.mul_one]; exact mc_at (UInt8.toNat_lt _)) ?_;clear H; intro w H;rw [Nat.zero_add, Nat.mul_one, mc_set (UInt8.toNat_lt _)] at H;refine nK hK22 (cReg ?_);clear hK22
   refine sBin F rfl rfl rfl rfl (bAddN (j := 1) ?_) ?_
   focus omega
   clear F a; intro a F;refine sMv F rfl rfl rfl ?_;clear F a;intro a F;refine sNil ?_
   refine ⟨_, ?_, _, ⟨j + 1, putN M y.toNat (M y.toNat + 1), rfl, rfl, by omega, fun v hv => ?_, put_le hMl, H⟩, F.to (by repeat (first | exact trivial | refine Le.cons rfl ?_))⟩
   · omega
   · rw [initW_succ hy]; exact put_pos (hM v hv)
  replace h70 := of_decide_eq_false h70
  obtain rfl : j = p.init.length := by omega
  have hi6 : p.init.length ≤ 6 := by have := hV.init; have := hV.locs6; omega
  have hM2 : ∀ v, v < 256 → (0 < M v ↔ thrW p dom 0 v) := fun v hv => by
    rw [hM v hv]
    unfold initW thrW
    rw [List.take_length]
    exact ⟨.inl, fun h => h.resolve_right (fun ⟨l, hl, _⟩ => by simp at hl)⟩
  refine wp_exit ?_;refine hK18 _ _ ?_;clear hK18;refine cSeq (fun K24 hK24 => ?_);refine cSR fun K25 hK25=>sFa (f := 3) (k := 3) underlying46 rfl sizeOf41 rfl rfl F rfl rfl rfl (qLd isAgg41 rfl rfl rfl (H.cell 2 rfl rfl) (qLen underlying41 rfl rfl rfl (qMv rfl rfl rfl (qNK hK25 ?_))));clear hK25;clear F a;intro a F;refine wp_block ?_
  refine cLoopR [5, 7, 81, 82] (fun m ups w => ∃ (j : Nat) (M : Nat → Nat), m = p.threads.length - j ∧ ups = [(83, .int .i64 ((j : Nat) : Int))] ∧ j ≤ p.threads.length ∧ (∀ v, v < 256 → (0 < M v ↔ thrW p dom j v)) ∧ (∀ v, M v ≤ 6 + j * 98304) ∧ Own w0 none w [.blk b65 (mCells M) 3, .rws 5 1 (.slice VA dom.length VC) (bRows dom), .blk b1 ([.string p.name, .slice LA p.locs.length LC, .slice IA p.init.length IC, .slice TA p.threads.length TC, Go.Proofs.YtklpiodciblabaaGreatDoor.b8 p.ask] ++ [d1, d2, d3, d4, d5]) 46]) F (p.threads.length) [(83, .int .i64 ((0 : Nat) : Int))] (by repeat (first | exact SubR.nil | (apply SubR.cons; · rfl))) ?_ ?_ ?_
  · exact ⟨0, M, rfl, rfl, Nat.zero_le _, hM2, fun v => Nat.le_trans (hMl v) (by omega), H⟩
  · repeat (first | exact trivial | refine Le.cons rfl ?_)
  clear F
  clear H
  intro m ups a w hI F
  obtain ⟨j, M, rfl, rfl, hj, hM, hMl, H⟩ := hI
  refine cSR fun K26 hK26=>sBin F rfl rfl rfl rfl bLss (qNK hK26 ?_);clear hK26;clear F a;intro a F;refine cSeq (fun K27 hK27 => ?_)
  refine cIf F rfl (fun h84 => ?_) (fun h84 => ?_)
  ·
   replace h84 := of_decide_eq_true h84
   have hjl : j < p.threads.length := by omega
   have h4 := hV.thr4
   obtain ⟨l, hl⟩ : ∃ l, p.threads[j]? = some l := ⟨_, List.getElem?_eq_getElem hjl⟩
   obtain ⟨bT, oT, BT, CT, rfl, hT1, hT2, hT3⟩ := hp.threads j l hl
   have hl6 := thread_six8 hr0 hl
   have hfew := hVO.few l (List.mem_of_getElem? hl)
   have hpk : pathsR l dom 4096 = ((endsL l dom).map runPath, 0) := by
     have := paths_ok (l := l) (dom := dom) (most := 4096) (by decide) (by decide) hl6 (by rw [hVO.dist]; omega)
     rw [hVO.dist] at this
     exact this
   refine wp_skip (hK27 _ _ ?_);clear hK27;refine cSeq (fun K28 hK28 => ?_);refine wp_block ?_;refine cSR fun K29 hK29=>?_
   refine sIx underlying41 sizeOf22 F rfl rfl rfl rfl ?_ ?_
   focus exact hjl
   clear F a; intro a F;refine sLd isAgg22 F rfl rfl rfl (H.arg hT1) (qAs rfl rfl rfl (qNK hK29 (qSR fun K30 hK30=>qMv rfl rfl rfl (qMv rfl rfl rfl ?_))));clear hK29;clear F a;intro a F;refine sCall call17 F rfl rfl rfl (Paths_n BT CT l.length l VA VC dom.length dom 4096 _ (hT2.own H) rfl hT3 (H.rowsAt 1 rfl bRows_one (by omega)) rfl (by omega) (hN.own H) (hT.own H)) ?_;rintro e w ⟨ps, QA, QC, hps, rfl, H2⟩
   replace H := (H.join H2).perm List.perm_append_comm
   clear H2
   rw [hpk] at hps
   have hps : ps.map PlP.path = (endsL l dom).map runPath := hps
   have hpn : ps.length = (endsL l dom).length := by have := congrArg List.length hps; simpa using this
   refine ⟨_, rfl, ?_⟩;clear F a; intro a F;refine sMv F rfl rfl rfl (qExt rfl rfl rfl rfl (qExt rfl rfl rfl rfl (qAs rfl rfl rfl (qAs rfl rfl rfl (qNK hK30 ?_)))));clear hK30;clear F a;intro a F;refine cSeq (fun K31 hK31 => ?_);refine cSR fun K32 hK32=>sMv F rfl rfl rfl (qBin rfl rfl rfl rfl bNeq (qNK hK32 ?_));clear hK32;clear F a;intro a F
   refine cIf F rfl (fun h94 => ?_) (fun h94 => ?_)
   ·
    replace h94 := bneT h94
    exact absurd (by rw [hpk]; rfl) h94
   replace h94 := bneF h94;refine wp_skip (hK31 _ _ (cSR fun K33 hK33=>sMv F rfl rfl rfl (qLen underlying52 rfl rfl rfl (qMv rfl rfl rfl (qNK hK33 ?_)))));clear hK31 hK33;clear F a;intro a F;refine wp_block ?_
   refine cLoopR [5, 7, 81, 82, 83, 95, 96] (fun m ups w => ∃ (i : Nat) (M : Nat → Nat), m = ps.length - i ∧ ups = [(97, .int .i64 ((i : Nat) : Int))] ∧ i ≤ ps.length ∧ (∀ v, v < 256 → (0 < M v ↔ thrW p dom j v ∨ wroteL ((endsL l dom).take i) v = true)) ∧ (∀ v, M v ≤ 6 + j * 98304 + i * 24) ∧ Own w0 none w (.blk b65 (mCells M) 3 :: .rws 5 1 (.slice VA dom.length VC) (bRows dom) :: .blk b1 ([.string p.name, .slice LA p.locs.length LC, .slice IA p.init.length IC, .slice (some ⟨bT, oT, none⟩) p.threads.length TC, Go.Proofs.YtklpiodciblabaaGreatDoor.b8 p.ask] ++ [d1, d2, d3, d4, d5]) 46 :: .rws 28 12 (.slice QA ps.length QC) (ps.map PlP.cells) :: ps.flatMap PlP.res)) F (ps.length) [(97, .int .i64 ((0 : Nat) : Int))] (by repeat (first | exact SubR.nil | (apply SubR.cons; · rfl))) ?_ ?_ ?_
   · exact ⟨0, M, rfl, rfl, Nat.zero_le _, fun v hv => by rw [hM v hv]; exact ⟨.inl, fun h => h.resolve_right (fun h => by simp [wroteL] at h)⟩, fun v => Nat.le_trans (hMl v) (by omega), H⟩
   · repeat (first | exact trivial | refine Le.cons rfl ?_)
   clear F
   clear H
   intro m ups a w hI F
   obtain ⟨i, M, rfl, rfl, hi, hM, hMl, H⟩ := hI
   refine cSR fun K34 hK34=>sBin F rfl rfl rfl rfl bLss (qNK hK34 ?_);clear hK34;clear F a;intro a F;refine cSeq (fun K35 hK35 => ?_)
   refine cIf F rfl (fun h98 => ?_) (fun h98 => ?_)
   ·
    replace h98 := of_decide_eq_true h98
    have hil : i < ps.length := by omega
    obtain ⟨q, hq⟩ : ∃ q, ps[i]? = some q := ⟨_, List.getElem?_eq_getElem hil⟩
    obtain ⟨z, hz, hqz⟩ := ps_at hps hq
    have hzi : InvR l z := by
      obtain ⟨vs, _, hv⟩ := mem_ends.1 (List.mem_of_getElem? hz)
      exact hv.inv hl6 (inv_zero l)
    have hqs : smallP q.path = true := by rw [hqz]; exact small_run hl6 hzi
    have hzm : z.many ≤ 24 := by have := hzi.many; have := hzi.pc; have := thr_len hl6; omega
    have hql : q.path.evs.length = z.many := by rw [hqz]; exact evs_len z
    obtain ⟨bL, oL, hQA, hRL⟩ := H.rowsAt 3 rfl pl12 (by omega) i q.cells (by rw [List.getElem?_map, hq]; rfl)
    refine wp_skip (hK35 _ _ ?_);clear hK35;refine cSeq (fun K36 hK36 => ?_);refine wp_block ?_;refine cSR fun K37 hK37=>sIx (b := bL) (o := oL) underlying52 sizeOf28 F rfl rfl (by rw [← hQA]; rfl) rfl (by omega) ?_;clear F a;intro a F
    refine sLr underlying28 rfl ?si F rfl rfl rfl hRL ?_
    case si => exact info_size sizeOf28
    clear F a; intro a F;refine sAl H zeroValue28 F rfl rfl ?_;clear F a H; intro b15 a w F H
    refine sSr H 0 ?si F rfl rfl rfl ?s1 rfl rfl ?_
    case si => exact info_size sizeOf28
    case s1 => first | rfl | (repeat (first | exact one_nil | (apply one_cons; · first | rfl | assumption | exact one_bif rfl rfl)))
    clear H; intro w H;refine nK hK37 (cSR fun K38 hK38=>sFa (f := 0) (k := 0) underlying28 rfl sizeOf24 rfl rfl F rfl rfl rfl (qLd isAgg24 rfl rfl rfl (H.cell 0 rfl rfl) (qLen underlying24 rfl rfl rfl (qMv rfl rfl rfl (qNK hK38 ?_)))));clear hK37 hK38;clear F a;intro a F;refine wp_block ?_
    refine cLoopR [5, 7, 81, 82, 83, 95, 96, 97, 102, 103] (fun m ups w => ∃ (e : Nat) (M : Nat → Nat), m = z.many - e ∧ ups = [(104, .int .i64 ((e : Nat) : Int))] ∧ e ≤ z.many ∧ (∀ v, v < 256 → (0 < M v ↔ (thrW p dom j v ∨ wroteL ((endsL l dom).take i) v = true) ∨ wrote z e v = true)) ∧ (∀ v, M v ≤ 6 + j * 98304 + i * 24 + e) ∧ Own w0 none w (.blk b15 q.cells 28 :: .blk b65 (mCells M) 3 :: .rws 5 1 (.slice VA dom.length VC) (bRows dom) :: .blk b1 ([.string p.name, .slice LA p.locs.length LC, .slice IA p.init.length IC, .slice (some ⟨bT, oT, none⟩) p.threads.length TC, Go.Proofs.YtklpiodciblabaaGreatDoor.b8 p.ask] ++ [d1, d2, d3, d4, d5]) 46 :: .rws 28 12 (.slice QA ps.length QC) (ps.map PlP.cells) :: ps.flatMap PlP.res)) F (z.many) [(104, .int .i64 ((0 : Nat) : Int))] (by repeat (first | exact SubR.nil | (apply SubR.cons; · rfl))) ?_ ?_ ?_
    · exact ⟨0, M, rfl, rfl, Nat.zero_le _, fun v hv => by rw [hM v hv]; exact ⟨.inl, fun h => h.resolve_right (fun h => by simp [wrote] at h)⟩, hMl, H⟩
    · repeat (first | exact trivial | refine Le.cons rfl ?_)
    clear F
    clear H
    intro m ups a w hI F
    obtain ⟨e, M, rfl, rfl, he, hM, hMl, H⟩ := hI
    refine cSR fun K39 hK39=>sBin F rfl rfl rfl rfl bLss (qNK hK39 ?_);clear hK39;clear F a;intro a F;refine cSeq (fun K40 hK40 => ?_)
    refine cIf F rfl (fun h105 => ?_) (fun h105 => ?_)
    ·
     replace h105 := of_decide_eq_true h105
     have hel : e < q.path.evs.length := by omega
     obtain ⟨x, hx⟩ : ∃ x, q.path.evs[e]? = some x := ⟨_, List.getElem?_eq_getElem hel⟩
     have hxz : x = z.ev e := (ev_of (z := z) (by rw [hqz] at hx; exact hx)).2
     obtain ⟨bE, oE, hE1, hRE⟩ := (pl_at H.tail.tail.tail.tail hq hqs).evs e x.cells (evAt hx)
     have hMx := hMl x.val.toNat
     refine wp_skip (hK40 _ _ ?_);clear hK40;refine cSeq (fun K41 hK41 => ?_);refine wp_block ?_;refine cSR fun K42 hK42=>sIx (b := bE) (o := oE) underlying24 sizeOf34 F rfl rfl (by rw [← hE1]; rfl) rfl (by omega) ?_;clear F a;intro a F
     refine sLr underlying34 rfl ?si F rfl rfl rfl hRE ?_
     case si => exact info_size sizeOf34
     clear F a; intro a F;refine sAl H zeroValue34 F rfl rfl ?_;clear F a H; intro b17 a w F H
     refine sSr H 0 ?si F rfl rfl rfl ?s1 rfl rfl ?_
     case si => exact info_size sizeOf34
     case s1 => first | rfl | (repeat (first | exact one_nil | (apply one_cons; · first | rfl | assumption | exact one_bif rfl rfl)))
     clear H; intro w H;refine nK hK42 (cSR fun K43 hK43=>sFa (f := 1) (k := 1) underlying34 rfl sizeOf5 rfl rfl F rfl rfl rfl (qLd isAgg5 rfl rfl rfl (H.cell 0 rfl rfl) (qBin rfl rfl rfl rfl (bEqlB (y := 2)) (qNK hK43 ?_))));clear hK42 hK43;clear F a;intro a F
     refine cIf F rfl (fun h110 => ?_) (fun h110 => ?_)
     ·
      replace h110 := beqT h110
      have hkT := h110
      refine cReg (sMv F rfl rfl rfl (qFa (f := 3) (k := 3) underlying34 rfl sizeOf5 rfl rfl rfl rfl rfl (qLd isAgg5 rfl rfl rfl (H.cell 0 rfl rfl) ?_)));clear F a;intro a F
      refine sIx underlying51 sizeOf3 F rfl rfl rfl rfl ?_ ?_
      focus exact UInt8.toNat_lt _
      clear F a; intro a F;refine sLd isAgg3 F rfl rfl rfl (show World.cell? _ ⟨b65, 0 + x.val.toNat * 1, none⟩ = some (.int .i64 (M x.val.toNat : Int)) by rw [Nat.zero_add, Nat.mul_one]; exact H.cell 2 rfl (mc_at (UInt8.toNat_lt _))) ?_;clear F a;intro a F
      refine sBin F rfl rfl rfl rfl (bAddN (j := 1) ?_) ?_
      focus omega
      clear F a; intro a F
      refine sIx underlying51 sizeOf3 F rfl rfl rfl rfl ?_ ?_
      focus exact UInt8.toNat_lt _
      clear F a; intro a F;refine sSt H 2 sizeOf3 F rfl rfl rfl rfl rfl (by rw [Nat.zero_add, Nat.mul_one]; exact mc_at (UInt8.toNat_lt _)) ?_;clear H; intro w H;rw [Nat.zero_add, Nat.mul_one, mc_set (UInt8.toNat_lt _)] at H;refine nK hK41 (cReg ?_);clear hK41
      refine sBin F rfl rfl rfl rfl (bAddN (j := 1) ?_) ?_
      focus omega
      clear F a; intro a F;refine sMv F rfl rfl rfl ?_;clear F a;intro a F;refine sNil ?_
      have hws : ∀ v, wrote z (e + 1) v = (wrote z e v || evW x v) := fun v => by rw [hxz]; exact wrote_succ z e v
      first
      | (have hk : x.kind = 2 := hkT
         have hpq : ∀ v, v < 256 → (0 < putN M x.val.toNat (M x.val.toNat + 1) v ↔ (thrW p dom j v ∨ wroteL ((endsL l dom).take i) v = true) ∨ wrote z (e + 1) v = true) := fun v hv => by
           rw [hws];refine (put_pos (W := fun v => (thrW p dom j v ∨ wroteL ((endsL l dom).take i) v = true) ∨ wrote z e v = true) (hM v hv)).trans ?_
           simp only [evW, hk, beq_self_eq_true, Bool.true_and, Bool.or_eq_true, beq_iff_eq, or_assoc]
         exact ⟨_, by omega, _, ⟨e + 1, putN M x.val.toNat (M x.val.toNat + 1), rfl, rfl, by omega, hpq, put_le hMl, H.tail⟩, F.to (by repeat (first | exact trivial | refine Le.cons rfl ?_))⟩)
      | (have hk : ¬ x.kind = 2 := hkF
         have h9 : (x.kind == 2) = false := beq_eq_false_iff_ne.2 hk
         have hpq : ∀ v, v < 256 → (0 < M v ↔ (thrW p dom j v ∨ wroteL ((endsL l dom).take i) v = true) ∨ wrote z (e + 1) v = true) := fun v hv => by
           rw [hws, hM v hv]
           simp only [evW, h9, Bool.false_and, Bool.or_false]
         exact ⟨_, by omega, _, ⟨e + 1, M, rfl, rfl, by omega, hpq, fun v => Nat.le_succ_of_le (hMl v), H.tail⟩, F.to (by repeat (first | exact trivial | refine Le.cons rfl ?_))⟩)
     replace h110 := beqF h110
     have hkF := h110
     refine wp_skip (hK41 _ _ (cReg ?_));clear hK41
     refine sBin F rfl rfl rfl rfl (bAddN (j := 1) ?_) ?_
     focus omega
     clear F a; intro a F;refine sMv F rfl rfl rfl ?_;clear F a;intro a F;refine sNil ?_
     have hws : ∀ v, wrote z (e + 1) v = (wrote z e v || evW x v) := fun v => by rw [hxz]; exact wrote_succ z e v
     first
     | (have hk : x.kind = 2 := hkT
        have hpq : ∀ v, v < 256 → (0 < putN M x.val.toNat (M x.val.toNat + 1) v ↔ (thrW p dom j v ∨ wroteL ((endsL l dom).take i) v = true) ∨ wrote z (e + 1) v = true) := fun v hv => by
          rw [hws];refine (put_pos (W := fun v => (thrW p dom j v ∨ wroteL ((endsL l dom).take i) v = true) ∨ wrote z e v = true) (hM v hv)).trans ?_
          simp only [evW, hk, beq_self_eq_true, Bool.true_and, Bool.or_eq_true, beq_iff_eq, or_assoc]
        exact ⟨_, by omega, _, ⟨e + 1, putN M x.val.toNat (M x.val.toNat + 1), rfl, rfl, by omega, hpq, put_le hMl, H.tail⟩, F.to (by repeat (first | exact trivial | refine Le.cons rfl ?_))⟩)
     | (have hk : ¬ x.kind = 2 := hkF
        have h9 : (x.kind == 2) = false := beq_eq_false_iff_ne.2 hk
        have hpq : ∀ v, v < 256 → (0 < M v ↔ (thrW p dom j v ∨ wroteL ((endsL l dom).take i) v = true) ∨ wrote z (e + 1) v = true) := fun v hv => by
          rw [hws, hM v hv]
          simp only [evW, h9, Bool.false_and, Bool.or_false]
        exact ⟨_, by omega, _, ⟨e + 1, M, rfl, rfl, by omega, hpq, fun v => Nat.le_succ_of_le (hMl v), H.tail⟩, F.to (by repeat (first | exact trivial | refine Le.cons rfl ?_))⟩)
    replace h105 := of_decide_eq_false h105
    obtain rfl : e = z.many := by omega
    refine wp_exit ?_;refine hK36 _ _ (cReg ?_);clear hK36
    refine sBin F rfl rfl rfl rfl (bAddN (j := 1) ?_) ?_
    focus omega
    clear F a; intro a F;refine sMv F rfl rfl rfl ?_;clear F a;intro a F;refine sNil ?_
    refine ⟨_, ?_, _, ⟨i + 1, M, rfl, rfl, by omega, fun v hv => ?_, fun v => Nat.le_trans (hMl v) (by omega), H.tail⟩, F.to (by repeat (first | exact trivial | refine Le.cons rfl ?_))⟩
    · omega
    · rw [hM v hv, wroteL_take hz, Bool.or_eq_true, or_assoc]
   replace h98 := of_decide_eq_false h98
   obtain rfl : i = ps.length := by omega
   rw [hpn, List.take_length] at hM;refine wp_exit ?_;refine hK28 _ _ (cReg ?_);clear hK28
   refine sBin F rfl rfl rfl rfl (bAddN (j := 1) ?_) ?_
   focus omega
   clear F a; intro a F;refine sMv F rfl rfl rfl ?_;clear F a;intro a F;refine sNil ?_
   refine ⟨_, ?_, _, ⟨j + 1, M, rfl, rfl, by omega, fun v hv => ?_, fun v => Nat.le_trans (hMl v) (by omega), Own.front (xs := [_, _, _]) H⟩, F.to (by repeat (first | exact trivial | refine Le.cons rfl ?_))⟩
   · omega
   · rw [hM v hv, thrW_succ hl]
  replace h84 := of_decide_eq_false h84
  obtain rfl : j = p.threads.length := by omega
  have hMd : ∀ v, v < 256 → (0 < M v ↔ UInt8.ofNat v ∈ dom) := fun v hv => by
    rw [hM v hv, hVO.mem v hv]
    unfold thrW
    rw [List.take_length]
  refine wp_exit ?_;refine hK24 _ _ (cSR fun K44 hK44=>sAs F rfl rfl rfl (qNK hK44 ?_));clear hK24 hK44;clear F a;intro a F;refine cSeq (fun K45 hK45 => ?_);refine cSR fun K46 hK46=>sMv F rfl rfl rfl (qLen underlying23 rfl rfl rfl (qMv rfl rfl rfl (qNK hK46 ?_)));clear hK46;clear F a;intro a F;refine wp_block ?_
  refine cLoopR [5, 7, 18, 121, 122] (fun m ups w => ∃ i : Nat, m = dom.length - i ∧ ups = [(123, .int .i64 ((i : Nat) : Int))] ∧ i ≤ dom.length ∧ Own w0 none w [.blk b65 (mCells M) 3, .rws 5 1 (.slice VA dom.length VC) (bRows dom)]) F (dom.length) [(123, .int .i64 ((0 : Nat) : Int))] (by repeat (first | exact SubR.nil | (apply SubR.cons; · rfl))) ?_ ?_ ?_
  · exact ⟨0, rfl, rfl, Nat.zero_le _, H.sel [0, 1] rfl rfl⟩
  · repeat (first | exact trivial | refine Le.cons rfl ?_)
  clear F
  clear H
  intro m ups a w hI F
  obtain ⟨i, rfl, rfl, hi, H⟩ := hI
  refine cSR fun K47 hK47=>sBin F rfl rfl rfl rfl bLss (qNK hK47 ?_);clear hK47;clear F a;intro a F;refine cSeq (fun K48 hK48 => ?_)
  refine cIf F rfl (fun h124 => ?_) (fun h124 => ?_)
  ·
   replace h124 := of_decide_eq_true h124
   have hil : i < dom.length := by omega
   obtain ⟨v, hv⟩ : ∃ v, dom[i]? = some v := ⟨_, List.getElem?_eq_getElem hil⟩
   have hvd := List.mem_of_getElem? hv
   have hMv : 0 < M v.toNat := (hMd v.toNat (UInt8.toNat_lt v)).2 (by rw [show UInt8.ofNat v.toNat = v by simp]; exact hvd)
   obtain ⟨bV, oV, hVA, hcV⟩ := byteV_at (H.rowsAt 1 rfl bRows_one (by omega)) hv
   refine wp_skip (hK48 _ _ ?_);clear hK48;refine cSeq (fun K49 hK49 => ?_);refine wp_block ?_;refine cSR fun K50 hK50=>sMv F rfl rfl rfl (qIx (b := bV) (o := oV) underlying23 sizeOf5 rfl rfl (by rw [← hVA]; rfl) rfl (by omega) (qLd isAgg5 rfl rfl rfl hcV (qAs rfl rfl rfl (qAs rfl rfl rfl (qNK hK50 (qSR fun K51 hK51=>qMv rfl rfl rfl (qMv rfl rfl rfl ?_)))))));clear hK50;clear F a;intro a F
   refine sIx underlying51 sizeOf3 F rfl rfl rfl rfl ?_ ?_
   focus exact UInt8.toNat_lt _
   clear F a; intro a F;refine sLd isAgg3 F rfl rfl rfl (show World.cell? _ ⟨b65, 0 + v.toNat * 1, none⟩ = some (.int .i64 (M v.toNat : Int)) by rw [Nat.zero_add, Nat.mul_one]; exact H.cell 0 rfl (mc_at (UInt8.toNat_lt _))) (qBin rfl rfl rfl rfl bEql (qMv rfl rfl rfl ?_));clear F a;intro a F
   refine F.split 133 rfl ?_ ?_ <;> (clear F; intro h133 F)
   ·
    replace h133 := beqT h133
    omega
   replace h133 := beqF h133;refine sMv F rfl rfl rfl (qBin rfl rfl rfl rfl bGtr (qMv rfl rfl rfl ?_));clear F a;intro a F
   refine F.split 136 rfl ?_ ?_ <;> (clear F; intro h136 F)
   ·
    replace h136 := of_decide_eq_true h136
    have hi0 : 0 < i := by omega
    obtain ⟨u, hu⟩ : ∃ u, dom[i - 1]? = some u := ⟨_, List.getElem?_eq_getElem (by omega)⟩
    have huv := inc_next hVO.dist hu hv hi0
    obtain ⟨bV', oV', hVA', hcU⟩ := byteV_at (H.rowsAt 1 rfl bRows_one (by omega)) hu
    rw [hVA] at hVA'
    cases hVA'
    refine sMv F rfl rfl rfl (qMv rfl rfl rfl ?_);clear F a;intro a F
    refine sBin F rfl rfl rfl rfl (bSubN (j := 1) ?_ ?_) ?_
    focus omega
    focus omega
    clear F a; intro a F;refine sIx (b := bV) (o := oV) underlying23 sizeOf5 F rfl rfl (by rw [← hVA]; rfl) rfl (by omega) (qLd isAgg5 rfl rfl rfl hcU (qMv rfl rfl rfl (qBin rfl rfl rfl rfl bGeqB (qPk rfl rfl rfl rfl (qPk rfl rfl rfl rfl (qNK hK51 ?_))))));clear hK51;clear F a;intro a F
    refine cIf F rfl (fun h145 => ?_) (fun h145 => ?_)
    ·
     replace h145 := of_decide_eq_true h145
     exact absurd huv (Nat.not_lt.2 h145)
    replace h145 := of_decide_eq_false h145;refine wp_skip (hK49 _ _ (cReg ?_));clear hK49
    refine sBin F rfl rfl rfl rfl (bAddN (j := 1) ?_) ?_
    focus omega
    clear F a; intro a F;refine sMv F rfl rfl rfl ?_;clear F a;intro a F;refine sNil ?_
    refine ⟨_, ?_, _, ⟨i + 1, rfl, rfl, by omega, H.sel [0, 1] rfl rfl⟩, F.to (by repeat (first | exact trivial | refine Le.cons rfl ?_))⟩
    omega
   replace h136 := of_decide_eq_false h136;refine sSk F rfl rfl (qSk rfl rfl (qSk rfl rfl (qSk rfl rfl (qSk rfl rfl (qSk rfl rfl (qSk rfl rfl (qPk rfl rfl rfl rfl (qPk rfl rfl rfl rfl (qNK hK51 ?_)))))))));clear hK51;clear F a;intro a F;refine cIfF F rfl ?_;refine wp_skip (hK49 _ _ (cReg ?_));clear hK49
   refine sBin F rfl rfl rfl rfl (bAddN (j := 1) ?_) ?_
   focus omega
   clear F a; intro a F;refine sMv F rfl rfl rfl ?_;clear F a;intro a F;refine sNil ?_
   refine ⟨_, ?_, _, ⟨i + 1, rfl, rfl, by omega, H.sel [0, 1] rfl rfl⟩, F.to (by repeat (first | exact trivial | refine Le.cons rfl ?_))⟩
   omega
  replace h124 := of_decide_eq_false h124;refine wp_exit ?_;refine hK45 _ _ ?_;clear hK45;refine cSeq (fun K52 hK52 => ?_);refine cSR fun K53 hK53=>sMv F rfl rfl rfl (qLen underlying51 rfl rfl rfl (qMv rfl rfl rfl (qNK hK53 ?_)));clear hK53;clear F a;intro a F;refine wp_block ?_
  refine cLoopR [5, 147, 148] (fun m ups w => ∃ k : Nat, m = 256 - k ∧ ups = [(18, .int .i64 ((toldN M k : Nat) : Int)), (149, .int .i64 ((k : Nat) : Int))] ∧ k ≤ 256 ∧ Own w0 none w [.blk b65 (mCells M) 3]) F (256) [(18, .int .i64 ((0 : Nat) : Int)), (149, .int .i64 ((0 : Nat) : Int))] (by repeat (first | exact SubR.nil | (apply SubR.cons; · rfl))) ?_ ?_ ?_
  · exact ⟨0, rfl, rfl, Nat.zero_le _, H.sel [0] rfl rfl⟩
  · repeat (first | exact trivial | refine Le.cons rfl ?_)
  clear F
  clear H
  intro m ups a w hI F
  obtain ⟨k, rfl, rfl, hk, H⟩ := hI
  have hkl : toldN M k ≤ k := told_le M k
  refine cSR fun K54 hK54=>sBin F rfl rfl rfl rfl bLss (qNK hK54 ?_);clear hK54;clear F a;intro a F;refine cSeq (fun K55 hK55 => ?_)
  refine cIf F rfl (fun h150 => ?_) (fun h150 => ?_)
  ·
   replace h150 := of_decide_eq_true h150
   have hk2 : k < 256 := by omega
   refine wp_skip (hK55 _ _ ?_);clear hK55;refine cSeq (fun K56 hK56 => ?_);refine wp_block ?_;refine cSR fun K57 hK57=>?_
   refine sIx underlying51 sizeOf3 F rfl rfl rfl rfl ?_ ?_
   focus exact hk2
   clear F a; intro a F;refine sLd isAgg3 F rfl rfl rfl (show World.cell? _ ⟨b65, 0 + k * 1, none⟩ = some (.int .i64 (M k : Int)) by rw [Nat.zero_add, Nat.mul_one]; exact H.cell 0 rfl (mc_at hk2)) (qAs rfl rfl rfl (qNK hK57 (qSR fun K58 hK58=>qMv rfl rfl rfl (qBin rfl rfl rfl rfl bGtr (qNK hK58 ?_)))));clear hK57 hK58;clear F a;intro a F
   refine cIf F rfl (fun h154 => ?_) (fun h154 => ?_)
   ·
    replace h154 := of_decide_eq_true h154;refine cReg (sMv F rfl rfl rfl ?_);clear F a;intro a F
    refine sBin F rfl rfl rfl rfl (bAddN (j := 1) ?_) ?_
    focus omega
    clear F a; intro a F;refine sAs F rfl rfl rfl (qNK hK56 (qReg ?_));clear hK56;clear F a;intro a F
    refine sBin F rfl rfl rfl rfl (bAddN (j := 1) ?_) ?_
    focus omega
    clear F a; intro a F;refine sMv F rfl rfl rfl ?_;clear F a;intro a F;refine sNil ?_
    first
    | (rw [← told_T (M := M) (k := k) (by omega)] at F
       exact ⟨_, by omega, _, ⟨k + 1, rfl, rfl, by omega, H⟩, F.to (by repeat (first | exact trivial | refine Le.cons rfl ?_))⟩)
    | (rw [← told_F (M := M) (k := k) (by omega)] at F
       exact ⟨_, by omega, _, ⟨k + 1, rfl, rfl, by omega, H⟩, F.to (by repeat (first | exact trivial | refine Le.cons rfl ?_))⟩)
   replace h154 := of_decide_eq_false h154;refine wp_skip (hK56 _ _ (cReg ?_));clear hK56
   refine sBin F rfl rfl rfl rfl (bAddN (j := 1) ?_) ?_
   focus omega
   clear F a; intro a F;refine sMv F rfl rfl rfl ?_;clear F a;intro a F;refine sNil ?_
   first
   | (rw [← told_T (M := M) (k := k) (by omega)] at F
      exact ⟨_, by omega, _, ⟨k + 1, rfl, rfl, by omega, H⟩, F.to (by repeat (first | exact trivial | refine Le.cons rfl ?_))⟩)
   | (rw [← told_F (M := M) (k := k) (by omega)] at F
      exact ⟨_, by omega, _, ⟨k + 1, rfl, rfl, by omega, H⟩, F.to (by repeat (first | exact trivial | refine Le.cons rfl ?_))⟩)
  replace h150 := of_decide_eq_false h150
  obtain rfl : k = 256 := by omega
  have htl : toldN M 256 = dom.length := told_len hVO.dist hMd
  refine wp_exit ?_;refine hK52 _ _ (cSR fun K59 hK59=>sMv F rfl rfl rfl (qMv rfl rfl rfl (qLen underlying23 rfl rfl rfl (qBin rfl rfl rfl rfl bEql (qMv rfl rfl rfl ?_)))));clear hK52;clear F a;intro a F
  refine F.split 162 rfl ?_ ?_ <;> (clear F; intro h162 F)
  ·
   replace h162 := beqT h162;refine sCall call12 F rfl rfl rfl (awake8_any _ (hN.own H) (hT.own H)) ?_;rintro e w ⟨rfl, hb⟩;replace H := H.grow hb; clear hb;refine ⟨_, rfl, ?_⟩;clear F a; intro a F;refine sPk F rfl rfl rfl rfl (qAs rfl rfl rfl (qNK hK59 ?_));clear hK59;clear F a;intro a F;refine wp_ret ?_;refine bRet results5 F rfl ?_
   exact ⟨rfl, H.below⟩
  replace h162 := beqF h162
  omega
end Go.Proofs.YtklpiodciblabaaGreatDoor
