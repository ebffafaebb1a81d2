/-
  WALK2. slices.Sort at bytes: order2, median, medianAdjacent, choosePivot. Conditions: the slice is the caller's own.
-/
import Derived.Test.YtklpiodciblabaaGreatDoorSoG
set_option linter.unusedSimpArgs false
set_option linter.unusedVariables false
namespace Go.Proofs.YtklpiodciblabaaGreatDoor
open Go.RowKit
set_option maxRecDepth 100000
abbrev Res.cnt (b s : Nat) : Res := .blk b [.int .i64 (s : Int)] 3
theorem order2_any (g n c : Nat) (d : By) (x y b s : Nat) (W : World) (row : Option Nat) (rs : List Res) (w0 : World) (H : Own W row w0 (.cnt b s :: .byt g n c d :: rs)) (hx : x < n) (hy : y < n) (hn : n ≤ 1000000) (hs : s ≤ 1000) :
    Calls Tryz.prog 136 #[.slice (some ⟨g, 0, none⟩) n c, .int .i64 (x : Int), .int .i64 (y : Int), .pointer (some ⟨b, 0, none⟩)] w0 fun e w' => ∃ x' y' s' : Nat, e = .returned (.tuple #[.int .i64 (x' : Int), .int .i64 (y' : Int)]) ∧ (x' = x ∧ y' = y ∨ x' = y ∧ y' = x) ∧ s' ≤ s + 1 ∧ Own W row w' (.cnt b s' :: .byt g n c d :: rs) := by
  refine enterF Tryz.func136 rfl Tryz.ntmps136 rfl (fun a F => ?_);refine cSR fun K1 hK1=>sAs F rfl rfl rfl (qAs rfl rfl rfl (qNK hK1 ?_));clear hK1;clear F a;intro a F;refine cSeq (fun K2 hK2 => ?_);refine cSeq (fun K3 hK3 => ?_);refine cRegRO (by kernel_rfl) H ?_;replace H := H.drew;refine eTF 0 rfl (by kernel_rfl) F rfl rfl rfl (fun w=>rMv F rfl) H qq0 (qTF 1 rfl (by kernel_rfl) rfl rfl rfl (fun a F w=>rMv F rfl) H qq0 ?_);clear F a;intro a F
  refine eTakeF (k := 2) (i := 2) rfl (by kernel_rfl) F rfl rfl rfl (fun w => rIx Tryz.underlying23 Tryz.sizeOf5 F rfl rfl ?_) H (fun _ _ _ h => h) ?_
  focus (first | omega | decide | (simp; omega))
  clear F a; intro a F;refine eT 3 rfl (by kernel_rfl) F rfl rfl rfl rfl (fun w H=>rLd Tryz.isAgg5 F rfl (H.bytCell 1 rfl (by omega))) H qq0 (qTF 4 rfl (by kernel_rfl) rfl rfl rfl (fun a F w=>rMv F rfl) H qq0 (qTF 5 rfl (by kernel_rfl) rfl rfl rfl (fun a F w=>rMv F rfl) H qq0 ?_));clear F a;intro a F
  refine eTakeF (k := 6) (i := 6) rfl (by kernel_rfl) F rfl rfl rfl (fun w => rIx Tryz.underlying23 Tryz.sizeOf5 F rfl rfl ?_) H (fun _ _ _ h => h) ?_
  focus (first | omega | decide | (simp; omega))
  clear F a; intro a F;refine eT 7 rfl (by kernel_rfl) F rfl rfl rfl rfl (fun w H=>rLd Tryz.isAgg5 F rfl (H.bytCell 1 rfl (by omega))) H qq0 ?_;clear F a;intro a F;refine eOne (k := 8) (i := 8) rfl (by kernel_rfl) F rfl (oCall Tryz.call117 F rfl rfl (less_any (d y) (d x) _) ?_);rintro e w ⟨rfl, hb⟩;replace H := H.grow hb; clear hb;refine ⟨_, rfl, ?_⟩;clear F a; intro a F;refine ePartO (by kernel_rfl) H ?_;refine eNil (k := 9) (by kernel_rfl) ?_;refine hK3 _ _ ?_;clear hK3
  refine cIf F rfl (fun h18 => ?_) (fun h18 => ?_)
  ·
   refine cSR fun K4 hK4=>sMv F rfl rfl rfl (qNc rfl rfl rfl (qLd Tryz.isAgg3 rfl rfl rfl (H.cell 0 rfl rfl) ?_));clear F a;intro a F
   refine sBin F rfl rfl rfl rfl (bAddN (j := 1) ?_) ?_
   focus omega
   clear F a; intro a F;refine sNc F rfl rfl rfl ?_;clear F a;intro a F;refine sSt H 0 Tryz.sizeOf3 F rfl rfl rfl rfl rfl rfl ?_;clear H; intro w H;refine nK hK4 (cSR fun K5 hK5=>sMv F rfl rfl rfl (qMv rfl rfl rfl (qAs rfl rfl rfl (qAs rfl rfl rfl (qNK hK5 ?_)))));clear hK4 hK5;clear F a;intro a F;refine wp_ret ?_;simp only [Exit.then];refine bRet2 Tryz.results136 F rfl rfl ?_
   first
   | exact ⟨y, x, s + 1, rfl, .inr ⟨rfl, rfl⟩, Nat.le_refl _, H⟩
   | exact ⟨x, y, s, rfl, .inl ⟨rfl, rfl⟩, by omega, H⟩
  refine wp_skip (hK2 _ _ (cSR fun K6 hK6=>sMv F rfl rfl rfl (qMv rfl rfl rfl (qAs rfl rfl rfl (qAs rfl rfl rfl (qNK hK6 ?_))))));clear hK2 hK6;clear F a;intro a F;refine wp_ret ?_;refine bRet2 Tryz.results136 F rfl rfl ?_
  first
  | exact ⟨y, x, s + 1, rfl, .inr ⟨rfl, rfl⟩, Nat.le_refl _, H⟩
  | exact ⟨x, y, s, rfl, .inl ⟨rfl, rfl⟩, by omega, H⟩
theorem median_any (g n c : Nat) (d : By) (x y z b s : Nat) (W : World) (row : Option Nat) (rs : List Res) (w0 : World) (H : Own W row w0 (.cnt b s :: .byt g n c d :: rs)) (hx : x < n) (hy : y < n) (hz : z < n) (hn : n ≤ 1000000) (hs : s ≤ 900) :
    Calls Tryz.prog 131 #[.slice (some ⟨g, 0, none⟩) n c, .int .i64 (x : Int), .int .i64 (y : Int), .int .i64 (z : Int), .pointer (some ⟨b, 0, none⟩)] w0 fun e w' => ∃ r s' : Nat, e = .returned (.int .i64 (r : Int)) ∧ (r = x ∨ r = y ∨ r = z) ∧ s' ≤ s + 3 ∧ Own W row w' (.cnt b s' :: .byt g n c d :: rs) := by
  refine enterF Tryz.func131 rfl Tryz.ntmps131 rfl (fun a F => ?_);refine cSR fun K1 hK1=>sAs F rfl rfl rfl (qNK hK1 (qSR fun K2 hK2=>qMv rfl rfl rfl (qMv rfl rfl rfl (qMv rfl rfl rfl (qMv rfl rfl rfl ?_)))));clear hK1;clear F a;intro a F;refine sCall Tryz.call136 F rfl rfl rfl (order2_any g n c d x y b s W row rs _ H hx hy hn (by omega)) ?_;rintro e w ⟨x1, y1, s1, rfl, h1, hs1, H2⟩
  replace H := H2; clear H2
  refine ⟨_, rfl, ?_⟩;clear F a; intro a F;refine sMv F rfl rfl rfl (qExt rfl rfl rfl rfl (qExt rfl rfl rfl rfl (qAs rfl rfl rfl (qAs rfl rfl rfl (qNK hK2 (qSR fun K3 hK3=>qMv rfl rfl rfl (qMv rfl rfl rfl (qMv rfl rfl rfl (qMv rfl rfl rfl ?_)))))))));clear hK2;clear F a;intro a F;refine sCall Tryz.call136 F rfl rfl rfl (order2_any g n c d y1 z b s1 W row rs _ H (by omega) hz hn (by omega)) ?_;rintro e w ⟨y2, z2, s2, rfl, h2, hs2, H2⟩
  replace H := H2; clear H2
  refine ⟨_, rfl, ?_⟩;clear F a; intro a F;refine sMv F rfl rfl rfl (qExt rfl rfl rfl rfl (qExt rfl rfl rfl rfl (qAs rfl rfl rfl (qAs rfl rfl rfl (qNK hK3 (qSR fun K4 hK4=>qMv rfl rfl rfl (qMv rfl rfl rfl (qMv rfl rfl rfl (qMv rfl rfl rfl ?_)))))))));clear hK3;clear F a;intro a F;refine sCall Tryz.call136 F rfl rfl rfl (order2_any g n c d x1 y2 b s2 W row rs _ H (by omega) (by omega) hn (by omega)) ?_;rintro e w ⟨x3, y3, s3, rfl, h3, hs3, H2⟩
  replace H := H2; clear H2
  refine ⟨_, rfl, ?_⟩;clear F a; intro a F;refine sMv F rfl rfl rfl (qExt rfl rfl rfl rfl (qExt rfl rfl rfl rfl (qAs rfl rfl rfl (qAs rfl rfl rfl (qNK hK4 (qSR fun K5 hK5=>qMv rfl rfl rfl (qAs rfl rfl rfl (qNK hK5 ?_))))))));clear hK4 hK5;clear F a;intro a F;refine wp_ret ?_;refine bRet Tryz.results131 F rfl ?_
  exact ⟨y3, s3, rfl, by omega, by omega, H⟩
theorem medianAdj_any (g n c : Nat) (d : By) (x b s : Nat) (W : World) (row : Option Nat) (rs : List Res) (w0 : World) (H : Own W row w0 (.cnt b s :: .byt g n c d :: rs)) (hx : x + 1 < n) (hx0 : 0 < x) (hn : n ≤ 1000000) (hs : s ≤ 900) :
    Calls Tryz.prog 130 #[.slice (some ⟨g, 0, none⟩) n c, .int .i64 (x : Int), .pointer (some ⟨b, 0, none⟩)] w0 fun e w' => ∃ r s' : Nat, e = .returned (.int .i64 (r : Int)) ∧ x - 1 ≤ r ∧ r ≤ x + 1 ∧ s' ≤ s + 3 ∧ Own W row w' (.cnt b s' :: .byt g n c d :: rs) := by
  refine enterF Tryz.func130 rfl Tryz.ntmps130 rfl (fun a F => ?_);refine cSR fun K1 hK1=>sAs F rfl rfl rfl (qNK hK1 (qSR fun K2 hK2=>qMv rfl rfl rfl (qMv rfl rfl rfl ?_)));clear hK1;clear F a;intro a F
  refine sBin F rfl rfl rfl rfl (bSubN (j := 1) ?_ ?_) ?_
  focus omega
  focus omega
  clear F a; intro a F;refine sMv F rfl rfl rfl (qMv rfl rfl rfl ?_);clear F a;intro a F
  refine sBin F rfl rfl rfl rfl (bAddN (j := 1) ?_) ?_
  focus omega
  clear F a; intro a F;refine sMv F rfl rfl rfl ?_;clear F a;intro a F;refine sCall Tryz.call131 F rfl rfl rfl (median_any g n c d (x - 1) x (x + 1) b s W row rs _ H (by omega) (by omega) hx hn (by omega)) ?_;rintro e w ⟨r, s1, rfl, hr, hs1, H2⟩
  replace H := H2; clear H2
  refine ⟨_, rfl, ?_⟩;clear F a; intro a F;refine sAs F rfl rfl rfl (qNK hK2 ?_);clear hK2;clear F a;intro a F;refine wp_ret ?_;refine bRet Tryz.results130 F rfl ?_
  exact ⟨r, s1, rfl, by omega, by omega, hs1, H⟩
set_option maxHeartbeats 1000000 in
theorem choose_any (g n c : Nat) (d : By) (lo up : Nat) (W : World) (row : Option Nat) (rs : List Res) (w0 : World) (H : Own W row w0 (.byt g n c d :: rs)) (hb : up ≤ n) (hn : n ≤ 1000000) (hlo : lo + 12 < up) :
    Calls Tryz.prog 114 #[.slice (some ⟨g, 0, none⟩) n c, .int .i64 (lo : Int), .int .i64 (up : Int)] w0 fun e w' => ∃ (p : Nat) (h : Int), e = .returned (.tuple #[.int .i64 (p : Int), .int .i64 h]) ∧ lo ≤ p ∧ p < up ∧ Own W row w' (.byt g n c d :: rs) := by
  refine enterF Tryz.func114 rfl Tryz.ntmps114 rfl (fun a F => ?_);refine cSR fun K1 hK1=>sAs F rfl rfl rfl (qAs rfl rfl rfl (qNK hK1 (qSR fun K2 hK2=>qMv rfl rfl rfl (qMv rfl rfl rfl ?_))));clear hK1;clear F a;intro a F
  refine sBin F rfl rfl rfl rfl (bSubN ?_ ?_) ?_
  focus omega
  focus omega
  clear F a; intro a F;refine sAs F rfl rfl rfl (qNK hK2 (qSR fun K3 hK3=>?_));clear hK2;clear F a;intro a F;refine sAl H Tryz.zeroValue3 F rfl rfl ?_;clear F a H; intro b9 a w F H;refine nK hK3 (cSR fun K4 hK4=>sMv F rfl rfl rfl (qMv rfl rfl rfl ?_));clear hK3;clear F a;intro a F
  refine sBin F rfl rfl rfl rfl (bQuoN (j := 4) ?_ ?_) ?_
  focus omega
  focus first | omega | decide
  clear F a; intro a F
  refine sBin F rfl rfl rfl rfl (bMulT (j := 1) ?_) ?_
  focus omega
  clear F a; intro a F
  refine sBin F rfl rfl rfl rfl (bAddN ?_) ?_
  focus omega
  clear F a; intro a F;refine sAs F rfl rfl rfl (qNK hK4 (qSR fun K5 hK5=>qMv rfl rfl rfl (qMv rfl rfl rfl ?_)));clear hK4;clear F a;intro a F
  refine sBin F rfl rfl rfl rfl (bQuoN (j := 4) ?_ ?_) ?_
  focus omega
  focus first | omega | decide
  clear F a; intro a F
  refine sBin F rfl rfl rfl rfl (bMulT (j := 2) ?_) ?_
  focus omega
  clear F a; intro a F
  refine sBin F rfl rfl rfl rfl (bAddN ?_) ?_
  focus omega
  clear F a; intro a F;refine sAs F rfl rfl rfl (qNK hK5 (qSR fun K6 hK6=>qMv rfl rfl rfl (qMv rfl rfl rfl ?_)));clear hK5;clear F a;intro a F
  refine sBin F rfl rfl rfl rfl (bQuoN (j := 4) ?_ ?_) ?_
  focus omega
  focus first | omega | decide
  clear F a; intro a F
  refine sBin F rfl rfl rfl rfl (bMulT (j := 3) ?_) ?_
  focus omega
  clear F a; intro a F
  refine sBin F rfl rfl rfl rfl (bAddN ?_) ?_
  focus omega
  clear F a; intro a F;refine sAs F rfl rfl rfl (qNK hK6 ?_);clear hK6;clear F a;intro a F;refine cSeq (fun K7 hK7 => ?_);refine cSR fun K8 hK8=>sMv F rfl rfl rfl (qBin rfl rfl rfl rfl bGeq (qNK hK8 ?_));clear hK8;clear F a;intro a F
  refine cIf F rfl (fun h32 => ?_) (fun h32 => ?_)
  ·
   replace h32 := of_decide_eq_true h32;refine cSeq (fun K9 hK9 => ?_);refine cSR fun K10 hK10=>sMv F rfl rfl rfl (qBin rfl rfl rfl rfl bGeq (qNK hK10 ?_));clear hK10;clear F a;intro a F
   refine cIf F rfl (fun h34 => ?_) (fun h34 => ?_)
   ·
    replace h34 := of_decide_eq_true h34;refine cSR fun K11 hK11=>sMv F rfl rfl rfl (qMv rfl rfl rfl ?_);clear F a;intro a F;refine sCall Tryz.call130 F rfl rfl rfl (medianAdj_any g n c d (lo + (up - lo) / 4 * 1) b9 0 W row rs _ H (by omega) (by omega) hn (by omega)) ?_;rintro e w ⟨r1, s1, rfl, hr1, hr1', hs1, H2⟩
    replace H := H2; clear H2
    refine ⟨_, rfl, ?_⟩;clear F a; intro a F;refine sAs F rfl rfl rfl (qNK hK11 (qSR fun K12 hK12=>qMv rfl rfl rfl (qMv rfl rfl rfl ?_)));clear hK11;clear F a;intro a F;refine sCall Tryz.call130 F rfl rfl rfl (medianAdj_any g n c d (lo + (up - lo) / 4 * 2) b9 s1 W row rs _ H (by omega) (by omega) hn (by omega)) ?_;rintro e w ⟨r2, s2, rfl, hr2, hr2', hs2, H2⟩
    replace H := H2; clear H2
    refine ⟨_, rfl, ?_⟩;clear F a; intro a F;refine sAs F rfl rfl rfl (qNK hK12 (qReg (qMv rfl rfl rfl (qMv rfl rfl rfl ?_))));clear hK12;clear F a;intro a F;refine sCall Tryz.call130 F rfl rfl rfl (medianAdj_any g n c d (lo + (up - lo) / 4 * 3) b9 s2 W row rs _ H (by omega) (by omega) hn (by omega)) ?_;rintro e w ⟨r3, s3, rfl, hr3, hr3', hs3, H2⟩
    replace H := H2; clear H2
    refine ⟨_, rfl, ?_⟩;clear F a; intro a F;refine sAs F rfl rfl rfl (qNK hK9 (qReg (qMv rfl rfl rfl (qMv rfl rfl rfl (qMv rfl rfl rfl (qMv rfl rfl rfl ?_))))));clear hK9;clear F a;intro a F;refine sCall Tryz.call131 F rfl rfl rfl ((by first | exact median_any g n c d r1 r2 r3 b9 s3 W row rs _ H (by omega) (by omega) (by omega) hn (by omega) | exact median_any g n c d (lo + (up - lo) / 4 * 1) (lo + (up - lo) / 4 * 2) (lo + (up - lo) / 4 * 3) b9 0 W row rs _ H (by omega) (by omega) (by omega) hn (by omega))) ?_;rintro e w ⟨p, s4, rfl, hp, hs4, H2⟩
    replace H := H2; clear H2
    refine ⟨_, rfl, ?_⟩;clear F a; intro a F;refine sAs F rfl rfl rfl (qNK hK7 (qSR fun K13 hK13=>qLd Tryz.isAgg3 rfl rfl rfl (H.cell 0 rfl rfl) (qNK hK13 ?_)));clear hK7 hK13;clear F a;intro a F;refine wp_block ?_;refine cSR fun K14 hK14=>sBin F rfl rfl rfl rfl bEql (qAs rfl rfl rfl (qNK hK14 ?_));clear hK14;clear F a;intro a F
    refine cIf F rfl (fun h51 => ?_) (fun h51 => ?_)
    ·
     replace h51 := beqT h51;refine cSR fun K15 hK15=>sMv F rfl rfl rfl (qAs rfl rfl rfl (qAs rfl rfl rfl (qNK hK15 ?_)));clear hK15;clear F a;intro a F;refine wp_ret ?_;simp only [Exit.inBlock, Exit.then];refine bRet2 Tryz.results114 F rfl rfl ?_
     exact ⟨p, _, rfl, by omega, by omega, H.tail⟩
    replace h51 := beqF h51;refine cSR fun K16 hK16=>sBin F rfl rfl rfl rfl bEql (qAs rfl rfl rfl (qNK hK16 ?_));clear hK16;clear F a;intro a F
    refine cIf F rfl (fun h54 => ?_) (fun h54 => ?_)
    ·
     replace h54 := beqT h54;refine cSR fun K17 hK17=>sMv F rfl rfl rfl (qAs rfl rfl rfl (qAs rfl rfl rfl (qNK hK17 ?_)));clear hK17;clear F a;intro a F;refine wp_ret ?_;simp only [Exit.inBlock, Exit.then];refine bRet2 Tryz.results114 F rfl rfl ?_
     exact ⟨p, _, rfl, by omega, by omega, H.tail⟩
    replace h54 := beqF h54;refine cSR fun K18 hK18=>sMv F rfl rfl rfl (qAs rfl rfl rfl (qAs rfl rfl rfl (qNK hK18 ?_)));clear hK18;clear F a;intro a F;refine wp_ret ?_;simp only [Exit.inBlock, Exit.then];refine bRet2 Tryz.results114 F rfl rfl ?_
    exact ⟨p, _, rfl, by omega, by omega, H.tail⟩
   replace h34 := of_decide_eq_false h34;refine wp_skip (hK9 _ _ (cReg (sMv F rfl rfl rfl (qMv rfl rfl rfl (qMv rfl rfl rfl (qMv rfl rfl rfl ?_))))));clear hK9;clear F a;intro a F;refine sCall Tryz.call131 F rfl rfl rfl ((by first | exact median_any g n c d r1 r2 r3 b9 s3 W row rs _ H (by omega) (by omega) (by omega) hn (by omega) | exact median_any g n c d (lo + (up - lo) / 4 * 1) (lo + (up - lo) / 4 * 2) (lo + (up - lo) / 4 * 3) b9 0 W row rs _ H (by omega) (by omega) (by omega) hn (by omega))) ?_;rintro e w ⟨p, s4, rfl, hp, hs4, H2⟩
   replace H := H2; clear H2
   refine ⟨_, rfl, ?_⟩;clear F a; intro a F;refine sAs F rfl rfl rfl (qNK hK7 (qSR fun K19 hK19=>qLd Tryz.isAgg3 rfl rfl rfl (H.cell 0 rfl rfl) (qNK hK19 ?_)));clear hK7 hK19;clear F a;intro a F;refine wp_block ?_;refine cSR fun K20 hK20=>sBin F rfl rfl rfl rfl bEql (qAs rfl rfl rfl (qNK hK20 ?_));clear hK20;clear F a;intro a F
   refine cIf F rfl (fun h51 => ?_) (fun h51 => ?_)
   ·
    replace h51 := beqT h51;refine cSR fun K21 hK21=>sMv F rfl rfl rfl (qAs rfl rfl rfl (qAs rfl rfl rfl (qNK hK21 ?_)));clear hK21;clear F a;intro a F;refine wp_ret ?_;simp only [Exit.inBlock, Exit.then];refine bRet2 Tryz.results114 F rfl rfl ?_
    exact ⟨p, _, rfl, by omega, by omega, H.tail⟩
   replace h51 := beqF h51;refine cSR fun K22 hK22=>sBin F rfl rfl rfl rfl bEql (qAs rfl rfl rfl (qNK hK22 ?_));clear hK22;clear F a;intro a F
   refine cIf F rfl (fun h54 => ?_) (fun h54 => ?_)
   ·
    replace h54 := beqT h54;refine cSR fun K23 hK23=>sMv F rfl rfl rfl (qAs rfl rfl rfl (qAs rfl rfl rfl (qNK hK23 ?_)));clear hK23;clear F a;intro a F;refine wp_ret ?_;simp only [Exit.inBlock, Exit.then];refine bRet2 Tryz.results114 F rfl rfl ?_
    exact ⟨p, _, rfl, by omega, by omega, H.tail⟩
   replace h54 := beqF h54;refine cSR fun K24 hK24=>sMv F rfl rfl rfl (qAs rfl rfl rfl (qAs rfl rfl rfl (qNK hK24 ?_)));clear hK24;clear F a;intro a F;refine wp_ret ?_;simp only [Exit.inBlock, Exit.then];refine bRet2 Tryz.results114 F rfl rfl ?_
   exact ⟨p, _, rfl, by omega, by omega, H.tail⟩
  replace h32 := of_decide_eq_false h32
  omega
end Go.Proofs.YtklpiodciblabaaGreatDoor
