/-
  WALK2. slices.Sort at bytes: pdqsort. Conditions: the slice is the caller's own.
-/
import Derived.Test.YtklpiodciblabaaGreatDoorSoI
set_option linter.unusedSimpArgs false
set_option linter.unusedVariables false
namespace Go.Proofs.YtklpiodciblabaaGreatDoor
open Go.RowKit
set_option maxRecDepth 100000
theorem Pq.eqs {a0 b0 a b p m : Nat} {e f : By} (h : Pq a0 b0 a b e) (ha : 0 < a) (hp : a ≤ p) (hpb : p < b) (hle : ¬ (e (a - 1)).toNat < (e p).toNat) (hs : Sm a b e f) (hf : f a = e p) (hsm : ∀ k, a < k → k < m → (f k).toNat ≤ (f a).toNat) :
    ∀ i k, a ≤ i → i < m → a ≤ k → k < b → (f i).toNat ≤ (f k).toNat := fun i k h1 h2 h3 h4 => by
  have hpre : ∀ k, a ≤ k → k < b → (e (a - 1)).toNat ≤ (e k).toNat := by
    rcases h.pre with h5 | h5
    · omega
    · exact h5
  have h6 : (f a).toNat ≤ (f k).toNat := by
    rw [hf]
    exact hs.all (p := fun x => (e p).toNat ≤ x.toNat) (fun k h7 h8 => by have := hpre k h7 h8; omega) k h3 h4
  by_cases e1 : i = a
  · rw [e1]; exact h6
  · exact Nat.le_trans (hsm i (by omega) h2) h6
theorem Pq.preL {a0 b0 a b m : Nat} {e : By} (h : Pq a0 b0 a b e) (hm : m ≤ b) : a = 0 ∨ ∀ k, a ≤ k → k < m → (e (a - 1)).toNat ≤ (e k).toNat := by
  rcases h.pre with h1 | h1
  · exact .inl h1
  · exact .inr fun k h2 h3 => h1 k h2 (by omega)
theorem Sm.up {a0 b0 a b : Nat} {d e f : By} (h : Sm a0 b0 d e) (g : Sm a b e f) (q : Pq a0 b0 a b e) : Sm a0 b0 d f := h.trans (g.mono q.a0a q.bb0)
set_option maxHeartbeats 8000000 in
theorem pdq_any (g n c : Nat) (hn : n ≤ 1000000) (W : World) (row : Option Nat) (rs : List Res) : ∀ (K lo up lim : Nat) (d : By) (w0 : World), up - lo ≤ K → Own W row w0 (.byt g n c d :: rs) → up ≤ n → lo ≤ up → lim ≤ 1000 → (lo = 0 ∨ ∀ k, lo ≤ k → k < up → (d (lo - 1)).toNat ≤ (d k).toNat) →
    Calls Tryz.prog 86 #[.slice (some ⟨g, 0, none⟩) n c, .int .i64 (lo : Int), .int .i64 (up : Int), .int .i64 (lim : Int)] w0 fun e w' => e = .returned (.tuple #[]) ∧ ∃ d', Sm lo up d d' ∧ Srt lo up d' ∧ Own W row w' (.byt g n c d' :: rs) := by
  intro K
  induction K using Nat.strongRecOn with
  | ind K ih =>
    intro lo up lim d w0 hK H hb hlo hlim hpre
    refine enterF Tryz.func86 rfl Tryz.ntmps86 rfl (fun a F => ?_);refine cSR fun K1 hK1=>sAs F rfl rfl rfl (qNK hK1 (qSR fun K2 hK2=>qAs rfl rfl rfl (qNK hK2 ?_)));clear hK1 hK2;clear F a;intro a F;refine wp_block ?_
    refine cLoopR [0] (fun m ups w => ∃ (a b lim : Nat) (wb wp : Bool) (e : By), m = b - a ∧ ups = [(1, .int .i64 ((a : Nat) : Int)), (2, .int .i64 ((b : Nat) : Int)), (3, .int .i64 ((lim : Nat) : Int)), (8, .bool wb), (9, .bool wp)] ∧ lim ≤ 1000 ∧ Pq lo up a b e ∧ Sm lo up d e ∧ Own W row w (.byt g n c e :: rs)) F (up - lo) [(1, .int .i64 ((lo : Nat) : Int)), (2, .int .i64 ((up : Nat) : Int)), (3, .int .i64 ((lim : Nat) : Int)), (8, .bool true), (9, .bool true)] (by repeat (first | exact SubR.nil | (apply SubR.cons; · rfl))) ?_ ?_ ?_
    · exact ⟨lo, up, lim, true, true, d, rfl, rfl, hlim, Pq.start hlo hpre, Sm.refl _ _ _, H⟩
    · repeat (first | exact trivial | refine Le.cons rfl ?_)
    clear F
    clear H
    intro m ups a w hI F
    obtain ⟨a1, b1, lim1, wb, wp, e, rfl, rfl, hlim1, hq, hsm, H⟩ := hI; have q1 := hq.a0a; have q2 := hq.ab; have q3 := hq.bb0
    refine wp_block ?_;refine cSR fun K3 hK3=>sMv F rfl rfl rfl (qMv rfl rfl rfl ?_);clear F a;intro a F
    refine sBin F rfl rfl rfl rfl (bSubN ?_ ?_) ?_
    focus omega
    focus omega
    clear F a; intro a F;refine sAs F rfl rfl rfl (qNK hK3 ?_);clear hK3;clear F a;intro a F;refine cSeq (fun K4 hK4 => ?_);refine cSR fun K5 hK5=>sMv F rfl rfl rfl (qBin rfl rfl rfl rfl bLeq (qNK hK5 ?_));clear hK5;clear F a;intro a F
    refine cIf F rfl (fun h23 => ?_) (fun h23 => ?_)
    ·
     replace h23 := of_decide_eq_true h23;refine cSR fun K6 hK6=>sMv F rfl rfl rfl (qMv rfl rfl rfl (qMv rfl rfl rfl ?_));clear F a;intro a F;refine sCall Tryz.call111 F rfl rfl rfl (insSort_any g n c e a1 b1 W row rs _ H (by omega) hn q2) ?_;rintro e w ⟨rfl, e9, hs9, hr9, H2⟩
     replace H := H2; clear H2
     refine ⟨_, rfl, ?_⟩;clear F a; intro a F;refine nK hK6 ?_;clear hK6;refine wp_ret ?_;simp only [Exit.inBlock, Exit.then];refine bEndR Tryz.results86 F ?_
     first
     | exact ⟨rfl, e9, hsm.up hs9 hq, (hq.same hs9).done hr9, H⟩
     | exact ⟨rfl, e9, hsm.up hs9 hq, (hq.same hs9).done (hr9 h72), H⟩
    replace h23 := of_decide_eq_false h23
    have hlen : a1 + 12 < b1 := by omega
    refine wp_skip (hK4 _ _ ?_);clear hK4;refine cSeq (fun K7 hK7 => ?_);refine cSR fun K8 hK8=>sMv F rfl rfl rfl (qBin rfl rfl rfl rfl bEql (qNK hK8 ?_));clear hK8;clear F a;intro a F
    refine cIf F rfl (fun h29 => ?_) (fun h29 => ?_)
    ·
     replace h29 := beqT h29;refine cSR fun K9 hK9=>sMv F rfl rfl rfl (qMv rfl rfl rfl (qMv rfl rfl rfl ?_));clear F a;intro a F;refine sCall Tryz.call112 F rfl rfl rfl (heap_any g n c e a1 b1 W row rs _ H (by omega) hn (by omega)) ?_;rintro e w ⟨rfl, e9, hs9, hr9, H2⟩
     replace H := H2; clear H2
     refine ⟨_, rfl, ?_⟩;clear F a; intro a F;refine nK hK9 ?_;clear hK9;refine wp_ret ?_;simp only [Exit.inBlock, Exit.then];refine bEndR Tryz.results86 F ?_
     first
     | exact ⟨rfl, e9, hsm.up hs9 hq, (hq.same hs9).done hr9, H⟩
     | exact ⟨rfl, e9, hsm.up hs9 hq, (hq.same hs9).done (hr9 h72), H⟩
    replace h29 := beqF h29
    have hl1 : 1 ≤ lim1 := by omega
    refine wp_skip (hK7 _ _ ?_);clear hK7
    refine cSeqJ [0, 1, 2, 8, 9, 10] (fun ups w => ∃ (lim2 : Nat) (e2 : By), ups = [(3, .int .i64 ((lim2 : Nat) : Int))] ∧ lim2 ≤ 1000 ∧ Pq lo up a1 b1 e2 ∧ Sm lo up d e2 ∧ Own W row w (.byt g n c e2 :: rs)) F (by repeat (first | exact SubR.nil | (apply SubR.cons; · rfl))) ?_ ?_
    ·
     refine cSR fun K10 hK10=>sMv F rfl rfl rfl (qNot rfl rfl rfl (qNK hK10 ?_));clear hK10;clear F a;intro a F
     refine cIf F rfl (fun h35 => ?_) (fun h35 => ?_)
     ·
      replace h35 := notT h35;refine cSR fun K11 hK11=>sMv F rfl rfl rfl (qMv rfl rfl rfl (qMv rfl rfl rfl ?_));clear F a;intro a F;refine sCall Tryz.call113 F rfl rfl rfl (break_any g n c e a1 b1 W row rs _ H (by omega) hn hlen) ?_;rintro e w ⟨rfl, e2, hs2, H2⟩
      replace H := H2; clear H2
      refine ⟨_, rfl, ?_⟩;clear F a; intro a F;refine nK hK11 (cReg (sMv F rfl rfl rfl ?_));clear hK11;clear F a;intro a F
      refine sBin F rfl rfl rfl rfl (bSubN (j := 1) ?_ ?_) ?_
      focus omega
      focus omega
      clear F a; intro a F;refine sAs F rfl rfl rfl ?_;clear F a;intro a F;refine sNil ?_
      first
      | exact ⟨_, ⟨lim1 - 1, e2, rfl, by omega, hq.same hs2, hsm.up hs2 hq, H⟩, F.to (by repeat (first | exact trivial | refine Le.cons rfl ?_))⟩
      | exact ⟨_, ⟨lim1, e, rfl, hlim1, hq, hsm, H⟩, F.to (by repeat (first | exact trivial | refine Le.cons rfl ?_))⟩
     replace h35 := notF h35;refine wp_skip ?_
     first
     | exact ⟨_, ⟨lim1 - 1, e2, rfl, by omega, hq.same hs2, hsm.up hs2 hq, H⟩, F.to (by repeat (first | exact trivial | refine Le.cons rfl ?_))⟩
     | exact ⟨_, ⟨lim1, e, rfl, hlim1, hq, hsm, H⟩, F.to (by repeat (first | exact trivial | refine Le.cons rfl ?_))⟩
    clear F H
    intro ups a w hI F
    clear hq hsm; obtain ⟨lim2, e2, rfl, hlim2, hq, hsm, H⟩ := hI
    refine cSR fun K12 hK12=>sMv F rfl rfl rfl (qMv rfl rfl rfl (qMv rfl rfl rfl ?_));clear F a;intro a F;refine sCall Tryz.call114 F rfl rfl rfl (choose_any g n c e2 a1 b1 W row rs _ H (by omega) hn hlen) ?_;rintro e w ⟨p2, h2, rfl, hp2, hp2', H2⟩
    replace H := H2; clear H2
    refine ⟨_, rfl, ?_⟩;clear F a; intro a F;refine sMv F rfl rfl rfl (qExt rfl rfl rfl rfl (qExt rfl rfl rfl rfl (qAs rfl rfl rfl (qAs rfl rfl rfl (qNK hK12 ?_)))));clear hK12;clear F a;intro a F
    refine cSeqJ [0, 1, 2, 3, 8, 9, 10] (fun ups w => ∃ (p : Nat) (h : Int) (e3 : By), ups = [(11, .int .i64 ((p : Nat) : Int)), (12, .int .i64 h)] ∧ a1 ≤ p ∧ p < b1 ∧ Pq lo up a1 b1 e3 ∧ Sm lo up d e3 ∧ Own W row w (.byt g n c e3 :: rs)) F (by repeat (first | exact SubR.nil | (apply SubR.cons; · rfl))) ?_ ?_
    ·
     refine cSR fun K13 hK13=>sMv F rfl rfl rfl (qBin rfl rfl rfl rfl bEql (qNK hK13 ?_));clear hK13;clear F a;intro a F
     refine cIf F rfl (fun h50 => ?_) (fun h50 => ?_)
     ·
      replace h50 := beqT h50;refine cSR fun K14 hK14=>sMv F rfl rfl rfl (qMv rfl rfl rfl (qMv rfl rfl rfl ?_));clear F a;intro a F;refine sCall Tryz.call115 F rfl rfl rfl (revB_any g n c e2 a1 b1 W row rs _ H (by omega) hn (by omega)) ?_;rintro e w ⟨rfl, e3, hs3, H2⟩
      replace H := H2; clear H2
      refine ⟨_, rfl, ?_⟩;clear F a; intro a F;refine nK hK14 (cSR fun K15 hK15=>sMv F rfl rfl rfl ?_);clear hK14;clear F a;intro a F
      refine sBin F rfl rfl rfl rfl (bSubN (j := 1) ?_ ?_) ?_
      focus omega
      focus omega
      clear F a; intro a F;refine sMv F rfl rfl rfl (qMv rfl rfl rfl ?_);clear F a;intro a F
      refine sBin F rfl rfl rfl rfl (bSubN ?_ ?_) ?_
      focus omega
      focus omega
      clear F a; intro a F
      refine sBin F rfl rfl rfl rfl (bSubN ?_ ?_) ?_
      focus omega
      focus omega
      clear F a; intro a F;refine sAs F rfl rfl rfl (qNK hK15 (qReg (qAs rfl rfl rfl ?_)));clear hK15;clear F a;intro a F;refine sNil ?_
      first
      | exact ⟨_, ⟨b1 - 1 - (p2 - a1), 1, e3, rfl, by omega, by omega, hq.same hs3, hsm.up hs3 hq, H⟩, F.to (by repeat (first | exact trivial | refine Le.cons rfl ?_))⟩
      | exact ⟨_, ⟨p2, h2, e2, rfl, hp2, hp2', hq, hsm, H⟩, F.to (by repeat (first | exact trivial | refine Le.cons rfl ?_))⟩
     replace h50 := beqF h50;refine wp_skip ?_
     first
     | exact ⟨_, ⟨b1 - 1 - (p2 - a1), 1, e3, rfl, by omega, by omega, hq.same hs3, hsm.up hs3 hq, H⟩, F.to (by repeat (first | exact trivial | refine Le.cons rfl ?_))⟩
     | exact ⟨_, ⟨p2, h2, e2, rfl, hp2, hp2', hq, hsm, H⟩, F.to (by repeat (first | exact trivial | refine Le.cons rfl ?_))⟩
    clear F H
    intro ups a w hI F
    clear hq hsm; obtain ⟨p, h12, e3, rfl, hp, hp', hq, hsm, H⟩ := hI
    refine cSeqJ [0, 1, 2, 3, 8, 9, 10, 11] (fun ups w => ∃ (e4 : By), ups = [] ∧ Pq lo up a1 b1 e4 ∧ Sm lo up d e4 ∧ Own W row w (.byt g n c e4 :: rs)) F (by repeat (first | exact SubR.nil | (apply SubR.cons; · rfl))) ?_ ?_
    ·
     refine cSR fun K16 hK16=>sMv F rfl rfl rfl (qMv rfl rfl rfl ?_);clear F a;intro a F
     refine F.split 62 rfl ?_ ?_ <;> (clear F; intro h62 F)
     ·
      refine sMv F rfl rfl rfl (qPk rfl rfl rfl rfl (qMv rfl rfl rfl ?_));clear F a;intro a F
      refine F.split 65 rfl ?_ ?_ <;> (clear F; intro h65 F)
      ·
       refine sMv F rfl rfl rfl (qBin rfl rfl rfl rfl bEql (qPk rfl rfl rfl rfl (qNK hK16 ?_)));clear hK16;clear F a;intro a F
       refine cIf F rfl (fun h68 => ?_) (fun h68 => ?_)
       ·
        replace h68 := beqT h68;refine cSR fun K17 hK17=>sMv F rfl rfl rfl (qMv rfl rfl rfl (qMv rfl rfl rfl ?_));clear F a;intro a F;refine sCall Tryz.call116 F rfl rfl rfl (partIns_any g n c e3 a1 b1 W row rs _ H (by omega) hn (by omega) hq.pre) ?_;rintro e w ⟨r72, e9, rfl, hs9, hr9, H2⟩
        replace H := H2; clear H2
        refine ⟨_, rfl, ?_⟩;clear F a; intro a F;refine nK hK17 ?_;clear hK17
        refine cIf F rfl (fun h72 => ?_) (fun h72 => ?_)
        ·
         refine wp_ret ?_;simp only [Exit.inBlock, Exit.then];refine bEndR Tryz.results86 F ?_
         first
         | exact ⟨rfl, e9, hsm.up hs9 hq, (hq.same hs9).done hr9, H⟩
         | exact ⟨rfl, e9, hsm.up hs9 hq, (hq.same hs9).done (hr9 h72), H⟩
        refine wp_skip ?_
        first
        | exact ⟨_, ⟨e9, rfl, hq.same hs9, hsm.up hs9 hq, H⟩, F.to (by repeat (first | exact trivial | refine Le.cons rfl ?_))⟩
        | exact ⟨_, ⟨e3, rfl, hq, hsm, H⟩, F.to (by repeat (first | exact trivial | refine Le.cons rfl ?_))⟩
       replace h68 := beqF h68;refine wp_skip ?_
       first
       | exact ⟨_, ⟨e9, rfl, hq.same hs9, hsm.up hs9 hq, H⟩, F.to (by repeat (first | exact trivial | refine Le.cons rfl ?_))⟩
       | exact ⟨_, ⟨e3, rfl, hq, hsm, H⟩, F.to (by repeat (first | exact trivial | refine Le.cons rfl ?_))⟩
      refine sSk F rfl rfl (qSk rfl rfl (qPk rfl rfl rfl rfl (qNK hK16 ?_)));clear hK16;clear F a;intro a F;refine cIfF F rfl ?_;refine wp_skip ?_
      first
      | exact ⟨_, ⟨e9, rfl, hq.same hs9, hsm.up hs9 hq, H⟩, F.to (by repeat (first | exact trivial | refine Le.cons rfl ?_))⟩
      | exact ⟨_, ⟨e3, rfl, hq, hsm, H⟩, F.to (by repeat (first | exact trivial | refine Le.cons rfl ?_))⟩
     refine sSk F rfl rfl (qPk rfl rfl rfl rfl (qMv rfl rfl rfl (qSk rfl rfl (qSk rfl rfl (qPk rfl rfl rfl rfl (qNK hK16 ?_))))));clear hK16;clear F a;intro a F;refine cIfF F rfl ?_;refine wp_skip ?_
     first
     | exact ⟨_, ⟨e9, rfl, hq.same hs9, hsm.up hs9 hq, H⟩, F.to (by repeat (first | exact trivial | refine Le.cons rfl ?_))⟩
     | exact ⟨_, ⟨e3, rfl, hq, hsm, H⟩, F.to (by repeat (first | exact trivial | refine Le.cons rfl ?_))⟩
    clear F H
    intro ups a w hI F
    clear hq hsm; obtain ⟨e4, rfl, hq, hsm, H⟩ := hI
    refine cSeq (fun K18 hK18 => ?_);refine cSeq (fun K19 hK19 => ?_);refine cRegRO (by kernel_rfl) H ?_;replace H := H.drew;refine eTF 0 rfl (by kernel_rfl) F rfl rfl rfl (fun w=>rMv F rfl) H qq0 (qTF 1 rfl (by kernel_rfl) rfl rfl rfl (fun a F w=>rBin F rfl rfl bGtr) H qq0 (qTF 2 rfl (by kernel_rfl) rfl rfl rfl (fun a F w=>rMv F rfl) H qq0 ?_));clear F a;intro a F
    refine F.split 75 rfl ?_ ?_ <;> (clear F; intro h75 F)
    ·
     replace h75 := of_decide_eq_true h75
     have ha0 : 0 < a1 := by omega
     refine eTF 3 rfl (by kernel_rfl) F rfl rfl rfl (fun w=>rMv F rfl) H qq0 (qTF 4 rfl (by kernel_rfl) rfl rfl rfl (fun a F w=>rMv F rfl) H qq0 ?_);clear F a;intro a F
     refine eTakeF (k := 5) (i := 5) rfl (by kernel_rfl) F rfl rfl rfl (fun w => rBin F rfl rfl (bSubN (j := 1) ?_ ?_)) H (fun _ _ _ h => h) ?_
     focus omega
     focus omega
     clear F a; intro a F
     refine eTakeF (k := 6) (i := 6) rfl (by kernel_rfl) F rfl rfl rfl (fun w => rIx Tryz.underlying23 Tryz.sizeOf5 F rfl rfl ?_) H (fun _ _ _ h => h) ?_
     focus (first | omega | decide | (simp; omega))
     clear F a; intro a F;refine eT 7 rfl (by kernel_rfl) F rfl rfl rfl rfl (fun w H=>rLd Tryz.isAgg5 F rfl (H.bytCell 0 rfl (by omega))) H qq0 (qTF 8 rfl (by kernel_rfl) rfl rfl rfl (fun a F w=>rMv F rfl) H qq0 (qTF 9 rfl (by kernel_rfl) rfl rfl rfl (fun a F w=>rMv F rfl) H qq0 ?_));clear F a;intro a F
     refine eTakeF (k := 10) (i := 10) rfl (by kernel_rfl) F rfl rfl rfl (fun w => rIx Tryz.underlying23 Tryz.sizeOf5 F rfl rfl ?_) H (fun _ _ _ h => h) ?_
     focus (first | omega | decide | (simp; omega))
     clear F a; intro a F;refine eT 11 rfl (by kernel_rfl) F rfl rfl rfl rfl (fun w H=>rLd Tryz.isAgg5 F rfl (H.bytCell 0 rfl (by omega))) H qq0 ?_;clear F a;intro a F;refine eOne (k := 12) (i := 12) rfl (by kernel_rfl) F rfl (oCall Tryz.call117 F rfl rfl (less_any (e4 (a1 - 1)) (e4 p) _) ?_);rintro e w ⟨rfl, hb⟩;replace H := H.grow hb; clear hb;refine ⟨_, rfl, ?_⟩;clear F a; intro a F;refine ePartO (by kernel_rfl) H ?_;refine eTF 13 rfl (by kernel_rfl) F rfl rfl rfl (fun w=>rNot F rfl) H qq0 (qTF 14 rfl (by kernel_rfl) rfl rfl rfl (fun a F w=>rPk F rfl rfl) H qq0 ?_);clear F a;intro a F;refine eNil (k := 15) (by kernel_rfl) ?_;refine hK19 _ _ ?_;clear hK19
     refine cIf F rfl (fun h87 => ?_) (fun h87 => ?_)
     ·
      replace h87 := notT h87;refine cSR fun K20 hK20=>sMv F rfl rfl rfl (qMv rfl rfl rfl (qMv rfl rfl rfl (qMv rfl rfl rfl ?_)));clear F a;intro a F;refine sCall Tryz.call118 F rfl rfl rfl (partEq_any g n c e4 a1 b1 p W row rs _ H (by omega) hn hp hp') ?_;rintro e w ⟨m5, e5, rfl, hs5, hm5, hm5', hf5, hg5, hg5', H2⟩
      replace H := H2; clear H2
      refine ⟨_, rfl, ?_⟩;clear F a; intro a F;refine sAs F rfl rfl rfl (qNK hK20 (qSR fun K21 hK21=>qMv rfl rfl rfl (qAs rfl rfl rfl (qNK hK21 ?_))));clear hK20 hK21;clear F a;intro a F;refine wp_exit ?_
      first
      | (have h87' : ¬ (e4 (a1 - 1)).toNat < (e4 p).toNat := by simpa using h87
         have hle := hq.eqs ha0 hp hp' h87' hs5 hf5 hg5
         exact ⟨_, by omega, _, ⟨m5, b1, lim2, wb, wp, e5, rfl, rfl, hlim2, hq.goEq hs5 hm5 hm5' hle, hsm.up hs5 hq, H⟩, F.to (by repeat (first | exact trivial | refine Le.cons rfl ?_))⟩)
      | exact ⟨_, by omega, _, ⟨m5 + 1, b1, lim2, _, _, e6, rfl, rfl, hlim2, hq5.goRight hpt5 hs6 hr6, hsm5.trans (hs6.mono (by omega) (by omega)), H⟩, F.to (by repeat (first | exact trivial | refine Le.cons rfl ?_))⟩
      | exact ⟨_, by omega, _, ⟨a1, m5, lim2, _, _, e6, rfl, rfl, hlim2, hq5.goLeft hpt5 hs6 hr6, hsm5.trans (hs6.mono (by omega) (by omega)), H⟩, F.to (by repeat (first | exact trivial | refine Le.cons rfl ?_))⟩
     replace h87 := notF h87;refine wp_skip (hK18 _ _ (cSR fun K22 hK22=>sMv F rfl rfl rfl (qMv rfl rfl rfl (qMv rfl rfl rfl (qMv rfl rfl rfl ?_)))));clear hK18;clear F a;intro a F;refine sCall Tryz.call119 F rfl rfl rfl (part_any g n c e4 a1 b1 p W row rs _ H (by omega) hn hp hp') ?_;rintro e w ⟨m5, r5, e5, rfl, hs5, hpt5, H2⟩
     replace H := H2; clear H2
     have hq5 := hq.same hs5
     have hsm5 := hsm.up hs5 hq
     have hm1 := hpt5.am
     have hm2 := hpt5.mb
     refine ⟨_, rfl, ?_⟩;clear F a; intro a F;refine sMv F rfl rfl rfl (qExt rfl rfl rfl rfl (qExt rfl rfl rfl rfl (qAs rfl rfl rfl (qAs rfl rfl rfl (qNK hK22 (qSR fun K23 hK23=>qMv rfl rfl rfl (qAs rfl rfl rfl (qNK hK23 (qSR fun K24 hK24=>qMv rfl rfl rfl (qMv rfl rfl rfl ?_))))))))));clear hK22 hK23;clear F a;intro a F
     refine sBin F rfl rfl rfl rfl (bSubN ?_ ?_) ?_
     focus omega
     focus omega
     clear F a; intro a F;refine sMv F rfl rfl rfl (qMv rfl rfl rfl ?_);clear F a;intro a F
     refine sBin F rfl rfl rfl rfl (bSubN ?_ ?_) ?_
     focus omega
     focus omega
     clear F a; intro a F;refine sAs F rfl rfl rfl (qAs rfl rfl rfl (qNK hK24 (qSR fun K25 hK25=>qMv rfl rfl rfl ?_)));clear hK24;clear F a;intro a F
     refine sBin F rfl rfl rfl rfl (bQuoN (j := 8) ?_ ?_) ?_
     focus omega
     focus first | omega | decide
     clear F a; intro a F;refine sAs F rfl rfl rfl (qNK hK25 (qSR fun K26 hK26=>qMv rfl rfl rfl (qMv rfl rfl rfl (qBin rfl rfl rfl rfl bLss (qNK hK26 ?_)))));clear hK25 hK26;clear F a;intro a F
     refine cIf F rfl (fun h113 => ?_) (fun h113 => ?_)
     ·
      replace h113 := of_decide_eq_true h113;refine cSR fun K27 hK27=>sMv F rfl rfl rfl (qMv rfl rfl rfl (qBin rfl rfl rfl rfl bGeq (qAs rfl rfl rfl (qNK hK27 (qSR fun K28 hK28=>qMv rfl rfl rfl (qMv rfl rfl rfl (qMv rfl rfl rfl (qMv rfl rfl rfl ?_))))))));clear hK27;clear F a;intro a F;refine sCall Tryz.call86 F rfl rfl rfl (ih (m5 - a1) (by omega) a1 m5 lim2 e5 _ (Nat.le_refl _) H (by omega) hm1 hlim2 (hq5.preL (by omega))) ?_;rintro e w ⟨rfl, e6, hs6, hr6, H2⟩
      replace H := H2; clear H2
      refine ⟨_, rfl, ?_⟩;clear F a; intro a F;refine nK hK28 (cReg (sMv F rfl rfl rfl ?_));clear hK28;clear F a;intro a F
      refine sBin F rfl rfl rfl rfl (bAddN (j := 1) ?_) ?_
      focus omega
      clear F a; intro a F;refine sAs F rfl rfl rfl ?_;clear F a;intro a F;refine sNil ?_
      first
      | (have h87' : ¬ (e4 (a1 - 1)).toNat < (e4 p).toNat := by simpa using h87
         have hle := hq.eqs ha0 hp hp' h87' hs5 hf5 hg5
         exact ⟨_, by omega, _, ⟨m5, b1, lim2, wb, wp, e5, rfl, rfl, hlim2, hq.goEq hs5 hm5 hm5' hle, hsm.up hs5 hq, H⟩, F.to (by repeat (first | exact trivial | refine Le.cons rfl ?_))⟩)
      | exact ⟨_, by omega, _, ⟨m5 + 1, b1, lim2, _, _, e6, rfl, rfl, hlim2, hq5.goRight hpt5 hs6 hr6, hsm5.trans (hs6.mono (by omega) (by omega)), H⟩, F.to (by repeat (first | exact trivial | refine Le.cons rfl ?_))⟩
      | exact ⟨_, by omega, _, ⟨a1, m5, lim2, _, _, e6, rfl, rfl, hlim2, hq5.goLeft hpt5 hs6 hr6, hsm5.trans (hs6.mono (by omega) (by omega)), H⟩, F.to (by repeat (first | exact trivial | refine Le.cons rfl ?_))⟩
     replace h113 := of_decide_eq_false h113;refine cSR fun K29 hK29=>sMv F rfl rfl rfl (qMv rfl rfl rfl (qBin rfl rfl rfl rfl bGeq (qAs rfl rfl rfl (qNK hK29 (qSR fun K30 hK30=>qMv rfl rfl rfl (qMv rfl rfl rfl ?_))))));clear hK29;clear F a;intro a F
     refine sBin F rfl rfl rfl rfl (bAddN (j := 1) ?_) ?_
     focus omega
     clear F a; intro a F;refine sMv F rfl rfl rfl (qMv rfl rfl rfl ?_);clear F a;intro a F;refine sCall Tryz.call86 F rfl rfl rfl (ih (b1 - (m5 + 1)) (by omega) (m5 + 1) b1 lim2 e5 _ (Nat.le_refl _) H (by omega) (by omega) hlim2 (.inr fun k h1 h2 => by rw [Nat.add_sub_cancel]; exact hpt5.big k (by omega) h2)) ?_;rintro e w ⟨rfl, e6, hs6, hr6, H2⟩
     replace H := H2; clear H2
     refine ⟨_, rfl, ?_⟩;clear F a; intro a F;refine nK hK30 (cReg (sMv F rfl rfl rfl (qAs rfl rfl rfl ?_)));clear hK30;clear F a;intro a F;refine sNil ?_
     first
     | (have h87' : ¬ (e4 (a1 - 1)).toNat < (e4 p).toNat := by simpa using h87
        have hle := hq.eqs ha0 hp hp' h87' hs5 hf5 hg5
        exact ⟨_, by omega, _, ⟨m5, b1, lim2, wb, wp, e5, rfl, rfl, hlim2, hq.goEq hs5 hm5 hm5' hle, hsm.up hs5 hq, H⟩, F.to (by repeat (first | exact trivial | refine Le.cons rfl ?_))⟩)
     | exact ⟨_, by omega, _, ⟨m5 + 1, b1, lim2, _, _, e6, rfl, rfl, hlim2, hq5.goRight hpt5 hs6 hr6, hsm5.trans (hs6.mono (by omega) (by omega)), H⟩, F.to (by repeat (first | exact trivial | refine Le.cons rfl ?_))⟩
     | exact ⟨_, by omega, _, ⟨a1, m5, lim2, _, _, e6, rfl, rfl, hlim2, hq5.goLeft hpt5 hs6 hr6, hsm5.trans (hs6.mono (by omega) (by omega)), H⟩, F.to (by repeat (first | exact trivial | refine Le.cons rfl ?_))⟩
    replace h75 := of_decide_eq_false h75;refine eSF 3 rfl (by kernel_rfl) F rfl rfl rfl H qq0 (qSF 4 rfl (by kernel_rfl) rfl rfl rfl H qq0 (qSF 5 rfl (by kernel_rfl) rfl rfl rfl H qq0 (qSF 6 rfl (by kernel_rfl) rfl rfl rfl H qq0 (qSF 7 rfl (by kernel_rfl) rfl rfl rfl H qq0 (qSF 8 rfl (by kernel_rfl) rfl rfl rfl H qq0 (qSF 9 rfl (by kernel_rfl) rfl rfl rfl H qq0 (qSF 10 rfl (by kernel_rfl) rfl rfl rfl H qq0 (qSF 11 rfl (by kernel_rfl) rfl rfl rfl H qq0 (qSF 12 rfl (by kernel_rfl) rfl rfl rfl H qq0 (qSF 13 rfl (by kernel_rfl) rfl rfl rfl H qq0 (qTF 14 rfl (by kernel_rfl) rfl rfl rfl (fun a F w=>rPk F rfl rfl) H qq0 ?_)))))))))));clear F a;intro a F;refine eNil (k := 15) (by kernel_rfl) ?_;refine hK19 _ _ ?_;clear hK19;refine cIfF F rfl ?_;refine wp_skip (hK18 _ _ (cSR fun K31 hK31=>sMv F rfl rfl rfl (qMv rfl rfl rfl (qMv rfl rfl rfl (qMv rfl rfl rfl ?_)))));clear hK18;clear F a;intro a F;refine sCall Tryz.call119 F rfl rfl rfl (part_any g n c e4 a1 b1 p W row rs _ H (by omega) hn hp hp') ?_;rintro e w ⟨m5, r5, e5, rfl, hs5, hpt5, H2⟩
    replace H := H2; clear H2
    have hq5 := hq.same hs5
    have hsm5 := hsm.up hs5 hq
    have hm1 := hpt5.am
    have hm2 := hpt5.mb
    refine ⟨_, rfl, ?_⟩;clear F a; intro a F;refine sMv F rfl rfl rfl (qExt rfl rfl rfl rfl (qExt rfl rfl rfl rfl (qAs rfl rfl rfl (qAs rfl rfl rfl (qNK hK31 (qSR fun K32 hK32=>qMv rfl rfl rfl (qAs rfl rfl rfl (qNK hK32 (qSR fun K33 hK33=>qMv rfl rfl rfl (qMv rfl rfl rfl ?_))))))))));clear hK31 hK32;clear F a;intro a F
    refine sBin F rfl rfl rfl rfl (bSubN ?_ ?_) ?_
    focus omega
    focus omega
    clear F a; intro a F;refine sMv F rfl rfl rfl (qMv rfl rfl rfl ?_);clear F a;intro a F
    refine sBin F rfl rfl rfl rfl (bSubN ?_ ?_) ?_
    focus omega
    focus omega
    clear F a; intro a F;refine sAs F rfl rfl rfl (qAs rfl rfl rfl (qNK hK33 (qSR fun K34 hK34=>qMv rfl rfl rfl ?_)));clear hK33;clear F a;intro a F
    refine sBin F rfl rfl rfl rfl (bQuoN (j := 8) ?_ ?_) ?_
    focus omega
    focus first | omega | decide
    clear F a; intro a F;refine sAs F rfl rfl rfl (qNK hK34 (qSR fun K35 hK35=>qMv rfl rfl rfl (qMv rfl rfl rfl (qBin rfl rfl rfl rfl bLss (qNK hK35 ?_)))));clear hK34 hK35;clear F a;intro a F
    refine cIf F rfl (fun h113 => ?_) (fun h113 => ?_)
    ·
     replace h113 := of_decide_eq_true h113;refine cSR fun K36 hK36=>sMv F rfl rfl rfl (qMv rfl rfl rfl (qBin rfl rfl rfl rfl bGeq (qAs rfl rfl rfl (qNK hK36 (qSR fun K37 hK37=>qMv rfl rfl rfl (qMv rfl rfl rfl (qMv rfl rfl rfl (qMv rfl rfl rfl ?_))))))));clear hK36;clear F a;intro a F;refine sCall Tryz.call86 F rfl rfl rfl (ih (m5 - a1) (by omega) a1 m5 lim2 e5 _ (Nat.le_refl _) H (by omega) hm1 hlim2 (hq5.preL (by omega))) ?_;rintro e w ⟨rfl, e6, hs6, hr6, H2⟩
     replace H := H2; clear H2
     refine ⟨_, rfl, ?_⟩;clear F a; intro a F;refine nK hK37 (cReg (sMv F rfl rfl rfl ?_));clear hK37;clear F a;intro a F
     refine sBin F rfl rfl rfl rfl (bAddN (j := 1) ?_) ?_
     focus omega
     clear F a; intro a F;refine sAs F rfl rfl rfl ?_;clear F a;intro a F;refine sNil ?_
     first
     | (have h87' : ¬ (e4 (a1 - 1)).toNat < (e4 p).toNat := by simpa using h87
        have hle := hq.eqs ha0 hp hp' h87' hs5 hf5 hg5
        exact ⟨_, by omega, _, ⟨m5, b1, lim2, wb, wp, e5, rfl, rfl, hlim2, hq.goEq hs5 hm5 hm5' hle, hsm.up hs5 hq, H⟩, F.to (by repeat (first | exact trivial | refine Le.cons rfl ?_))⟩)
     | exact ⟨_, by omega, _, ⟨m5 + 1, b1, lim2, _, _, e6, rfl, rfl, hlim2, hq5.goRight hpt5 hs6 hr6, hsm5.trans (hs6.mono (by omega) (by omega)), H⟩, F.to (by repeat (first | exact trivial | refine Le.cons rfl ?_))⟩
     | exact ⟨_, by omega, _, ⟨a1, m5, lim2, _, _, e6, rfl, rfl, hlim2, hq5.goLeft hpt5 hs6 hr6, hsm5.trans (hs6.mono (by omega) (by omega)), H⟩, F.to (by repeat (first | exact trivial | refine Le.cons rfl ?_))⟩
    replace h113 := of_decide_eq_false h113;refine cSR fun K38 hK38=>sMv F rfl rfl rfl (qMv rfl rfl rfl (qBin rfl rfl rfl rfl bGeq (qAs rfl rfl rfl (qNK hK38 (qSR fun K39 hK39=>qMv rfl rfl rfl (qMv rfl rfl rfl ?_))))));clear hK38;clear F a;intro a F
    refine sBin F rfl rfl rfl rfl (bAddN (j := 1) ?_) ?_
    focus omega
    clear F a; intro a F;refine sMv F rfl rfl rfl (qMv rfl rfl rfl ?_);clear F a;intro a F;refine sCall Tryz.call86 F rfl rfl rfl (ih (b1 - (m5 + 1)) (by omega) (m5 + 1) b1 lim2 e5 _ (Nat.le_refl _) H (by omega) (by omega) hlim2 (.inr fun k h1 h2 => by rw [Nat.add_sub_cancel]; exact hpt5.big k (by omega) h2)) ?_;rintro e w ⟨rfl, e6, hs6, hr6, H2⟩
    replace H := H2; clear H2
    refine ⟨_, rfl, ?_⟩;clear F a; intro a F;refine nK hK39 (cReg (sMv F rfl rfl rfl (qAs rfl rfl rfl ?_)));clear hK39;clear F a;intro a F;refine sNil ?_
    first
    | (have h87' : ¬ (e4 (a1 - 1)).toNat < (e4 p).toNat := by simpa using h87
       have hle := hq.eqs ha0 hp hp' h87' hs5 hf5 hg5
       exact ⟨_, by omega, _, ⟨m5, b1, lim2, wb, wp, e5, rfl, rfl, hlim2, hq.goEq hs5 hm5 hm5' hle, hsm.up hs5 hq, H⟩, F.to (by repeat (first | exact trivial | refine Le.cons rfl ?_))⟩)
    | exact ⟨_, by omega, _, ⟨m5 + 1, b1, lim2, _, _, e6, rfl, rfl, hlim2, hq5.goRight hpt5 hs6 hr6, hsm5.trans (hs6.mono (by omega) (by omega)), H⟩, F.to (by repeat (first | exact trivial | refine Le.cons rfl ?_))⟩
    | exact ⟨_, by omega, _, ⟨a1, m5, lim2, _, _, e6, rfl, rfl, hlim2, hq5.goLeft hpt5 hs6 hr6, hsm5.trans (hs6.mono (by omega) (by omega)), H⟩, F.to (by repeat (first | exact trivial | refine Le.cons rfl ?_))⟩
end Go.Proofs.YtklpiodciblabaaGreatDoor
