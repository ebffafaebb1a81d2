/-
  WALK2. The law RunsMost. Conditions: the program lies in memory; block 0 holds the table of needs.
-/
import Derived.Test.YtbgnapmaimkpkaaGreatDoorRnX
set_option linter.unusedSimpArgs false
set_option linter.unusedVariables false
namespace Go.Proofs.YtbgnapmaimkpkaaGreatDoor
open Go.RowKit
set_option maxRecDepth 100000
theorem st_any {p : Prg} {m : UInt8} {n : Int} {fd : Fnd} (h : statesR p m n = some fd) : statesE p m n = 0 := by
  unfold statesR at h
  unfold statesE
  split at h
  · rename_i hC
    rw [if_pos hC, h]; rfl
  · cases h
theorem states_neg {p : Prg} {m : UInt8} {n : Int} (h : ¬ statesC p m n) : statesE p m n = 2 ∧ statesR p m n = none := ⟨if_neg h, if_neg h⟩
theorem states_pos {p : Prg} {m : UInt8} {n : Int} (h : statesC p m n) : (statesE p m n = 5 ∧ statesR p m n = none) ∨ (statesE p m n = 0 ∧ ∃ fd, statesR p m n = some fd ∧ reachR p m n.toNat = some fd) := by
  rw [statesE, statesR, if_pos h, if_pos h]
  cases h2 : reachR p m n.toNat with
  | none => exact .inl ⟨rfl, rfl⟩
  | some fd => exact .inr ⟨rfl, fd, rfl, rfl⟩
theorem most_facts {p : Prg} {m : UInt8} {fd : Fnd} (h : statesR p m 600 = some fd) (n : Int) (h1 : 0 < n) (h2 : n ≤ 65536) :
    ((fd.list.length : Int) ≤ n → statesE p m n = 0 ∧ statesR p m n = some fd) ∧ (n < (fd.list.length : Int) → statesE p m n = 5 ∧ statesR p m n = none) := by
  obtain ⟨fd', h3, hI, _, hr, hk⟩ := states_some (n := 600) (st_any h)
  rw [h] at h3
  cases h3
  have hC : statesC p m n := ⟨hk, by omega, h2, hr⟩
  have hC6 : statesC p m 600 := ⟨hk, by decide, by decide, hr⟩
  have h6 : reachR p m 600 = some fd := (if_pos hC6).symm.trans h
  have hl := reach_lim (B := n.toNat) hr hk (by decide) (by omega) h6
  constructor
  · intro hle
    have := hl.1 (by omega)
    rw [statesE, statesR, if_pos hC, if_pos hC, this]
    exact ⟨rfl, rfl⟩
  · intro hlt
    have := hl.2 (by omega)
    rw [statesE, statesR, if_pos hC, if_pos hC, this]
    exact ⟨rfl, rfl⟩
theorem most_ok {p : Prg} {m : UInt8} (h : statesE p m 600 = 0) : rightErr p = 0 ∧ (1 : UInt8) ≤ m ∧ m ≤ 3 ∧ 1 ≤ (fo (statesR p m 600)).ends.length ∧ (fo (statesR p m 600)).ends.length ≤ (fo (statesR p m 600)).list.length ∧ (fo (statesR p m 600)).list.length ≤ 600 ∧ ∃ fd, statesR p m 600 = some fd := by
  obtain ⟨fd, h3, hI, _, hr, hk⟩ := states_some h
  rw [h3]
  show _ ∧ _ ∧ _ ∧ 1 ≤ fd.ends.length ∧ fd.ends.length ≤ fd.list.length ∧ fd.list.length ≤ 600 ∧ _
  have h1 := ends_pos hI
  have h2 : fd.ends.length ≤ fd.list.length := by
    rw [hI.ends]
    refine Nat.le_trans (List.length_filter_le _ _) ?_
    rw [List.length_range]; exact Nat.le_refl _
  have h4 := hI.many
  have hk2 : (1 : UInt8) ≤ m ∧ m ≤ 3 := by unfold knownM at hk; simpa using hk
  exact ⟨hr, hk2.1, hk2.2, Nat.pos_of_ne_zero (fun e => h1 (List.eq_nil_of_length_eq_zero e)), h2, h4, fd, rfl⟩
theorem most_bad {p : Prg} {m : UInt8} (h : statesE p m 600 ≠ 0) : (fo (statesR p m 600)).list.length = 0 ∧ (fo (statesR p m 600)).ends.length = 0 ∧ ((statesE p m 600 = 5 ∧ rightErr p = 0 ∧ (1 : UInt8) ≤ m ∧ m ≤ 3) ∨ (statesE p m 600 = 2 ∧ ¬ (rightErr p = 0 ∧ (1 : UInt8) ≤ m ∧ m ≤ 3))) := by
  have hn := states_none h
  rw [hn]
  refine ⟨rfl, rfl, ?_⟩
  have hkn : knownM m = true ↔ (1 : UInt8) ≤ m ∧ m ≤ 3 := by unfold knownM; simp
  by_cases hC : statesC p m 600
  · obtain ⟨h1, _, _, h4⟩ := hC
    have hC6 : statesC p m 600 := ⟨h1, by decide, by decide, h4⟩
    rcases states_pos hC6 with h2 | h2
    · exact .inl ⟨h2.1, h4, hkn.1 h1⟩
    · exact absurd h2.1 h
  · exact .inr ⟨(states_neg hC).1, fun ⟨h1, h2⟩ => hC ⟨hkn.2 h2, by decide, by decide, h1⟩⟩
theorem most_more {p : Prg} {m : UInt8} (h : statesE p m 600 = 0) (n : Int) : (1 ≤ n ∧ n ≤ 65536 ∧ ((fo (statesR p m 600)).list.length : Int) ≤ n ∧ statesE p m n = 0 ∧ (fo (statesR p m n)).list.length = (fo (statesR p m 600)).list.length) ∨ (1 ≤ n ∧ n ≤ 65536 ∧ n < ((fo (statesR p m 600)).list.length : Int) ∧ statesE p m n = 5 ∧ (fo (statesR p m n)).list.length = 0) ∨ (¬ (1 ≤ n ∧ n ≤ 65536) ∧ statesE p m n = 2) := by
  obtain ⟨fd, h3, _⟩ := states_some h
  by_cases hn : 1 ≤ n ∧ n ≤ 65536
  · have hf := most_facts h3 n (by omega) hn.2
    rw [h3]
    show (_ ∧ _ ∧ ((fd.list.length : Nat) : Int) ≤ n ∧ _ ∧ _ = fd.list.length) ∨ (_ ∧ _ ∧ n < ((fd.list.length : Nat) : Int) ∧ _ ∧ _) ∨ _
    rcases (by omega : n < (fd.list.length : Int) ∨ (fd.list.length : Int) ≤ n) with h1 | h1
    · obtain ⟨a1, a2⟩ := hf.2 h1
      exact .inr (.inl ⟨hn.1, hn.2, h1, a1, by rw [a2]; rfl⟩)
    · obtain ⟨a1, a2⟩ := hf.1 h1
      exact .inl ⟨hn.1, hn.2, h1, a1, by rw [a2]; rfl⟩
  · exact .inr (.inr ⟨hn, (states_neg (fun hC => hn ⟨hC.2.1, hC.2.2.1⟩)).1⟩)
theorem way_nil {p : Prg} {m : UInt8} {f : By} {n : Int} (h : statesE p m n ≠ 0) : wayL p m f n = [] ∧ wayE p m f n = statesE p m n := by
  unfold wayL wayE
  rw [states_none h, if_neg h]
  exact ⟨rfl, rfl⟩
set_option maxHeartbeats 1000000 in
theorem runsMost_any (cs : List Value) (p : Prg) (w0 : World) (hP : ProgAt w0 cs p) (hN : NeedsAt w0) (mc : UInt8) (most : Int) (hlo : -9223372036854775808 ≤ most) (hhi : most ≤ 9223372036854775807) (f : By) :
    Calls Tryz.prog 7 #[.agg cs.toArray, Go.Proofs.YtbgnapmaimkpkaaGreatDoor.b8 mc, .int .i64 most, .agg (bs 38 f).toArray] w0 fun e w' => e = .returned (.bool true) ∧ Below w0.heap.size w0 w' := by
  have H := Own.start w0 none
  have hP0 := hP
  obtain ⟨LA, LC, IA, IC, TA, TC, h, ccs, hp⟩ := hP
  obtain ⟨c1, c2, c3, c4, c5, rfl⟩ := len5 (condAt_len hp.cond)
  have hcs := hp.cs
  subst hcs
  have hkn : knownM mc = true ↔ (1 : UInt8) ≤ mc ∧ mc ≤ 3 := by unfold knownM; simp
  have hsm := states_many p mc 600
  refine enterF Tryz.func7 rfl Tryz.ntmps7 rfl (fun a F => ?_)
  refine cSeq (fun K1 hK1 => ?_)
  refine cReg ?_
  refine sBx H F rfl rfl rfl ?_
  clear F a H; intro b4 a w F H
  refine sBxB H F rfl rfl rfl ?_
  clear F a H; intro b7 a w F H
  refine sAs F rfl rfl rfl ?_;clear F a;intro a F
  refine sNil ?_
  refine hK1 _ _ ?_; clear hK1
  refine cSeq (fun K2 hK2 => ?_)
  refine cReg ?_
  refine sLr Tryz.underlying29 rfl ?si F rfl rfl rfl (H.whole 1 rfl) ?_
  case si => exact info_size Tryz.sizeOf29
  clear F a; intro a F
  refine sCall Tryz.call15 F rfl rfl rfl (right_any' _ p _ (hP0.own H) (hN.own H)) ?_
  rintro e w ⟨rfl, hb⟩
  replace H := H.grow hb; clear hb
  refine ⟨_, rfl, ?_⟩
  clear F a; intro a F
  refine sBin F rfl rfl rfl rfl bEql ?_;clear F a;intro a F
  refine sMv F rfl rfl rfl ?_;clear F a;intro a F
  refine F.split 29 rfl ?_ ?_ <;> (clear F; intro h29 F)
  ·
   replace h29 := beqT h29
   refine sMv F rfl rfl rfl ?_;clear F a;intro a F
   refine sBin F rfl rfl rfl rfl (bGeqB (y := 1)) ?_;clear F a;intro a F
   refine sPk F rfl rfl rfl rfl ?_;clear F a;intro a F
   refine sMv F rfl rfl rfl ?_;clear F a;intro a F
   refine F.split 33 rfl ?_ ?_ <;> (clear F; intro h33 F)
   ·
    replace h33 := of_decide_eq_true h33
    refine sMv F rfl rfl rfl ?_;clear F a;intro a F
    refine sBin F rfl rfl rfl rfl (bLeqB (y := 3)) ?_;clear F a;intro a F
    refine sPk F rfl rfl rfl rfl ?_;clear F a;intro a F
    refine sAs F rfl rfl rfl ?_;clear F a;intro a F
    refine sNil ?_
    refine hK2 _ _ ?_; clear hK2
    refine cSeq (fun K3 hK3 => ?_)
    refine cReg ?_
    refine sLr Tryz.underlying29 rfl ?si F rfl rfl rfl (H.whole 1 rfl) ?_
    case si => exact info_size Tryz.sizeOf29
    clear F a; intro a F
    refine sMv F rfl rfl rfl ?_;clear F a;intro a F
    refine sCall Tryz.call20 F rfl rfl rfl (count_any _ p _ (hP0.own H) (hN.own H) mc 600 (by decide) (by decide)) ?_
    rintro e w ⟨rfl, hb⟩
    replace H := H.grow hb; clear hb
    refine ⟨_, rfl, ?_⟩
    clear F a; intro a F
    refine sMv F rfl rfl rfl ?_;clear F a;intro a F
    refine sExt F rfl rfl rfl rfl ?_;clear F a;intro a F
    refine sExt F rfl rfl rfl rfl ?_;clear F a;intro a F
    refine sExt F rfl rfl rfl rfl ?_;clear F a;intro a F
    refine sAs F rfl rfl rfl ?_;clear F a;intro a F
    refine sAs F rfl rfl rfl ?_;clear F a;intro a F
    refine sAs F rfl rfl rfl ?_;clear F a;intro a F
    refine sNil ?_
    refine hK3 _ _ ?_; clear hK3
    refine cSeq (fun K4 hK4 => ?_)
    refine cSeq (fun K5 hK5 => ?_)
    refine cReg ?_
    refine sMv F rfl rfl rfl ?_;clear F a;intro a F
    refine sBin F rfl rfl rfl rfl bNeq ?_;clear F a;intro a F
    refine sNil ?_
    refine hK5 _ _ ?_; clear hK5
    refine cIf F rfl (fun h45 => ?_) (fun h45 => ?_)
    ·
     replace h45 := bneT h45
     have hbad := most_bad h45
     have hb : statesE p mc 600 = 5 ∨ statesE p mc 600 = 2 := hbad.2.2.imp (·.1) (·.1)
     have hb5 : statesE p mc 600 = 5 → rightErr p = 0 ∧ (1 : UInt8) ≤ mc ∧ mc ≤ 3 := fun e => by
      rcases hbad.2.2 with h | h
      · exact h.2
      · rw [e] at h; exact absurd h.1 (by decide)
     have hb2 : statesE p mc 600 = 2 → ¬ (rightErr p = 0 ∧ (1 : UInt8) ≤ mc ∧ mc ≤ 3) := fun e => by
      rcases hbad.2.2 with h | h
      · rw [e] at h; exact absurd h.1 (by decide)
      · exact h.2
     refine cSeq (fun K6 hK6 => ?_)
     refine cReg ?_
     refine sMv F rfl rfl rfl ?_;clear F a;intro a F
     refine sMv F rfl rfl rfl ?_;clear F a;intro a F
     refine sBin F rfl rfl rfl rfl (bAddI ?_) ?_
     focus omega
     clear F a; intro a F
     refine sBin F rfl rfl rfl rfl bEql ?_;clear F a;intro a F
     refine sMv F rfl rfl rfl ?_;clear F a;intro a F
     refine F.split 50 rfl ?_ ?_ <;> (clear F; intro h50 F)
     ·
      replace h50 := beqT h50
      refine sMv F rfl rfl rfl ?_;clear F a;intro a F
      refine sBin F rfl rfl rfl rfl bEql ?_;clear F a;intro a F
      refine sMv F rfl rfl rfl ?_;clear F a;intro a F
      refine F.split 53 rfl ?_ ?_ <;> (clear F; intro h53 F)
      ·
       replace h53 := beqT h53
       refine sMv F rfl rfl rfl ?_;clear F a;intro a F
       refine sPk F rfl rfl rfl rfl ?_;clear F a;intro a F
       refine sMv F rfl rfl rfl ?_;clear F a;intro a F
       refine F.split 56 rfl ?_ ?_ <;> (clear F; intro h56 F)
       ·
        replace h56 := of_decide_eq_true h56
        refine sSk F rfl rfl ?_;clear F a;intro a F
        refine sSk F rfl rfl ?_;clear F a;intro a F
        refine sSk F rfl rfl ?_;clear F a;intro a F
        refine sSk F rfl rfl ?_;clear F a;intro a F
        refine sSk F rfl rfl ?_;clear F a;intro a F
        refine sSk F rfl rfl ?_;clear F a;intro a F
        refine sPk F rfl rfl rfl rfl ?_;clear F a;intro a F
        refine sPk F rfl rfl rfl rfl ?_;clear F a;intro a F
        refine sMv F rfl rfl rfl ?_;clear F a;intro a F
        refine sCall Tryz.call14 F rfl rfl rfl (awake15_any _ (hN.own H)) ?_
        rintro e w ⟨rfl, hb⟩
        replace H := H.grow hb; clear hb
        refine ⟨_, rfl, ?_⟩
        clear F a; intro a F
        refine sPk F rfl rfl rfl rfl ?_;clear F a;intro a F
        refine sAs F rfl rfl rfl ?_;clear F a;intro a F
        refine sNil ?_
        refine hK6 _ _ ?_; clear hK6
        refine wp_ret ?_
        simp only [Exit.then]
        refine bRet Tryz.results7 F rfl ?_
        first
        | exact ⟨rfl, H.below⟩
        | exact absurd hok.2.1 h33
        | exact absurd hok.1 h29
       replace h56 := of_decide_eq_false h56
       exact absurd (hb5 h53).2.2 h56
      replace h53 := beqF h53
      refine sSk F rfl rfl ?_;clear F a;intro a F
      refine sPk F rfl rfl rfl rfl ?_;clear F a;intro a F
      refine sMv F rfl rfl rfl ?_;clear F a;intro a F
      refine sMv F rfl rfl rfl ?_;clear F a;intro a F
      refine sBin F rfl rfl rfl rfl bEql ?_;clear F a;intro a F
      refine sMv F rfl rfl rfl ?_;clear F a;intro a F
      refine F.split 59 rfl ?_ ?_ <;> (clear F; intro h59 F)
      ·
       replace h59 := beqT h59
       refine sMv F rfl rfl rfl ?_;clear F a;intro a F
       refine sNot F rfl rfl rfl ?_;clear F a;intro a F
       refine sPk F rfl rfl rfl rfl ?_;clear F a;intro a F
       refine sPk F rfl rfl rfl rfl ?_;clear F a;intro a F
       refine sPk F rfl rfl rfl rfl ?_;clear F a;intro a F
       refine sMv F rfl rfl rfl ?_;clear F a;intro a F
       refine F.split 65 rfl ?_ ?_ <;> (clear F; intro h65 F)
       ·
        replace h65 := notT h65
        replace h65 := of_decide_eq_false h65
        refine sCall Tryz.call14 F rfl rfl rfl (awake15_any _ (hN.own H)) ?_
        rintro e w ⟨rfl, hb⟩
        replace H := H.grow hb; clear hb
        refine ⟨_, rfl, ?_⟩
        clear F a; intro a F
        refine sPk F rfl rfl rfl rfl ?_;clear F a;intro a F
        refine sAs F rfl rfl rfl ?_;clear F a;intro a F
        refine sNil ?_
        refine hK6 _ _ ?_; clear hK6
        refine wp_ret ?_
        simp only [Exit.then]
        refine bRet Tryz.results7 F rfl ?_
        first
        | exact ⟨rfl, H.below⟩
        | exact absurd hok.2.1 h33
        | exact absurd hok.1 h29
       replace h65 := notF h65
       replace h65 := of_decide_eq_true h65
       exact absurd ⟨h29, h33, h65⟩ (hb2 h59)
      replace h59 := beqF h59
      exact absurd (hb.resolve_left h53) h59
     replace h50 := beqF h50
     exact absurd (by rw [hbad.1, hbad.2.1]; rfl) h50
    replace h45 := bneF h45
    have hok0 : statesE p mc 600 = 0 := h45
    have hok := most_ok hok0
    refine wp_skip ?_
    refine hK4 _ _ ?_; clear hK4
    refine cSeq (fun K7 hK7 => ?_)
    refine cSeq (fun K8 hK8 => ?_)
    refine cReg ?_
    refine sMv F rfl rfl rfl ?_;clear F a;intro a F
    refine sNot F rfl rfl rfl ?_;clear F a;intro a F
    refine sMv F rfl rfl rfl ?_;clear F a;intro a F
    refine F.split 70 rfl ?_ ?_ <;> (clear F; intro h70 F)
    ·
     replace h70 := notT h70
     replace h70 := of_decide_eq_false h70
     simp [hok.2.2.1] at h70
    replace h70 := notF h70
    replace h70 := of_decide_eq_true h70
    refine sMv F rfl rfl rfl ?_;clear F a;intro a F
    refine sBin F rfl rfl rfl rfl bLss ?_;clear F a;intro a F
    refine sPk F rfl rfl rfl rfl ?_;clear F a;intro a F
    refine sMv F rfl rfl rfl ?_;clear F a;intro a F
    refine F.split 74 rfl ?_ ?_ <;> (clear F; intro h74 F)
    ·
     replace h74 := of_decide_eq_true h74
     omega
    replace h74 := of_decide_eq_false h74
    have hlt : ¬ ((fo (statesR p mc 600)).list.length : Int) < ((fo (statesR p mc 600)).ends.length : Int) := by omega
    refine sMv F rfl rfl rfl ?_;clear F a;intro a F
    refine sMv F rfl rfl rfl ?_;clear F a;intro a F
    refine sBin F rfl rfl rfl rfl bGtr ?_;clear F a;intro a F
    refine sPk F rfl rfl rfl rfl ?_;clear F a;intro a F
    refine sNil ?_
    refine hK8 _ _ ?_; clear hK8
    refine cIf F rfl (fun h78 => ?_) (fun h78 => ?_)
    ·
     replace h78 := of_decide_eq_true h78
     exact absurd h78 hlt
    replace h78 := of_decide_eq_false h78
    refine wp_skip ?_
    refine hK7 _ _ ?_; clear hK7
    refine cSeq (fun K9 hK9 => ?_)
    refine cSeq (fun K10 hK10 => ?_)
    refine cReg ?_
    refine sMv F rfl rfl rfl ?_;clear F a;intro a F
    refine sBin F rfl rfl rfl rfl bGtr ?_;clear F a;intro a F
    refine sMv F rfl rfl rfl ?_;clear F a;intro a F
    refine F.split 81 rfl ?_ ?_ <;> (clear F; intro h81 F)
    ·
     replace h81 := of_decide_eq_true h81
     refine sMv F rfl rfl rfl ?_;clear F a;intro a F
     refine sBin F rfl rfl rfl rfl bLeq ?_;clear F a;intro a F
     refine sPk F rfl rfl rfl rfl ?_;clear F a;intro a F
     refine sNil ?_
     refine hK10 _ _ ?_; clear hK10
     refine cIf F rfl (fun h84 => ?_) (fun h84 => ?_)
     ·
      replace h84 := of_decide_eq_true h84
      have hmm := most_more hok0 most
      refine cSeq (fun K11 hK11 => ?_)
      refine cReg ?_
      refine sLr Tryz.underlying29 rfl ?si F rfl rfl rfl (H.whole 1 rfl) ?_
      case si => exact info_size Tryz.sizeOf29
      clear F a; intro a F
      refine sMv F rfl rfl rfl ?_;clear F a;intro a F
      refine sMv F rfl rfl rfl ?_;clear F a;intro a F
      refine sCall Tryz.call20 F rfl rfl rfl (count_any _ p _ (hP0.own H) (hN.own H) mc most hlo hhi) ?_
      rintro e w ⟨rfl, hb⟩
      replace H := H.grow hb; clear hb
      refine ⟨_, rfl, ?_⟩
      clear F a; intro a F
      refine sMv F rfl rfl rfl ?_;clear F a;intro a F
      refine sExt F rfl rfl rfl rfl ?_;clear F a;intro a F
      refine sExt F rfl rfl rfl rfl ?_;clear F a;intro a F
      refine sExt F rfl rfl rfl rfl ?_;clear F a;intro a F
      refine sAs F rfl rfl rfl ?_;clear F a;intro a F
      refine sAs F rfl rfl rfl ?_;clear F a;intro a F
      refine sAs F rfl rfl rfl ?_;clear F a;intro a F
      refine sNil ?_
      refine hK11 _ _ ?_; clear hK11
      refine cSeq (fun K12 hK12 => ?_)
      refine cReg ?_
      refine sMv F rfl rfl rfl ?_;clear F a;intro a F
      refine sBin F rfl rfl rfl rfl bEql ?_;clear F a;intro a F
      refine sMv F rfl rfl rfl ?_;clear F a;intro a F
      refine sMv F rfl rfl rfl ?_;clear F a;intro a F
      refine sBin F rfl rfl rfl rfl bGeq ?_;clear F a;intro a F
      refine sBin F rfl rfl rfl rfl (bBoolNe Tryz.underlying4) ?_;clear F a;intro a F
      refine sMv F rfl rfl rfl ?_;clear F a;intro a F
      refine F.split 99 rfl ?_ ?_ <;> (clear F; intro h99 F)
      ·
       replace h99 := nbeqT h99
       exact absurd (by
        rcases hmm with h | h | h
        · rw [h.2.2.2.1, decide_eq_true h.2.2.1]; rfl
        · rw [h.2.2.2.1, decide_eq_false (by omega)]; rfl
        · omega) h99
      replace h99 := nbeqF h99
      refine sMv F rfl rfl rfl ?_;clear F a;intro a F
      refine sBin F rfl rfl rfl rfl bEql ?_;clear F a;intro a F
      refine sMv F rfl rfl rfl ?_;clear F a;intro a F
      refine F.split 102 rfl ?_ ?_ <;> (clear F; intro h102 F)
      ·
       replace h102 := beqT h102
       refine sMv F rfl rfl rfl ?_;clear F a;intro a F
       refine sMv F rfl rfl rfl ?_;clear F a;intro a F
       refine sBin F rfl rfl rfl rfl bNeq ?_;clear F a;intro a F
       refine sPk F rfl rfl rfl rfl ?_;clear F a;intro a F
       refine sPk F rfl rfl rfl rfl ?_;clear F a;intro a F
       refine sMv F rfl rfl rfl ?_;clear F a;intro a F
       refine F.split 108 rfl ?_ ?_ <;> (clear F; intro h108 F)
       ·
        replace h108 := bneT h108
        omega
       replace h108 := bneF h108
       refine sMv F rfl rfl rfl ?_;clear F a;intro a F
       refine sBin F rfl rfl rfl rfl bNeq ?_;clear F a;intro a F
       refine sMv F rfl rfl rfl ?_;clear F a;intro a F
       refine F.split 111 rfl ?_ ?_ <;> (clear F; intro h111 F)
       ·
        replace h111 := bneT h111
        exact absurd h102 h111
       replace h111 := bneF h111
       refine sSk F rfl rfl ?_;clear F a;intro a F
       refine sSk F rfl rfl ?_;clear F a;intro a F
       refine sSk F rfl rfl ?_;clear F a;intro a F
       refine sSk F rfl rfl ?_;clear F a;intro a F
       refine sSk F rfl rfl ?_;clear F a;intro a F
       refine sSk F rfl rfl ?_;clear F a;intro a F
       refine sPk F rfl rfl rfl rfl ?_;clear F a;intro a F
       refine sPk F rfl rfl rfl rfl ?_;clear F a;intro a F
       refine sNil ?_
       refine hK12 _ _ ?_; clear hK12
       refine cIfF F rfl ?_
       refine wp_skip ?_
       refine hK9 _ _ ?_; clear hK9
       refine cSeq (fun K13 hK13 => ?_)
       refine cSeq (fun K14 hK14 => ?_)
       refine cReg ?_
       refine sMv F rfl rfl rfl ?_;clear F a;intro a F
       refine sBin F rfl rfl rfl rfl bGtr ?_;clear F a;intro a F
       refine sNil ?_
       refine hK14 _ _ ?_; clear hK14
       refine cIf F rfl (fun h155 => ?_) (fun h155 => ?_)
       ·
        replace h155 := of_decide_eq_true h155
        have hm1 := most_more hok0 (((fo (statesR p mc 600)).list.length : Int) - 1)
        have hE5 : statesE p mc (((fo (statesR p mc 600)).list.length : Int) - 1) = 5 := by omega
        have hW5 := way_nil (f := f) (p := p) (m := mc) (n := ((fo (statesR p mc 600)).list.length : Int) - 1) (by rw [hE5]; decide)
        have hWl : (wayL p mc f (((fo (statesR p mc 600)).list.length : Int) - 1)).length = 0 := by rw [hW5.1]; rfl
        refine cSeq (fun K15 hK15 => ?_)
        refine cReg ?_
        refine sLr Tryz.underlying29 rfl ?si F rfl rfl rfl (H.whole 1 rfl) ?_
        case si => exact info_size Tryz.sizeOf29
        clear F a; intro a F
        refine sMv F rfl rfl rfl ?_;clear F a;intro a F
        refine sMv F rfl rfl rfl ?_;clear F a;intro a F
        refine sBin F rfl rfl rfl rfl (bSubI ?_) ?_
        focus omega
        clear F a; intro a F
        refine sCall Tryz.call19 F rfl rfl rfl (finals_any _ p _ (hP0.own H) (hN.own H) mc _ (by omega) (by omega)) ?_
        rintro e w ⟨A4, k4, l4, rfl, hf4, H2⟩
        replace H := H.join H2; clear H2; have hl4 : l4.length = 0 := by rw [hf4.1 (by rw [hE5]; decide)]; rfl
        refine ⟨_, rfl, ?_⟩
        clear F a; intro a F
        refine sMv F rfl rfl rfl ?_;clear F a;intro a F
        refine sExt F rfl rfl rfl rfl ?_;clear F a;intro a F
        refine sExt F rfl rfl rfl rfl ?_;clear F a;intro a F
        refine sAs F rfl rfl rfl ?_;clear F a;intro a F
        refine sAs F rfl rfl rfl ?_;clear F a;intro a F
        refine sNil ?_
        refine hK15 _ _ ?_; clear hK15
        refine cSeq (fun K16 hK16 => ?_)
        refine cReg ?_
        refine sLr Tryz.underlying29 rfl ?si F rfl rfl rfl (H.whole 2 rfl) ?_
        case si => exact info_size Tryz.sizeOf29
        clear F a; intro a F
        refine sMv F rfl rfl rfl ?_;clear F a;intro a F
        refine sLrB Tryz.underlying47 rfl Tryz.sizeOf47 F rfl rfl rfl (H.whole 1 rfl) ?_;clear F a;intro a F
        refine sMv F rfl rfl rfl ?_;clear F a;intro a F
        refine sBin F rfl rfl rfl rfl (bSubI ?_) ?_
        focus omega
        clear F a; intro a F
        refine sCall Tryz.call21 F rfl rfl rfl (way_any _ p _ (hP0.own H) (hN.own H) mc f _ (by omega) (by omega)) ?_
        rintro e w ⟨A5, k5, rfl, H2⟩
        replace H := H.join H2; clear H2
        refine ⟨_, rfl, ?_⟩
        clear F a; intro a F
        refine sMv F rfl rfl rfl ?_;clear F a;intro a F
        refine sExt F rfl rfl rfl rfl ?_;clear F a;intro a F
        refine sExt F rfl rfl rfl rfl ?_;clear F a;intro a F
        refine sAs F rfl rfl rfl ?_;clear F a;intro a F
        refine sAs F rfl rfl rfl ?_;clear F a;intro a F
        refine sNil ?_
        refine hK16 _ _ ?_; clear hK16
        refine cSeq (fun K17 hK17 => ?_)
        refine cReg ?_
        refine sMv F rfl rfl rfl ?_;clear F a;intro a F
        refine sBin F rfl rfl rfl rfl bNeq ?_;clear F a;intro a F
        refine sMv F rfl rfl rfl ?_;clear F a;intro a F
        refine F.split 175 rfl ?_ ?_ <;> (clear F; intro h175 F)
        ·
         replace h175 := bneT h175
         exact absurd hE5 h175
        replace h175 := bneF h175
        refine sMv F rfl rfl rfl ?_;clear F a;intro a F
        refine sMv F rfl rfl rfl ?_;clear F a;intro a F
        refine sBin F rfl rfl rfl rfl bNeq ?_;clear F a;intro a F
        refine sPk F rfl rfl rfl rfl ?_;clear F a;intro a F
        refine sMv F rfl rfl rfl ?_;clear F a;intro a F
        refine F.split 180 rfl ?_ ?_ <;> (clear F; intro h180 F)
        ·
         replace h180 := bneT h180
         exact absurd hW5.2 h180
        replace h180 := bneF h180
        refine sMv F rfl rfl rfl ?_;clear F a;intro a F
        refine sLen Tryz.underlying30 F rfl rfl rfl ?_;clear F a;intro a F
        refine sMv F rfl rfl rfl ?_;clear F a;intro a F
        refine sLen Tryz.underlying58 F rfl rfl rfl ?_;clear F a;intro a F
        refine sBin F rfl rfl rfl rfl (bAddN ?_) ?_
        focus omega
        clear F a; intro a F
        refine sBin F rfl rfl rfl rfl bNeq ?_;clear F a;intro a F
        refine sPk F rfl rfl rfl rfl ?_;clear F a;intro a F
        refine sNil ?_
        refine hK17 _ _ ?_; clear hK17
        refine cIf F rfl (fun h187 => ?_) (fun h187 => ?_)
        ·
         replace h187 := bneT h187
         omega
        replace h187 := bneF h187
        refine wp_skip ?_
        refine hK13 _ _ ?_; clear hK13
        refine cSeq (fun K18 hK18 => ?_)
        refine cReg ?_
        refine sCall Tryz.call14 F rfl rfl rfl (awake15_any _ (hN.own H)) ?_
        rintro e w ⟨rfl, hb⟩
        replace H := H.grow hb; clear hb
        refine ⟨_, rfl, ?_⟩
        clear F a; intro a F
        refine sAs F rfl rfl rfl ?_;clear F a;intro a F
        refine sNil ?_
        refine hK18 _ _ ?_; clear hK18
        refine wp_ret ?_
        refine bRet Tryz.results7 F rfl ?_
        first
        | exact ⟨rfl, H.below⟩
        | exact absurd hok.2.1 h33
        | exact absurd hok.1 h29
       replace h155 := of_decide_eq_false h155
       refine wp_skip ?_
       refine hK13 _ _ ?_; clear hK13
       refine cSeq (fun K19 hK19 => ?_)
       refine cReg ?_
       refine sCall Tryz.call14 F rfl rfl rfl (awake15_any _ (hN.own H)) ?_
       rintro e w ⟨rfl, hb⟩
       replace H := H.grow hb; clear hb
       refine ⟨_, rfl, ?_⟩
       clear F a; intro a F
       refine sAs F rfl rfl rfl ?_;clear F a;intro a F
       refine sNil ?_
       refine hK19 _ _ ?_; clear hK19
       refine wp_ret ?_
       refine bRet Tryz.results7 F rfl ?_
       first
       | exact ⟨rfl, H.below⟩
       | exact absurd hok.2.1 h33
       | exact absurd hok.1 h29
      replace h102 := beqF h102
      refine sSk F rfl rfl ?_;clear F a;intro a F
      refine sSk F rfl rfl ?_;clear F a;intro a F
      refine sSk F rfl rfl ?_;clear F a;intro a F
      refine sPk F rfl rfl rfl rfl ?_;clear F a;intro a F
      refine sPk F rfl rfl rfl rfl ?_;clear F a;intro a F
      refine sMv F rfl rfl rfl ?_;clear F a;intro a F
      refine sMv F rfl rfl rfl ?_;clear F a;intro a F
      refine sBin F rfl rfl rfl rfl bNeq ?_;clear F a;intro a F
      refine sMv F rfl rfl rfl ?_;clear F a;intro a F
      refine F.split 111 rfl ?_ ?_ <;> (clear F; intro h111 F)
      ·
       replace h111 := bneT h111
       refine sMv F rfl rfl rfl ?_;clear F a;intro a F
       refine sBin F rfl rfl rfl rfl bNeq ?_;clear F a;intro a F
       refine sMv F rfl rfl rfl ?_;clear F a;intro a F
       refine F.split 114 rfl ?_ ?_ <;> (clear F; intro h114 F)
       ·
        replace h114 := bneT h114
        omega
       replace h114 := bneF h114
       refine sMv F rfl rfl rfl ?_;clear F a;intro a F
       refine sBin F rfl rfl rfl rfl bNeq ?_;clear F a;intro a F
       refine sPk F rfl rfl rfl rfl ?_;clear F a;intro a F
       refine sPk F rfl rfl rfl rfl ?_;clear F a;intro a F
       refine sPk F rfl rfl rfl rfl ?_;clear F a;intro a F
       refine sNil ?_
       refine hK12 _ _ ?_; clear hK12
       refine cIf F rfl (fun h119 => ?_) (fun h119 => ?_)
       ·
        replace h119 := bneT h119
        omega
       replace h119 := bneF h119
       refine wp_skip ?_
       refine hK9 _ _ ?_; clear hK9
       refine cSeq (fun K20 hK20 => ?_)
       refine cSeq (fun K21 hK21 => ?_)
       refine cReg ?_
       refine sMv F rfl rfl rfl ?_;clear F a;intro a F
       refine sBin F rfl rfl rfl rfl bGtr ?_;clear F a;intro a F
       refine sNil ?_
       refine hK21 _ _ ?_; clear hK21
       refine cIf F rfl (fun h155 => ?_) (fun h155 => ?_)
       ·
        replace h155 := of_decide_eq_true h155
        have hm1 := most_more hok0 (((fo (statesR p mc 600)).list.length : Int) - 1)
        have hE5 : statesE p mc (((fo (statesR p mc 600)).list.length : Int) - 1) = 5 := by omega
        have hW5 := way_nil (f := f) (p := p) (m := mc) (n := ((fo (statesR p mc 600)).list.length : Int) - 1) (by rw [hE5]; decide)
        have hWl : (wayL p mc f (((fo (statesR p mc 600)).list.length : Int) - 1)).length = 0 := by rw [hW5.1]; rfl
        refine cSeq (fun K22 hK22 => ?_)
        refine cReg ?_
        refine sLr Tryz.underlying29 rfl ?si F rfl rfl rfl (H.whole 1 rfl) ?_
        case si => exact info_size Tryz.sizeOf29
        clear F a; intro a F
        refine sMv F rfl rfl rfl ?_;clear F a;intro a F
        refine sMv F rfl rfl rfl ?_;clear F a;intro a F
        refine sBin F rfl rfl rfl rfl (bSubI ?_) ?_
        focus omega
        clear F a; intro a F
        refine sCall Tryz.call19 F rfl rfl rfl (finals_any _ p _ (hP0.own H) (hN.own H) mc _ (by omega) (by omega)) ?_
        rintro e w ⟨A4, k4, l4, rfl, hf4, H2⟩
        replace H := H.join H2; clear H2; have hl4 : l4.length = 0 := by rw [hf4.1 (by rw [hE5]; decide)]; rfl
        refine ⟨_, rfl, ?_⟩
        clear F a; intro a F
        refine sMv F rfl rfl rfl ?_;clear F a;intro a F
        refine sExt F rfl rfl rfl rfl ?_;clear F a;intro a F
        refine sExt F rfl rfl rfl rfl ?_;clear F a;intro a F
        refine sAs F rfl rfl rfl ?_;clear F a;intro a F
        refine sAs F rfl rfl rfl ?_;clear F a;intro a F
        refine sNil ?_
        refine hK22 _ _ ?_; clear hK22
        refine cSeq (fun K23 hK23 => ?_)
        refine cReg ?_
        refine sLr Tryz.underlying29 rfl ?si F rfl rfl rfl (H.whole 2 rfl) ?_
        case si => exact info_size Tryz.sizeOf29
        clear F a; intro a F
        refine sMv F rfl rfl rfl ?_;clear F a;intro a F
        refine sLrB Tryz.underlying47 rfl Tryz.sizeOf47 F rfl rfl rfl (H.whole 1 rfl) ?_;clear F a;intro a F
        refine sMv F rfl rfl rfl ?_;clear F a;intro a F
        refine sBin F rfl rfl rfl rfl (bSubI ?_) ?_
        focus omega
        clear F a; intro a F
        refine sCall Tryz.call21 F rfl rfl rfl (way_any _ p _ (hP0.own H) (hN.own H) mc f _ (by omega) (by omega)) ?_
        rintro e w ⟨A5, k5, rfl, H2⟩
        replace H := H.join H2; clear H2
        refine ⟨_, rfl, ?_⟩
        clear F a; intro a F
        refine sMv F rfl rfl rfl ?_;clear F a;intro a F
        refine sExt F rfl rfl rfl rfl ?_;clear F a;intro a F
        refine sExt F rfl rfl rfl rfl ?_;clear F a;intro a F
        refine sAs F rfl rfl rfl ?_;clear F a;intro a F
        refine sAs F rfl rfl rfl ?_;clear F a;intro a F
        refine sNil ?_
        refine hK23 _ _ ?_; clear hK23
        refine cSeq (fun K24 hK24 => ?_)
        refine cReg ?_
        refine sMv F rfl rfl rfl ?_;clear F a;intro a F
        refine sBin F rfl rfl rfl rfl bNeq ?_;clear F a;intro a F
        refine sMv F rfl rfl rfl ?_;clear F a;intro a F
        refine F.split 175 rfl ?_ ?_ <;> (clear F; intro h175 F)
        ·
         replace h175 := bneT h175
         exact absurd hE5 h175
        replace h175 := bneF h175
        refine sMv F rfl rfl rfl ?_;clear F a;intro a F
        refine sMv F rfl rfl rfl ?_;clear F a;intro a F
        refine sBin F rfl rfl rfl rfl bNeq ?_;clear F a;intro a F
        refine sPk F rfl rfl rfl rfl ?_;clear F a;intro a F
        refine sMv F rfl rfl rfl ?_;clear F a;intro a F
        refine F.split 180 rfl ?_ ?_ <;> (clear F; intro h180 F)
        ·
         replace h180 := bneT h180
         exact absurd hW5.2 h180
        replace h180 := bneF h180
        refine sMv F rfl rfl rfl ?_;clear F a;intro a F
        refine sLen Tryz.underlying30 F rfl rfl rfl ?_;clear F a;intro a F
        refine sMv F rfl rfl rfl ?_;clear F a;intro a F
        refine sLen Tryz.underlying58 F rfl rfl rfl ?_;clear F a;intro a F
        refine sBin F rfl rfl rfl rfl (bAddN ?_) ?_
        focus omega
        clear F a; intro a F
        refine sBin F rfl rfl rfl rfl bNeq ?_;clear F a;intro a F
        refine sPk F rfl rfl rfl rfl ?_;clear F a;intro a F
        refine sNil ?_
        refine hK24 _ _ ?_; clear hK24
        refine cIf F rfl (fun h187 => ?_) (fun h187 => ?_)
        ·
         replace h187 := bneT h187
         omega
        replace h187 := bneF h187
        refine wp_skip ?_
        refine hK20 _ _ ?_; clear hK20
        refine cSeq (fun K25 hK25 => ?_)
        refine cReg ?_
        refine sCall Tryz.call14 F rfl rfl rfl (awake15_any _ (hN.own H)) ?_
        rintro e w ⟨rfl, hb⟩
        replace H := H.grow hb; clear hb
        refine ⟨_, rfl, ?_⟩
        clear F a; intro a F
        refine sAs F rfl rfl rfl ?_;clear F a;intro a F
        refine sNil ?_
        refine hK25 _ _ ?_; clear hK25
        refine wp_ret ?_
        refine bRet Tryz.results7 F rfl ?_
        first
        | exact ⟨rfl, H.below⟩
        | exact absurd hok.2.1 h33
        | exact absurd hok.1 h29
       replace h155 := of_decide_eq_false h155
       refine wp_skip ?_
       refine hK20 _ _ ?_; clear hK20
       refine cSeq (fun K26 hK26 => ?_)
       refine cReg ?_
       refine sCall Tryz.call14 F rfl rfl rfl (awake15_any _ (hN.own H)) ?_
       rintro e w ⟨rfl, hb⟩
       replace H := H.grow hb; clear hb
       refine ⟨_, rfl, ?_⟩
       clear F a; intro a F
       refine sAs F rfl rfl rfl ?_;clear F a;intro a F
       refine sNil ?_
       refine hK26 _ _ ?_; clear hK26
       refine wp_ret ?_
       refine bRet Tryz.results7 F rfl ?_
       first
       | exact ⟨rfl, H.below⟩
       | exact absurd hok.2.1 h33
       | exact absurd hok.1 h29
      replace h111 := bneF h111
      exact absurd h111 h102
     replace h84 := of_decide_eq_false h84
     have hmm := most_more hok0 most
     have hE2 : statesE p mc most = 2 := by
      have h84' : ¬ (most ≤ 65536) := by simpa using h84
      omega
     have hW := way_nil (f := f) (p := p) (m := mc) (n := most) (by rw [hE2]; decide)
     refine cSeq (fun K27 hK27 => ?_)
     refine cReg ?_
     refine sLr Tryz.underlying29 rfl ?si F rfl rfl rfl (H.whole 1 rfl) ?_
     case si => exact info_size Tryz.sizeOf29
     clear F a; intro a F
     refine sMv F rfl rfl rfl ?_;clear F a;intro a F
     refine sMv F rfl rfl rfl ?_;clear F a;intro a F
     refine sCall Tryz.call19 F rfl rfl rfl (finals_any _ p _ (hP0.own H) (hN.own H) mc most hlo hhi) ?_
     rintro e w ⟨A1, k1, l1, rfl, hf1, H2⟩
     replace H := H.join H2; clear H2
     refine ⟨_, rfl, ?_⟩
     clear F a; intro a F
     refine sMv F rfl rfl rfl ?_;clear F a;intro a F
     refine sExt F rfl rfl rfl rfl ?_;clear F a;intro a F
     refine sExt F rfl rfl rfl rfl ?_;clear F a;intro a F
     refine sAs F rfl rfl rfl ?_;clear F a;intro a F
     refine sAs F rfl rfl rfl ?_;clear F a;intro a F
     refine sNil ?_
     refine hK27 _ _ ?_; clear hK27
     refine cSeq (fun K28 hK28 => ?_)
     refine cReg ?_
     refine sLr Tryz.underlying29 rfl ?si F rfl rfl rfl (H.whole 2 rfl) ?_
     case si => exact info_size Tryz.sizeOf29
     clear F a; intro a F
     refine sMv F rfl rfl rfl ?_;clear F a;intro a F
     refine sLrB Tryz.underlying47 rfl Tryz.sizeOf47 F rfl rfl rfl (H.whole 1 rfl) ?_;clear F a;intro a F
     refine sMv F rfl rfl rfl ?_;clear F a;intro a F
     refine sCall Tryz.call21 F rfl rfl rfl (way_any _ p _ (hP0.own H) (hN.own H) mc f most hlo hhi) ?_
     rintro e w ⟨A2, k2, rfl, H2⟩
     replace H := H.join H2; clear H2
     refine ⟨_, rfl, ?_⟩
     clear F a; intro a F
     refine sMv F rfl rfl rfl ?_;clear F a;intro a F
     refine sExt F rfl rfl rfl rfl ?_;clear F a;intro a F
     refine sExt F rfl rfl rfl rfl ?_;clear F a;intro a F
     refine sAs F rfl rfl rfl ?_;clear F a;intro a F
     refine sAs F rfl rfl rfl ?_;clear F a;intro a F
     refine sNil ?_
     refine hK28 _ _ ?_; clear hK28
     refine cSeq (fun K29 hK29 => ?_)
     refine cReg ?_
     refine sLr Tryz.underlying29 rfl ?si F rfl rfl rfl (H.whole 3 rfl) ?_
     case si => exact info_size Tryz.sizeOf29
     clear F a; intro a F
     refine sMv F rfl rfl rfl ?_;clear F a;intro a F
     refine sMv F rfl rfl rfl ?_;clear F a;intro a F
     refine sCall Tryz.call18 F rfl rfl rfl (reached_any _ p _ (hP0.own H) (hN.own H) mc most hlo hhi) ?_
     rintro e w ⟨A3, k3, rfl, H2⟩
     replace H := H.join H2; clear H2
     refine ⟨_, rfl, ?_⟩
     clear F a; intro a F
     refine sMv F rfl rfl rfl ?_;clear F a;intro a F
     refine sExt F rfl rfl rfl rfl ?_;clear F a;intro a F
     refine sExt F rfl rfl rfl rfl ?_;clear F a;intro a F
     refine sAs F rfl rfl rfl ?_;clear F a;intro a F
     refine sAs F rfl rfl rfl ?_;clear F a;intro a F
     refine sNil ?_
     refine hK29 _ _ ?_; clear hK29
     refine cSeq (fun K30 hK30 => ?_)
     refine cReg ?_
     refine sMv F rfl rfl rfl ?_;clear F a;intro a F
     refine sBin F rfl rfl rfl rfl bNeq ?_;clear F a;intro a F
     refine sMv F rfl rfl rfl ?_;clear F a;intro a F
     refine F.split 144 rfl ?_ ?_ <;> (clear F; intro h144 F)
     ·
      replace h144 := bneT h144
      exact absurd hE2 h144
     replace h144 := bneF h144
     refine sMv F rfl rfl rfl ?_;clear F a;intro a F
     refine sMv F rfl rfl rfl ?_;clear F a;intro a F
     refine sBin F rfl rfl rfl rfl bNeq ?_;clear F a;intro a F
     refine sPk F rfl rfl rfl rfl ?_;clear F a;intro a F
     refine sMv F rfl rfl rfl ?_;clear F a;intro a F
     refine F.split 149 rfl ?_ ?_ <;> (clear F; intro h149 F)
     ·
      replace h149 := bneT h149
      exact absurd hW.2 h149
     replace h149 := bneF h149
     refine sMv F rfl rfl rfl ?_;clear F a;intro a F
     refine sMv F rfl rfl rfl ?_;clear F a;intro a F
     refine sBin F rfl rfl rfl rfl bNeq ?_;clear F a;intro a F
     refine sPk F rfl rfl rfl rfl ?_;clear F a;intro a F
     refine sNil ?_
     refine hK30 _ _ ?_; clear hK30
     refine cIf F rfl (fun h153 => ?_) (fun h153 => ?_)
     ·
      replace h153 := bneT h153
      exact absurd rfl h153
     replace h153 := bneF h153
     refine wp_skip ?_
     refine hK9 _ _ ?_; clear hK9
     refine cSeq (fun K31 hK31 => ?_)
     refine cSeq (fun K32 hK32 => ?_)
     refine cReg ?_
     refine sMv F rfl rfl rfl ?_;clear F a;intro a F
     refine sBin F rfl rfl rfl rfl bGtr ?_;clear F a;intro a F
     refine sNil ?_
     refine hK32 _ _ ?_; clear hK32
     refine cIf F rfl (fun h155 => ?_) (fun h155 => ?_)
     ·
      replace h155 := of_decide_eq_true h155
      have hm1 := most_more hok0 (((fo (statesR p mc 600)).list.length : Int) - 1)
      have hE5 : statesE p mc (((fo (statesR p mc 600)).list.length : Int) - 1) = 5 := by omega
      have hW5 := way_nil (f := f) (p := p) (m := mc) (n := ((fo (statesR p mc 600)).list.length : Int) - 1) (by rw [hE5]; decide)
      have hWl : (wayL p mc f (((fo (statesR p mc 600)).list.length : Int) - 1)).length = 0 := by rw [hW5.1]; rfl
      refine cSeq (fun K33 hK33 => ?_)
      refine cReg ?_
      refine sLr Tryz.underlying29 rfl ?si F rfl rfl rfl (H.whole 4 rfl) ?_
      case si => exact info_size Tryz.sizeOf29
      clear F a; intro a F
      refine sMv F rfl rfl rfl ?_;clear F a;intro a F
      refine sMv F rfl rfl rfl ?_;clear F a;intro a F
      refine sBin F rfl rfl rfl rfl (bSubI ?_) ?_
      focus omega
      clear F a; intro a F
      refine sCall Tryz.call19 F rfl rfl rfl (finals_any _ p _ (hP0.own H) (hN.own H) mc _ (by omega) (by omega)) ?_
      rintro e w ⟨A4, k4, l4, rfl, hf4, H2⟩
      replace H := H.join H2; clear H2; have hl4 : l4.length = 0 := by rw [hf4.1 (by rw [hE5]; decide)]; rfl
      refine ⟨_, rfl, ?_⟩
      clear F a; intro a F
      refine sMv F rfl rfl rfl ?_;clear F a;intro a F
      refine sExt F rfl rfl rfl rfl ?_;clear F a;intro a F
      refine sExt F rfl rfl rfl rfl ?_;clear F a;intro a F
      refine sAs F rfl rfl rfl ?_;clear F a;intro a F
      refine sAs F rfl rfl rfl ?_;clear F a;intro a F
      refine sNil ?_
      refine hK33 _ _ ?_; clear hK33
      refine cSeq (fun K34 hK34 => ?_)
      refine cReg ?_
      refine sLr Tryz.underlying29 rfl ?si F rfl rfl rfl (H.whole 5 rfl) ?_
      case si => exact info_size Tryz.sizeOf29
      clear F a; intro a F
      refine sMv F rfl rfl rfl ?_;clear F a;intro a F
      refine sLrB Tryz.underlying47 rfl Tryz.sizeOf47 F rfl rfl rfl (H.whole 4 rfl) ?_;clear F a;intro a F
      refine sMv F rfl rfl rfl ?_;clear F a;intro a F
      refine sBin F rfl rfl rfl rfl (bSubI ?_) ?_
      focus omega
      clear F a; intro a F
      refine sCall Tryz.call21 F rfl rfl rfl (way_any _ p _ (hP0.own H) (hN.own H) mc f _ (by omega) (by omega)) ?_
      rintro e w ⟨A5, k5, rfl, H2⟩
      replace H := H.join H2; clear H2
      refine ⟨_, rfl, ?_⟩
      clear F a; intro a F
      refine sMv F rfl rfl rfl ?_;clear F a;intro a F
      refine sExt F rfl rfl rfl rfl ?_;clear F a;intro a F
      refine sExt F rfl rfl rfl rfl ?_;clear F a;intro a F
      refine sAs F rfl rfl rfl ?_;clear F a;intro a F
      refine sAs F rfl rfl rfl ?_;clear F a;intro a F
      refine sNil ?_
      refine hK34 _ _ ?_; clear hK34
      refine cSeq (fun K35 hK35 => ?_)
      refine cReg ?_
      refine sMv F rfl rfl rfl ?_;clear F a;intro a F
      refine sBin F rfl rfl rfl rfl bNeq ?_;clear F a;intro a F
      refine sMv F rfl rfl rfl ?_;clear F a;intro a F
      refine F.split 175 rfl ?_ ?_ <;> (clear F; intro h175 F)
      ·
       replace h175 := bneT h175
       exact absurd hE5 h175
      replace h175 := bneF h175
      refine sMv F rfl rfl rfl ?_;clear F a;intro a F
      refine sMv F rfl rfl rfl ?_;clear F a;intro a F
      refine sBin F rfl rfl rfl rfl bNeq ?_;clear F a;intro a F
      refine sPk F rfl rfl rfl rfl ?_;clear F a;intro a F
      refine sMv F rfl rfl rfl ?_;clear F a;intro a F
      refine F.split 180 rfl ?_ ?_ <;> (clear F; intro h180 F)
      ·
       replace h180 := bneT h180
       exact absurd hW5.2 h180
      replace h180 := bneF h180
      refine sMv F rfl rfl rfl ?_;clear F a;intro a F
      refine sLen Tryz.underlying30 F rfl rfl rfl ?_;clear F a;intro a F
      refine sMv F rfl rfl rfl ?_;clear F a;intro a F
      refine sLen Tryz.underlying58 F rfl rfl rfl ?_;clear F a;intro a F
      refine sBin F rfl rfl rfl rfl (bAddN ?_) ?_
      focus omega
      clear F a; intro a F
      refine sBin F rfl rfl rfl rfl bNeq ?_;clear F a;intro a F
      refine sPk F rfl rfl rfl rfl ?_;clear F a;intro a F
      refine sNil ?_
      refine hK35 _ _ ?_; clear hK35
      refine cIf F rfl (fun h187 => ?_) (fun h187 => ?_)
      ·
       replace h187 := bneT h187
       omega
      replace h187 := bneF h187
      refine wp_skip ?_
      refine hK31 _ _ ?_; clear hK31
      refine cSeq (fun K36 hK36 => ?_)
      refine cReg ?_
      refine sCall Tryz.call14 F rfl rfl rfl (awake15_any _ (hN.own H)) ?_
      rintro e w ⟨rfl, hb⟩
      replace H := H.grow hb; clear hb
      refine ⟨_, rfl, ?_⟩
      clear F a; intro a F
      refine sAs F rfl rfl rfl ?_;clear F a;intro a F
      refine sNil ?_
      refine hK36 _ _ ?_; clear hK36
      refine wp_ret ?_
      refine bRet Tryz.results7 F rfl ?_
      first
      | exact ⟨rfl, H.below⟩
      | exact absurd hok.2.1 h33
      | exact absurd hok.1 h29
     replace h155 := of_decide_eq_false h155
     refine wp_skip ?_
     refine hK31 _ _ ?_; clear hK31
     refine cSeq (fun K37 hK37 => ?_)
     refine cReg ?_
     refine sCall Tryz.call14 F rfl rfl rfl (awake15_any _ (hN.own H)) ?_
     rintro e w ⟨rfl, hb⟩
     replace H := H.grow hb; clear hb
     refine ⟨_, rfl, ?_⟩
     clear F a; intro a F
     refine sAs F rfl rfl rfl ?_;clear F a;intro a F
     refine sNil ?_
     refine hK37 _ _ ?_; clear hK37
     refine wp_ret ?_
     refine bRet Tryz.results7 F rfl ?_
     first
     | exact ⟨rfl, H.below⟩
     | exact absurd hok.2.1 h33
     | exact absurd hok.1 h29
    replace h81 := of_decide_eq_false h81
    have hmm := most_more hok0 most
    have hE2 : statesE p mc most = 2 := by omega
    have hW := way_nil (f := f) (p := p) (m := mc) (n := most) (by rw [hE2]; decide)
    refine sSk F rfl rfl ?_;clear F a;intro a F
    refine sSk F rfl rfl ?_;clear F a;intro a F
    refine sPk F rfl rfl rfl rfl ?_;clear F a;intro a F
    refine sNil ?_
    refine hK10 _ _ ?_; clear hK10
    refine cIfF F rfl ?_
    refine cSeq (fun K38 hK38 => ?_)
    refine cReg ?_
    refine sLr Tryz.underlying29 rfl ?si F rfl rfl rfl (H.whole 1 rfl) ?_
    case si => exact info_size Tryz.sizeOf29
    clear F a; intro a F
    refine sMv F rfl rfl rfl ?_;clear F a;intro a F
    refine sMv F rfl rfl rfl ?_;clear F a;intro a F
    refine sCall Tryz.call19 F rfl rfl rfl (finals_any _ p _ (hP0.own H) (hN.own H) mc most hlo hhi) ?_
    rintro e w ⟨A1, k1, l1, rfl, hf1, H2⟩
    replace H := H.join H2; clear H2
    refine ⟨_, rfl, ?_⟩
    clear F a; intro a F
    refine sMv F rfl rfl rfl ?_;clear F a;intro a F
    refine sExt F rfl rfl rfl rfl ?_;clear F a;intro a F
    refine sExt F rfl rfl rfl rfl ?_;clear F a;intro a F
    refine sAs F rfl rfl rfl ?_;clear F a;intro a F
    refine sAs F rfl rfl rfl ?_;clear F a;intro a F
    refine sNil ?_
    refine hK38 _ _ ?_; clear hK38
    refine cSeq (fun K39 hK39 => ?_)
    refine cReg ?_
    refine sLr Tryz.underlying29 rfl ?si F rfl rfl rfl (H.whole 2 rfl) ?_
    case si => exact info_size Tryz.sizeOf29
    clear F a; intro a F
    refine sMv F rfl rfl rfl ?_;clear F a;intro a F
    refine sLrB Tryz.underlying47 rfl Tryz.sizeOf47 F rfl rfl rfl (H.whole 1 rfl) ?_;clear F a;intro a F
    refine sMv F rfl rfl rfl ?_;clear F a;intro a F
    refine sCall Tryz.call21 F rfl rfl rfl (way_any _ p _ (hP0.own H) (hN.own H) mc f most hlo hhi) ?_
    rintro e w ⟨A2, k2, rfl, H2⟩
    replace H := H.join H2; clear H2
    refine ⟨_, rfl, ?_⟩
    clear F a; intro a F
    refine sMv F rfl rfl rfl ?_;clear F a;intro a F
    refine sExt F rfl rfl rfl rfl ?_;clear F a;intro a F
    refine sExt F rfl rfl rfl rfl ?_;clear F a;intro a F
    refine sAs F rfl rfl rfl ?_;clear F a;intro a F
    refine sAs F rfl rfl rfl ?_;clear F a;intro a F
    refine sNil ?_
    refine hK39 _ _ ?_; clear hK39
    refine cSeq (fun K40 hK40 => ?_)
    refine cReg ?_
    refine sLr Tryz.underlying29 rfl ?si F rfl rfl rfl (H.whole 3 rfl) ?_
    case si => exact info_size Tryz.sizeOf29
    clear F a; intro a F
    refine sMv F rfl rfl rfl ?_;clear F a;intro a F
    refine sMv F rfl rfl rfl ?_;clear F a;intro a F
    refine sCall Tryz.call18 F rfl rfl rfl (reached_any _ p _ (hP0.own H) (hN.own H) mc most hlo hhi) ?_
    rintro e w ⟨A3, k3, rfl, H2⟩
    replace H := H.join H2; clear H2
    refine ⟨_, rfl, ?_⟩
    clear F a; intro a F
    refine sMv F rfl rfl rfl ?_;clear F a;intro a F
    refine sExt F rfl rfl rfl rfl ?_;clear F a;intro a F
    refine sExt F rfl rfl rfl rfl ?_;clear F a;intro a F
    refine sAs F rfl rfl rfl ?_;clear F a;intro a F
    refine sAs F rfl rfl rfl ?_;clear F a;intro a F
    refine sNil ?_
    refine hK40 _ _ ?_; clear hK40
    refine cSeq (fun K41 hK41 => ?_)
    refine cReg ?_
    refine sMv F rfl rfl rfl ?_;clear F a;intro a F
    refine sBin F rfl rfl rfl rfl bNeq ?_;clear F a;intro a F
    refine sMv F rfl rfl rfl ?_;clear F a;intro a F
    refine F.split 144 rfl ?_ ?_ <;> (clear F; intro h144 F)
    ·
     replace h144 := bneT h144
     exact absurd hE2 h144
    replace h144 := bneF h144
    refine sMv F rfl rfl rfl ?_;clear F a;intro a F
    refine sMv F rfl rfl rfl ?_;clear F a;intro a F
    refine sBin F rfl rfl rfl rfl bNeq ?_;clear F a;intro a F
    refine sPk F rfl rfl rfl rfl ?_;clear F a;intro a F
    refine sMv F rfl rfl rfl ?_;clear F a;intro a F
    refine F.split 149 rfl ?_ ?_ <;> (clear F; intro h149 F)
    ·
     replace h149 := bneT h149
     exact absurd hW.2 h149
    replace h149 := bneF h149
    refine sMv F rfl rfl rfl ?_;clear F a;intro a F
    refine sMv F rfl rfl rfl ?_;clear F a;intro a F
    refine sBin F rfl rfl rfl rfl bNeq ?_;clear F a;intro a F
    refine sPk F rfl rfl rfl rfl ?_;clear F a;intro a F
    refine sNil ?_
    refine hK41 _ _ ?_; clear hK41
    refine cIf F rfl (fun h153 => ?_) (fun h153 => ?_)
    ·
     replace h153 := bneT h153
     exact absurd rfl h153
    replace h153 := bneF h153
    refine wp_skip ?_
    refine hK9 _ _ ?_; clear hK9
    refine cSeq (fun K42 hK42 => ?_)
    refine cSeq (fun K43 hK43 => ?_)
    refine cReg ?_
    refine sMv F rfl rfl rfl ?_;clear F a;intro a F
    refine sBin F rfl rfl rfl rfl bGtr ?_;clear F a;intro a F
    refine sNil ?_
    refine hK43 _ _ ?_; clear hK43
    refine cIf F rfl (fun h155 => ?_) (fun h155 => ?_)
    ·
     replace h155 := of_decide_eq_true h155
     have hm1 := most_more hok0 (((fo (statesR p mc 600)).list.length : Int) - 1)
     have hE5 : statesE p mc (((fo (statesR p mc 600)).list.length : Int) - 1) = 5 := by omega
     have hW5 := way_nil (f := f) (p := p) (m := mc) (n := ((fo (statesR p mc 600)).list.length : Int) - 1) (by rw [hE5]; decide)
     have hWl : (wayL p mc f (((fo (statesR p mc 600)).list.length : Int) - 1)).length = 0 := by rw [hW5.1]; rfl
     refine cSeq (fun K44 hK44 => ?_)
     refine cReg ?_
     refine sLr Tryz.underlying29 rfl ?si F rfl rfl rfl (H.whole 4 rfl) ?_
     case si => exact info_size Tryz.sizeOf29
     clear F a; intro a F
     refine sMv F rfl rfl rfl ?_;clear F a;intro a F
     refine sMv F rfl rfl rfl ?_;clear F a;intro a F
     refine sBin F rfl rfl rfl rfl (bSubI ?_) ?_
     focus omega
     clear F a; intro a F
     refine sCall Tryz.call19 F rfl rfl rfl (finals_any _ p _ (hP0.own H) (hN.own H) mc _ (by omega) (by omega)) ?_
     rintro e w ⟨A4, k4, l4, rfl, hf4, H2⟩
     replace H := H.join H2; clear H2; have hl4 : l4.length = 0 := by rw [hf4.1 (by rw [hE5]; decide)]; rfl
     refine ⟨_, rfl, ?_⟩
     clear F a; intro a F
     refine sMv F rfl rfl rfl ?_;clear F a;intro a F
     refine sExt F rfl rfl rfl rfl ?_;clear F a;intro a F
     refine sExt F rfl rfl rfl rfl ?_;clear F a;intro a F
     refine sAs F rfl rfl rfl ?_;clear F a;intro a F
     refine sAs F rfl rfl rfl ?_;clear F a;intro a F
     refine sNil ?_
     refine hK44 _ _ ?_; clear hK44
     refine cSeq (fun K45 hK45 => ?_)
     refine cReg ?_
     refine sLr Tryz.underlying29 rfl ?si F rfl rfl rfl (H.whole 5 rfl) ?_
     case si => exact info_size Tryz.sizeOf29
     clear F a; intro a F
     refine sMv F rfl rfl rfl ?_;clear F a;intro a F
     refine sLrB Tryz.underlying47 rfl Tryz.sizeOf47 F rfl rfl rfl (H.whole 4 rfl) ?_;clear F a;intro a F
     refine sMv F rfl rfl rfl ?_;clear F a;intro a F
     refine sBin F rfl rfl rfl rfl (bSubI ?_) ?_
     focus omega
     clear F a; intro a F
     refine sCall Tryz.call21 F rfl rfl rfl (way_any _ p _ (hP0.own H) (hN.own H) mc f _ (by omega) (by omega)) ?_
     rintro e w ⟨A5, k5, rfl, H2⟩
     replace H := H.join H2; clear H2
     refine ⟨_, rfl, ?_⟩
     clear F a; intro a F
     refine sMv F rfl rfl rfl ?_;clear F a;intro a F
     refine sExt F rfl rfl rfl rfl ?_;clear F a;intro a F
     refine sExt F rfl rfl rfl rfl ?_;clear F a;intro a F
     refine sAs F rfl rfl rfl ?_;clear F a;intro a F
     refine sAs F rfl rfl rfl ?_;clear F a;intro a F
     refine sNil ?_
     refine hK45 _ _ ?_; clear hK45
     refine cSeq (fun K46 hK46 => ?_)
     refine cReg ?_
     refine sMv F rfl rfl rfl ?_;clear F a;intro a F
     refine sBin F rfl rfl rfl rfl bNeq ?_;clear F a;intro a F
     refine sMv F rfl rfl rfl ?_;clear F a;intro a F
     refine F.split 175 rfl ?_ ?_ <;> (clear F; intro h175 F)
     ·
      replace h175 := bneT h175
      exact absurd hE5 h175
     replace h175 := bneF h175
     refine sMv F rfl rfl rfl ?_;clear F a;intro a F
     refine sMv F rfl rfl rfl ?_;clear F a;intro a F
     refine sBin F rfl rfl rfl rfl bNeq ?_;clear F a;intro a F
     refine sPk F rfl rfl rfl rfl ?_;clear F a;intro a F
     refine sMv F rfl rfl rfl ?_;clear F a;intro a F
     refine F.split 180 rfl ?_ ?_ <;> (clear F; intro h180 F)
     ·
      replace h180 := bneT h180
      exact absurd hW5.2 h180
     replace h180 := bneF h180
     refine sMv F rfl rfl rfl ?_;clear F a;intro a F
     refine sLen Tryz.underlying30 F rfl rfl rfl ?_;clear F a;intro a F
     refine sMv F rfl rfl rfl ?_;clear F a;intro a F
     refine sLen Tryz.underlying58 F rfl rfl rfl ?_;clear F a;intro a F
     refine sBin F rfl rfl rfl rfl (bAddN ?_) ?_
     focus omega
     clear F a; intro a F
     refine sBin F rfl rfl rfl rfl bNeq ?_;clear F a;intro a F
     refine sPk F rfl rfl rfl rfl ?_;clear F a;intro a F
     refine sNil ?_
     refine hK46 _ _ ?_; clear hK46
     refine cIf F rfl (fun h187 => ?_) (fun h187 => ?_)
     ·
      replace h187 := bneT h187
      omega
     replace h187 := bneF h187
     refine wp_skip ?_
     refine hK42 _ _ ?_; clear hK42
     refine cSeq (fun K47 hK47 => ?_)
     refine cReg ?_
     refine sCall Tryz.call14 F rfl rfl rfl (awake15_any _ (hN.own H)) ?_
     rintro e w ⟨rfl, hb⟩
     replace H := H.grow hb; clear hb
     refine ⟨_, rfl, ?_⟩
     clear F a; intro a F
     refine sAs F rfl rfl rfl ?_;clear F a;intro a F
     refine sNil ?_
     refine hK47 _ _ ?_; clear hK47
     refine wp_ret ?_
     refine bRet Tryz.results7 F rfl ?_
     first
     | exact ⟨rfl, H.below⟩
     | exact absurd hok.2.1 h33
     | exact absurd hok.1 h29
    replace h155 := of_decide_eq_false h155
    refine wp_skip ?_
    refine hK42 _ _ ?_; clear hK42
    refine cSeq (fun K48 hK48 => ?_)
    refine cReg ?_
    refine sCall Tryz.call14 F rfl rfl rfl (awake15_any _ (hN.own H)) ?_
    rintro e w ⟨rfl, hb⟩
    replace H := H.grow hb; clear hb
    refine ⟨_, rfl, ?_⟩
    clear F a; intro a F
    refine sAs F rfl rfl rfl ?_;clear F a;intro a F
    refine sNil ?_
    refine hK48 _ _ ?_; clear hK48
    refine wp_ret ?_
    refine bRet Tryz.results7 F rfl ?_
    first
    | exact ⟨rfl, H.below⟩
    | exact absurd hok.2.1 h33
    | exact absurd hok.1 h29
   replace h33 := of_decide_eq_false h33
   refine sSk F rfl rfl ?_;clear F a;intro a F
   refine sSk F rfl rfl ?_;clear F a;intro a F
   refine sPk F rfl rfl rfl rfl ?_;clear F a;intro a F
   refine sAs F rfl rfl rfl ?_;clear F a;intro a F
   refine sNil ?_
   refine hK2 _ _ ?_; clear hK2
   refine cSeq (fun K49 hK49 => ?_)
   refine cReg ?_
   refine sLr Tryz.underlying29 rfl ?si F rfl rfl rfl (H.whole 1 rfl) ?_
   case si => exact info_size Tryz.sizeOf29
   clear F a; intro a F
   refine sMv F rfl rfl rfl ?_;clear F a;intro a F
   refine sCall Tryz.call20 F rfl rfl rfl (count_any _ p _ (hP0.own H) (hN.own H) mc 600 (by decide) (by decide)) ?_
   rintro e w ⟨rfl, hb⟩
   replace H := H.grow hb; clear hb
   refine ⟨_, rfl, ?_⟩
   clear F a; intro a F
   refine sMv F rfl rfl rfl ?_;clear F a;intro a F
   refine sExt F rfl rfl rfl rfl ?_;clear F a;intro a F
   refine sExt F rfl rfl rfl rfl ?_;clear F a;intro a F
   refine sExt F rfl rfl rfl rfl ?_;clear F a;intro a F
   refine sAs F rfl rfl rfl ?_;clear F a;intro a F
   refine sAs F rfl rfl rfl ?_;clear F a;intro a F
   refine sAs F rfl rfl rfl ?_;clear F a;intro a F
   refine sNil ?_
   refine hK49 _ _ ?_; clear hK49
   refine cSeq (fun K50 hK50 => ?_)
   refine cSeq (fun K51 hK51 => ?_)
   refine cReg ?_
   refine sMv F rfl rfl rfl ?_;clear F a;intro a F
   refine sBin F rfl rfl rfl rfl bNeq ?_;clear F a;intro a F
   refine sNil ?_
   refine hK51 _ _ ?_; clear hK51
   refine cIf F rfl (fun h45 => ?_) (fun h45 => ?_)
   ·
    replace h45 := bneT h45
    have hbad := most_bad h45
    have hb : statesE p mc 600 = 5 ∨ statesE p mc 600 = 2 := hbad.2.2.imp (·.1) (·.1)
    have hb5 : statesE p mc 600 = 5 → rightErr p = 0 ∧ (1 : UInt8) ≤ mc ∧ mc ≤ 3 := fun e => by
     rcases hbad.2.2 with h | h
     · exact h.2
     · rw [e] at h; exact absurd h.1 (by decide)
    have hb2 : statesE p mc 600 = 2 → ¬ (rightErr p = 0 ∧ (1 : UInt8) ≤ mc ∧ mc ≤ 3) := fun e => by
     rcases hbad.2.2 with h | h
     · rw [e] at h; exact absurd h.1 (by decide)
     · exact h.2
    refine cSeq (fun K52 hK52 => ?_)
    refine cReg ?_
    refine sMv F rfl rfl rfl ?_;clear F a;intro a F
    refine sMv F rfl rfl rfl ?_;clear F a;intro a F
    refine sBin F rfl rfl rfl rfl (bAddI ?_) ?_
    focus omega
    clear F a; intro a F
    refine sBin F rfl rfl rfl rfl bEql ?_;clear F a;intro a F
    refine sMv F rfl rfl rfl ?_;clear F a;intro a F
    refine F.split 50 rfl ?_ ?_ <;> (clear F; intro h50 F)
    ·
     replace h50 := beqT h50
     refine sMv F rfl rfl rfl ?_;clear F a;intro a F
     refine sBin F rfl rfl rfl rfl bEql ?_;clear F a;intro a F
     refine sMv F rfl rfl rfl ?_;clear F a;intro a F
     refine F.split 53 rfl ?_ ?_ <;> (clear F; intro h53 F)
     ·
      replace h53 := beqT h53
      refine sMv F rfl rfl rfl ?_;clear F a;intro a F
      refine sPk F rfl rfl rfl rfl ?_;clear F a;intro a F
      refine sMv F rfl rfl rfl ?_;clear F a;intro a F
      refine sMv F rfl rfl rfl ?_;clear F a;intro a F
      refine sBin F rfl rfl rfl rfl bEql ?_;clear F a;intro a F
      refine sMv F rfl rfl rfl ?_;clear F a;intro a F
      refine F.split 59 rfl ?_ ?_ <;> (clear F; intro h59 F)
      ·
       replace h59 := beqT h59
       exact absurd (h53.symm.trans h59) (by decide)
      replace h59 := beqF h59
      first | exact absurd (hb5 h53).2.1 h33 | exact absurd (hb.resolve_left h53) h59
     replace h53 := beqF h53
     refine sSk F rfl rfl ?_;clear F a;intro a F
     refine sPk F rfl rfl rfl rfl ?_;clear F a;intro a F
     refine sMv F rfl rfl rfl ?_;clear F a;intro a F
     refine sMv F rfl rfl rfl ?_;clear F a;intro a F
     refine sBin F rfl rfl rfl rfl bEql ?_;clear F a;intro a F
     refine sMv F rfl rfl rfl ?_;clear F a;intro a F
     refine F.split 59 rfl ?_ ?_ <;> (clear F; intro h59 F)
     ·
      replace h59 := beqT h59
      refine sMv F rfl rfl rfl ?_;clear F a;intro a F
      refine sNot F rfl rfl rfl ?_;clear F a;intro a F
      refine sPk F rfl rfl rfl rfl ?_;clear F a;intro a F
      refine sPk F rfl rfl rfl rfl ?_;clear F a;intro a F
      refine sPk F rfl rfl rfl rfl ?_;clear F a;intro a F
      refine sMv F rfl rfl rfl ?_;clear F a;intro a F
      refine sCall Tryz.call14 F rfl rfl rfl (awake15_any _ (hN.own H)) ?_
      rintro e w ⟨rfl, hb⟩
      replace H := H.grow hb; clear hb
      refine ⟨_, rfl, ?_⟩
      clear F a; intro a F
      refine sPk F rfl rfl rfl rfl ?_;clear F a;intro a F
      refine sAs F rfl rfl rfl ?_;clear F a;intro a F
      refine sNil ?_
      refine hK52 _ _ ?_; clear hK52
      refine wp_ret ?_
      simp only [Exit.then]
      refine bRet Tryz.results7 F rfl ?_
      first
      | exact ⟨rfl, H.below⟩
      | exact absurd hok.2.1 h33
      | exact absurd hok.1 h29
     replace h59 := beqF h59
     exact absurd (hb.resolve_left h53) h59
    replace h50 := beqF h50
    exact absurd (by rw [hbad.1, hbad.2.1]; rfl) h50
   replace h45 := bneF h45
   have hok0 : statesE p mc 600 = 0 := h45
   have hok := most_ok hok0
   refine wp_skip ?_
   refine hK50 _ _ ?_; clear hK50
   refine cSeq (fun K53 hK53 => ?_)
   refine cSeq (fun K54 hK54 => ?_)
   refine cReg ?_
   refine sMv F rfl rfl rfl ?_;clear F a;intro a F
   refine sNot F rfl rfl rfl ?_;clear F a;intro a F
   refine sMv F rfl rfl rfl ?_;clear F a;intro a F
   refine sSk F rfl rfl ?_;clear F a;intro a F
   refine sSk F rfl rfl ?_;clear F a;intro a F
   refine sPk F rfl rfl rfl rfl ?_;clear F a;intro a F
   refine sMv F rfl rfl rfl ?_;clear F a;intro a F
   refine sSk F rfl rfl ?_;clear F a;intro a F
   refine sSk F rfl rfl ?_;clear F a;intro a F
   refine sSk F rfl rfl ?_;clear F a;intro a F
   refine sPk F rfl rfl rfl rfl ?_;clear F a;intro a F
   refine sNil ?_
   refine hK54 _ _ ?_; clear hK54
   refine cIfT F rfl ?_
   refine cSeq (fun K55 hK55 => ?_)
   refine cReg ?_
   refine sAs F rfl rfl rfl ?_;clear F a;intro a F
   refine sNil ?_
   refine hK55 _ _ ?_; clear hK55
   refine wp_ret ?_
   simp only [Exit.then]
   refine bRet Tryz.results7 F rfl ?_
   first
   | exact ⟨rfl, H.below⟩
   | exact absurd hok.2.1 h33
   | exact absurd hok.1 h29
  replace h29 := beqF h29
  refine sSk F rfl rfl ?_;clear F a;intro a F
  refine sSk F rfl rfl ?_;clear F a;intro a F
  refine sPk F rfl rfl rfl rfl ?_;clear F a;intro a F
  refine sMv F rfl rfl rfl ?_;clear F a;intro a F
  refine sSk F rfl rfl ?_;clear F a;intro a F
  refine sSk F rfl rfl ?_;clear F a;intro a F
  refine sPk F rfl rfl rfl rfl ?_;clear F a;intro a F
  refine sAs F rfl rfl rfl ?_;clear F a;intro a F
  refine sNil ?_
  refine hK2 _ _ ?_; clear hK2
  refine cSeq (fun K56 hK56 => ?_)
  refine cReg ?_
  refine sLr Tryz.underlying29 rfl ?si F rfl rfl rfl (H.whole 1 rfl) ?_
  case si => exact info_size Tryz.sizeOf29
  clear F a; intro a F
  refine sMv F rfl rfl rfl ?_;clear F a;intro a F
  refine sCall Tryz.call20 F rfl rfl rfl (count_any _ p _ (hP0.own H) (hN.own H) mc 600 (by decide) (by decide)) ?_
  rintro e w ⟨rfl, hb⟩
  replace H := H.grow hb; clear hb
  refine ⟨_, rfl, ?_⟩
  clear F a; intro a F
  refine sMv F rfl rfl rfl ?_;clear F a;intro a F
  refine sExt F rfl rfl rfl rfl ?_;clear F a;intro a F
  refine sExt F rfl rfl rfl rfl ?_;clear F a;intro a F
  refine sExt F rfl rfl rfl rfl ?_;clear F a;intro a F
  refine sAs F rfl rfl rfl ?_;clear F a;intro a F
  refine sAs F rfl rfl rfl ?_;clear F a;intro a F
  refine sAs F rfl rfl rfl ?_;clear F a;intro a F
  refine sNil ?_
  refine hK56 _ _ ?_; clear hK56
  refine cSeq (fun K57 hK57 => ?_)
  refine cSeq (fun K58 hK58 => ?_)
  refine cReg ?_
  refine sMv F rfl rfl rfl ?_;clear F a;intro a F
  refine sBin F rfl rfl rfl rfl bNeq ?_;clear F a;intro a F
  refine sNil ?_
  refine hK58 _ _ ?_; clear hK58
  refine cIf F rfl (fun h45 => ?_) (fun h45 => ?_)
  ·
   replace h45 := bneT h45
   have hbad := most_bad h45
   have hb : statesE p mc 600 = 5 ∨ statesE p mc 600 = 2 := hbad.2.2.imp (·.1) (·.1)
   have hb5 : statesE p mc 600 = 5 → rightErr p = 0 ∧ (1 : UInt8) ≤ mc ∧ mc ≤ 3 := fun e => by
    rcases hbad.2.2 with h | h
    · exact h.2
    · rw [e] at h; exact absurd h.1 (by decide)
   have hb2 : statesE p mc 600 = 2 → ¬ (rightErr p = 0 ∧ (1 : UInt8) ≤ mc ∧ mc ≤ 3) := fun e => by
    rcases hbad.2.2 with h | h
    · rw [e] at h; exact absurd h.1 (by decide)
    · exact h.2
   refine cSeq (fun K59 hK59 => ?_)
   refine cReg ?_
   refine sMv F rfl rfl rfl ?_;clear F a;intro a F
   refine sMv F rfl rfl rfl ?_;clear F a;intro a F
   refine sBin F rfl rfl rfl rfl (bAddI ?_) ?_
   focus omega
   clear F a; intro a F
   refine sBin F rfl rfl rfl rfl bEql ?_;clear F a;intro a F
   refine sMv F rfl rfl rfl ?_;clear F a;intro a F
   refine F.split 50 rfl ?_ ?_ <;> (clear F; intro h50 F)
   ·
    replace h50 := beqT h50
    refine sMv F rfl rfl rfl ?_;clear F a;intro a F
    refine sBin F rfl rfl rfl rfl bEql ?_;clear F a;intro a F
    refine sMv F rfl rfl rfl ?_;clear F a;intro a F
    refine F.split 53 rfl ?_ ?_ <;> (clear F; intro h53 F)
    ·
     replace h53 := beqT h53
     refine sMv F rfl rfl rfl ?_;clear F a;intro a F
     refine sPk F rfl rfl rfl rfl ?_;clear F a;intro a F
     refine sMv F rfl rfl rfl ?_;clear F a;intro a F
     refine sMv F rfl rfl rfl ?_;clear F a;intro a F
     refine sBin F rfl rfl rfl rfl bEql ?_;clear F a;intro a F
     refine sMv F rfl rfl rfl ?_;clear F a;intro a F
     refine F.split 59 rfl ?_ ?_ <;> (clear F; intro h59 F)
     ·
      replace h59 := beqT h59
      exact absurd (h53.symm.trans h59) (by decide)
     replace h59 := beqF h59
     first | exact absurd (hb5 h53).1 h29 | exact absurd (hb.resolve_left h53) h59
    replace h53 := beqF h53
    refine sSk F rfl rfl ?_;clear F a;intro a F
    refine sPk F rfl rfl rfl rfl ?_;clear F a;intro a F
    refine sMv F rfl rfl rfl ?_;clear F a;intro a F
    refine sMv F rfl rfl rfl ?_;clear F a;intro a F
    refine sBin F rfl rfl rfl rfl bEql ?_;clear F a;intro a F
    refine sMv F rfl rfl rfl ?_;clear F a;intro a F
    refine F.split 59 rfl ?_ ?_ <;> (clear F; intro h59 F)
    ·
     replace h59 := beqT h59
     refine sMv F rfl rfl rfl ?_;clear F a;intro a F
     refine sNot F rfl rfl rfl ?_;clear F a;intro a F
     refine sPk F rfl rfl rfl rfl ?_;clear F a;intro a F
     refine sPk F rfl rfl rfl rfl ?_;clear F a;intro a F
     refine sPk F rfl rfl rfl rfl ?_;clear F a;intro a F
     refine sMv F rfl rfl rfl ?_;clear F a;intro a F
     refine sCall Tryz.call14 F rfl rfl rfl (awake15_any _ (hN.own H)) ?_
     rintro e w ⟨rfl, hb⟩
     replace H := H.grow hb; clear hb
     refine ⟨_, rfl, ?_⟩
     clear F a; intro a F
     refine sPk F rfl rfl rfl rfl ?_;clear F a;intro a F
     refine sAs F rfl rfl rfl ?_;clear F a;intro a F
     refine sNil ?_
     refine hK59 _ _ ?_; clear hK59
     refine wp_ret ?_
     simp only [Exit.then]
     refine bRet Tryz.results7 F rfl ?_
     first
     | exact ⟨rfl, H.below⟩
     | exact absurd hok.2.1 h33
     | exact absurd hok.1 h29
    replace h59 := beqF h59
    exact absurd (hb.resolve_left h53) h59
   replace h50 := beqF h50
   exact absurd (by rw [hbad.1, hbad.2.1]; rfl) h50
  replace h45 := bneF h45
  have hok0 : statesE p mc 600 = 0 := h45
  have hok := most_ok hok0
  refine wp_skip ?_
  refine hK57 _ _ ?_; clear hK57
  refine cSeq (fun K60 hK60 => ?_)
  refine cSeq (fun K61 hK61 => ?_)
  refine cReg ?_
  refine sMv F rfl rfl rfl ?_;clear F a;intro a F
  refine sNot F rfl rfl rfl ?_;clear F a;intro a F
  refine sMv F rfl rfl rfl ?_;clear F a;intro a F
  refine sSk F rfl rfl ?_;clear F a;intro a F
  refine sSk F rfl rfl ?_;clear F a;intro a F
  refine sPk F rfl rfl rfl rfl ?_;clear F a;intro a F
  refine sMv F rfl rfl rfl ?_;clear F a;intro a F
  refine sSk F rfl rfl ?_;clear F a;intro a F
  refine sSk F rfl rfl ?_;clear F a;intro a F
  refine sSk F rfl rfl ?_;clear F a;intro a F
  refine sPk F rfl rfl rfl rfl ?_;clear F a;intro a F
  refine sNil ?_
  refine hK61 _ _ ?_; clear hK61
  refine cIfT F rfl ?_
  refine cSeq (fun K62 hK62 => ?_)
  refine cReg ?_
  refine sAs F rfl rfl rfl ?_;clear F a;intro a F
  refine sNil ?_
  refine hK62 _ _ ?_; clear hK62
  refine wp_ret ?_
  simp only [Exit.then]
  refine bRet Tryz.results7 F rfl ?_
  first
  | exact ⟨rfl, H.below⟩
  | exact absurd hok.2.1 h33
  | exact absurd hok.1 h29
end Go.Proofs.YtbgnapmaimkpkaaGreatDoor
