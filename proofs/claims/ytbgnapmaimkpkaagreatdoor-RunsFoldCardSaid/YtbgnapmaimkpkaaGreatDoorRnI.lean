/-
  WALK2. The laws of chapter 15: finals, within. Conditions: the program lies in memory; block 0 holds the table of needs.
-/
import Derived.Test.YtbgnapmaimkpkaaGreatDoorRnY
set_option linter.unusedSimpArgs false
set_option linter.unusedVariables false
namespace Go.Proofs.YtbgnapmaimkpkaaGreatDoor
open Go.Proofs.Tryz
open Go.RowKit
set_option maxRecDepth 100000
theorem finals15_any (cs : List Value) (p : Prg) (w0 : World) (hP : ProgAt w0 cs p) (hN : NeedsAt w0) (mc : UInt8) (hk : (1 : UInt8) ≤ mc ∧ mc ≤ 3) :
    Calls Tryz.prog 12 #[.agg cs.toArray, Go.Proofs.YtbgnapmaimkpkaaGreatDoor.b8 mc] w0 fun e w' => ∃ (A : Option Addr) (c : Nat) (l2 : List By) (b : Bool), e = .returned (.tuple #[.slice A l2.length c, .bool b, .bool true]) ∧ (b = true ↔ statesE p mc 600 = 0) ∧ FinOut p mc 600 l2 ∧ Own w0 none w' [.rws 47 38 (.slice A l2.length c) (l2.map (bs 38))] := by
  have H := Own.start w0 none
  have hP0 := hP
  obtain ⟨LA, LC, IA, IC, TA, TC, h, ccs, hp⟩ := hP
  obtain ⟨c1, c2, c3, c4, c5, rfl⟩ := len5 (condAt_len hp.cond)
  have hcs := hp.cs
  subst hcs;refine enterF func12 rfl ntmps12 rfl (fun a F => ?_);refine cSR fun K1 hK1=>?_;refine sBx H F rfl rfl rfl ?_;clear F a H; intro b2 a w F H;refine sAs F rfl rfl rfl (qAs rfl rfl rfl (qAs rfl rfl rfl (qNK hK1 (qSR fun K2 hK2=>?_))));clear hK1;clear F a;intro a F
  refine sLr underlying29 rfl ?si F rfl rfl rfl (H.whole 0 rfl) ?_
  case si => exact info_size sizeOf29
  clear F a; intro a F;refine sMv F rfl rfl rfl ?_;clear F a;intro a F;refine sCall call19 F rfl rfl rfl (finals_any _ p _ (hP0.own H) (hN.own H) mc 600 (by decide) (by decide)) ?_;rintro e w ⟨A, c, l2, rfl, hf, H2⟩;replace H := H.join H2; clear H2;refine ⟨_, rfl, ?_⟩;clear F a; intro a F;refine sMv F rfl rfl rfl (qExt rfl rfl rfl rfl (qExt rfl rfl rfl rfl (qAs rfl rfl rfl (qAs rfl rfl rfl (qNK hK2 (qSR fun K3 hK3=>qMv rfl rfl rfl (qBin rfl rfl rfl rfl bEql (qMv rfl rfl rfl ?_))))))));clear hK2;clear F a;intro a F
  refine F.split 18 rfl ?_ ?_ <;> (clear F; intro h18 F)
  ·
   replace h18 := beqT h18;refine sSk F rfl rfl (qSk rfl rfl (qSk rfl rfl (qSk rfl rfl (qSk rfl rfl (qSk rfl rfl (qSk rfl rfl (qPk rfl rfl rfl rfl (qMv rfl rfl rfl (qSk rfl rfl (qSk rfl rfl (qSk rfl rfl (qSk rfl rfl (qSk rfl rfl (qSk rfl rfl (qSk rfl rfl (qPk rfl rfl rfl rfl (qAs rfl rfl rfl (qNK hK3 (qSR fun K4 hK4=>qMv rfl rfl rfl (qMv rfl rfl rfl (qBin rfl rfl rfl rfl bEql (qMv rfl rfl rfl (qMv rfl rfl rfl (qMv rfl rfl rfl (qBin rfl rfl rfl rfl bEql (qMv rfl rfl rfl (qLen underlying30 rfl rfl rfl (qBin rfl rfl rfl rfl bGtr (qBin rfl rfl rfl rfl (bBoolEq underlying4) (qPk rfl rfl rfl rfl (qAs rfl rfl rfl (qAs rfl rfl rfl (qAs rfl rfl rfl (qNK hK4 ?_))))))))))))))))))))))))))))))))));clear hK3 hK4;clear F a;intro a F;refine wp_ret ?_;refine bRet3 results12 F rfl rfl rfl ?_
   first
   | (have hlen : 0 < l2.length := List.length_pos_iff.2 (hf.2 h18).1
      refine ⟨A, c, l2, true, ?_, ⟨fun _ => h18, fun _ => rfl⟩, hf, H.pick 0 rfl⟩
      simp [h18, hlen])
   | (subst hl0
      refine ⟨A, c, [], false, ?_, ⟨fun h => Bool.noConfusion h, fun h => absurd h h18⟩, hf, H.pick 0 rfl⟩
      simp [h18])
  replace h18 := beqF h18
  have hbad := most_bad h18
  have hb : statesE p mc 600 = 5 ∨ statesE p mc 600 = 2 := hbad.2.2.imp (·.1) (·.1)
  have hb5 : statesE p mc 600 = 5 → rightErr p = 0 := fun e => by
   rcases hbad.2.2 with h | h
   · exact h.2.1
   · rw [e] at h; exact absurd h.1 (by decide)
  have hb2 : statesE p mc 600 = 2 → ¬ rightErr p = 0 := fun e => by
   rcases hbad.2.2 with h | h
   · rw [e] at h; exact absurd h.1 (by decide)
   · exact fun h2 => h.2 ⟨h2, hk⟩
  have hl0 : l2 = [] := hf.1 h18
  refine sMv F rfl rfl rfl (qBin rfl rfl rfl rfl bEql (qMv rfl rfl rfl ?_));clear F a;intro a F
  refine F.split 21 rfl ?_ ?_ <;> (clear F; intro h21 F)
  ·
   replace h21 := beqT h21
   refine sLr underlying29 rfl ?si F rfl rfl rfl (H.whole 1 rfl) ?_
   case si => exact info_size sizeOf29
   clear F a; intro a F;refine sCall call15 F rfl rfl rfl (right_any' _ p _ (hP0.own H) (hN.own H)) ?_;rintro e w ⟨rfl, hb⟩;replace H := H.grow hb; clear hb;refine ⟨_, rfl, ?_⟩;clear F a; intro a F;refine sBin F rfl rfl rfl rfl bEql (qPk rfl rfl rfl rfl (qPk rfl rfl rfl rfl (qMv rfl rfl rfl ?_)));clear F a;intro a F
   refine F.split 27 rfl ?_ ?_ <;> (clear F; intro h27 F)
   ·
    replace h27 := beqT h27;refine sSk F rfl rfl (qSk rfl rfl (qSk rfl rfl (qSk rfl rfl (qSk rfl rfl (qSk rfl rfl (qSk rfl rfl (qPk rfl rfl rfl rfl (qAs rfl rfl rfl (qNK hK3 (qSR fun K5 hK5=>qMv rfl rfl rfl (qMv rfl rfl rfl (qBin rfl rfl rfl rfl bEql (qMv rfl rfl rfl (qMv rfl rfl rfl (qMv rfl rfl rfl (qBin rfl rfl rfl rfl bEql (qMv rfl rfl rfl (qLen underlying30 rfl rfl rfl (qBin rfl rfl rfl rfl bGtr (qBin rfl rfl rfl rfl (bBoolEq underlying4) (qPk rfl rfl rfl rfl (qAs rfl rfl rfl (qAs rfl rfl rfl (qAs rfl rfl rfl (qNK hK5 ?_)))))))))))))))))))))))));clear hK3 hK5;clear F a;intro a F;refine wp_ret ?_;refine bRet3 results12 F rfl rfl rfl ?_
    first
    | (have hlen : 0 < l2.length := List.length_pos_iff.2 (hf.2 h18).1
       refine ⟨A, c, l2, true, ?_, ⟨fun _ => h18, fun _ => rfl⟩, hf, H.pick 0 rfl⟩
       simp [h18, hlen])
    | (subst hl0
       refine ⟨A, c, [], false, ?_, ⟨fun h => Bool.noConfusion h, fun h => absurd h h18⟩, hf, H.pick 0 rfl⟩
       simp [h18])
   replace h27 := beqF h27
   exact absurd (hb5 h21) h27
  replace h21 := beqF h21;refine sSk F rfl rfl (qSk rfl rfl (qSk rfl rfl (qPk rfl rfl rfl rfl (qPk rfl rfl rfl rfl (qMv rfl rfl rfl (qMv rfl rfl rfl (qBin rfl rfl rfl rfl bEql (qMv rfl rfl rfl ?_))))))));clear F a;intro a F
  refine F.split 30 rfl ?_ ?_ <;> (clear F; intro h30 F)
  ·
   replace h30 := beqT h30
   refine sLr underlying29 rfl ?si F rfl rfl rfl (H.whole 1 rfl) ?_
   case si => exact info_size sizeOf29
   clear F a; intro a F;refine sCall call15 F rfl rfl rfl (right_any' _ p _ (hP0.own H) (hN.own H)) ?_;rintro e w ⟨rfl, hb⟩;replace H := H.grow hb; clear hb;refine ⟨_, rfl, ?_⟩;clear F a; intro a F;refine sBin F rfl rfl rfl rfl bNeq (qPk rfl rfl rfl rfl (qPk rfl rfl rfl rfl (qAs rfl rfl rfl (qNK hK3 (qSR fun K6 hK6=>qMv rfl rfl rfl (qMv rfl rfl rfl (qBin rfl rfl rfl rfl bEql (qMv rfl rfl rfl (qMv rfl rfl rfl ?_)))))))));clear hK3;clear F a;intro a F
   refine F.split 40 rfl ?_ ?_ <;> (clear F; intro h40 F)
   ·
    replace h40 := bneT h40;refine sMv F rfl rfl rfl (qBin rfl rfl rfl rfl bEql (qMv rfl rfl rfl (qLen underlying30 rfl rfl rfl (qBin rfl rfl rfl rfl bGtr (qBin rfl rfl rfl rfl (bBoolEq underlying4) (qPk rfl rfl rfl rfl (qAs rfl rfl rfl (qAs rfl rfl rfl (qAs rfl rfl rfl (qNK hK6 ?_))))))))));clear hK6;clear F a;intro a F;refine wp_ret ?_;refine bRet3 results12 F rfl rfl rfl ?_
    first
    | (have hlen : 0 < l2.length := List.length_pos_iff.2 (hf.2 h18).1
       refine ⟨A, c, l2, true, ?_, ⟨fun _ => h18, fun _ => rfl⟩, hf, H.pick 0 rfl⟩
       simp [h18, hlen])
    | (subst hl0
       refine ⟨A, c, [], false, ?_, ⟨fun h => Bool.noConfusion h, fun h => absurd h h18⟩, hf, H.pick 0 rfl⟩
       simp [h18])
   replace h40 := bneF h40
   exact absurd h40 (hb2 h30)
  replace h30 := beqF h30
  exact absurd (hb.resolve_left h21) h30
theorem fin_short {p : Prg} {m : UInt8} {l : List By} (hf : FinOut p m 600 l) : l.length ≤ 9223372036854775807 := by
  by_cases h : statesE p m 600 = 0
  · have := (hf.2 h).2.1; omega
  · rw [hf.1 h]; decide
theorem fins_true (A B : Option Addr) (CA CB : Nat) (l q : List By) (w0 : World) (hA : RowsAt w0 A 38 (l.map (bs 38))) (hB : RowsAt w0 B 38 (q.map (bs 38))) (hl : l.length ≤ 9223372036854775807) (hq : q.length ≤ 9223372036854775807) (h : tl l = tl q) :
    Calls Tryz.prog 16 #[.slice A l.length CA, .slice B q.length CB] w0 fun e w' => e = .returned (.bool true) ∧ Below w0.heap.size w0 w' :=
  (fins12_any A B CA CB l q w0 hA hB hl hq).mono fun e w' hh => by
    rw [decide_eq_true h] at hh
    exact hh
end Go.Proofs.YtbgnapmaimkpkaaGreatDoor
