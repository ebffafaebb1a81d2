/-
  WALK2. The law RunsFenced. Conditions: the program lies in memory; block 0 holds the table of needs.
-/
import Derived.Test.YtbgnapmaimkpkaaGreatDoorRnI
import Derived.Test.YtbgnapmaimkpkaaGreatDoorRnT
import Derived.Test.YtbgnapmaimkpkaaGreatDoorGrv
import Derived.Test.YtbgnapmaimkpkaaGreatDoorVcU1
set_option linter.unusedSimpArgs false
set_option linter.unusedVariables false
namespace Go.Proofs.YtbgnapmaimkpkaaGreatDoor
open Go.RowKit
set_option maxRecDepth 100000
theorem take_min {α : Type} {l : List α} {k n : Nat} (h : k = min l.length n) : l.take k = l.take n := by
  rcases Nat.le_total l.length n with h1 | h1
  · rw [List.take_of_length_le (by omega), List.take_of_length_le h1]
  · rw [show k = n by omega]
theorem fenced_same {q : Prg} {m : UInt8} {l l2 : List By} (hp : rightErr q = 0) (hF : FencedP q) (hm : knownM m = true) (hf : FinOut q 1 600 l) (hf2 : FinOut q m 600 l2) (h : statesE q 1 600 = 0) (h2 : statesE q m 600 = 0) : tl l = tl l2 :=
  rising_unique (hf.2 h).2.2.1 (hf2.2 h2).2.2.1 fun x => by rw [(hf.2 h).2.2.2 x, (hf2.2 h2).2.2.2 x, out_fenced hp hF hm]
set_option maxHeartbeats 1000000 in
theorem runsFenced_any (cs : List Value) (p : Prg) (w0 : World) (hG : ProgT w0 cs p) (hN : NeedsAt w0) :
    Calls Tryz.prog 4 #[.agg cs.toArray] w0 fun e w' => e = .returned (.bool true) ∧ Below w0.heap.size w0 w' := by
  have H := Own.start w0 none
  obtain ⟨LA, LC, IA, IC, TA, TC, h, ccs, hp, hTC⟩ := hG
  have hP0 : ProgAt w0 cs p := ⟨_, _, _, _, _, _, _, _, hp⟩
  obtain ⟨c1, c2, c3, c4, A9, m9, C9, rfl⟩ := condShape hp.cond
  have hcs := hp.cs
  simp only [List.cons_append, List.nil_append] at hcs
  subst hcs
  refine enterF Tryz.func4 rfl Tryz.ntmps4 rfl (fun a F => ?_)
  refine cSR fun K1 hK1=>?_
  refine sBx H F rfl rfl rfl ?_
  clear F a H; intro b1 a w F H
  refine sAs F rfl rfl rfl (qNK hK1 ?_);clear hK1;clear F a;intro a F
  refine cSeq (fun K2 hK2 => ?_)
  refine cSR fun K3 hK3=>?_
  refine sLr Tryz.underlying29 rfl ?si F rfl rfl rfl (H.whole 0 rfl) ?_
  case si => exact info_size Tryz.sizeOf29
  clear F a; intro a F
  refine sCall Tryz.call15 F rfl rfl rfl (right_any' _ p _ (hP0.own H) (hN.own H)) ?_
  rintro e w ⟨rfl, hb⟩
  replace H := H.grow hb; clear hb
  refine ⟨_, rfl, ?_⟩
  clear F a; intro a F
  refine sBin F rfl rfl rfl rfl bNeq (qNK hK3 ?_);clear hK3;clear F a;intro a F
  refine cIf F rfl (fun h20 => ?_) (fun h20 => ?_)
  ·
   replace h20 := bneT h20
   refine cSR fun K4 hK4=>?_
   refine sCall Tryz.call14 F rfl rfl rfl (awake15_any _ (hN.own H)) ?_
   rintro e w ⟨rfl, hb⟩
   replace H := H.grow hb; clear hb
   refine ⟨_, rfl, ?_⟩
   clear F a; intro a F
   refine sAs F rfl rfl rfl (qNK hK4 ?_);clear hK4;clear F a;intro a F
   refine wp_ret ?_
   simp only [Exit.then]
   refine bRet Tryz.results4 F rfl ?_
   exact ⟨rfl, H.below⟩
  replace h20 := bneF h20
  have hv : rightErr p = 0 := by omega
  have hV := valid hv
  have hV4 := hV.thr4
  refine wp_skip (hK2 _ _ (cSR fun K5 hK5=>?_));clear hK2
  refine sLr Tryz.underlying29 rfl ?si F rfl rfl rfl (H.whole 0 rfl) ?_
  case si => exact info_size Tryz.sizeOf29
  clear F a; intro a F
  refine sAl H Tryz.zeroValue29 F rfl rfl ?_
  clear F a H; intro b3 a w F H
  refine sSr H 0 ?si F rfl rfl rfl ?s1 rfl rfl ?_
  case si => exact info_size Tryz.sizeOf29
  case s1 => first | rfl | (repeat (first | exact one_nil | (apply one_cons; · first | rfl | assumption | exact one_bif rfl rfl)))
  clear H; intro w H
  refine nK hK5 (cSR fun K6 hK6=>sFa (f := 3) (k := 3) Tryz.underlying29 rfl Tryz.sizeOf24 rfl rfl F rfl rfl rfl ?_);clear hK5;clear F a;intro a F
  refine sSt H 0 Tryz.sizeOf24 F rfl rfl rfl rfl rfl rfl ?_
  clear H; intro w H
  refine nK hK6 ?_;clear hK6
  refine cSeq (fun K7 hK7 => ?_)
  refine cSR fun K8 hK8=>sFa (f := 3) (k := 3) Tryz.underlying29 rfl Tryz.sizeOf24 rfl rfl F rfl rfl rfl (qLd Tryz.isAgg24 rfl rfl rfl (H.cell 1 rfl rfl) (qLen Tryz.underlying24 rfl rfl rfl (qMv rfl rfl rfl (qNK hK8 ?_))));clear hK8;clear F a;intro a F
  refine wp_block ?_
  refine cLoopR [3, 25, 26] (fun m ups w => ∃ (j : Nat) (A3 : Option Addr) (c3' : Nat) (S : Nat → Prop) (rows : List (List Value)), m = p.threads.length - j ∧ ups = [(27, .int .i64 ((j : Nat) : Int))] ∧ rows.length = j ∧ j ≤ p.threads.length ∧ (∀ r ∈ rows, r.length = 1) ∧ Own w0 none w [.grove S rows (fencePr 4 p).threads, .rws 33 1 (.slice A3 rows.length c3') rows, .blk b3 ([.string p.name, .slice LA p.locs.length LC, .slice IA p.init.length IC, .slice A3 rows.length c3', Go.Proofs.YtbgnapmaimkpkaaGreatDoor.b8 p.ask, Go.Proofs.YtbgnapmaimkpkaaGreatDoor.b8 c1, Go.Proofs.YtbgnapmaimkpkaaGreatDoor.b8 c2, Go.Proofs.YtbgnapmaimkpkaaGreatDoor.b8 c3, Go.Proofs.YtbgnapmaimkpkaaGreatDoor.b8 c4, .slice A9 m9 C9] : List Value) 29, .blk b1 ([.string p.name, .slice LA p.locs.length LC, .slice IA p.init.length IC, .slice TA p.threads.length TC, Go.Proofs.YtbgnapmaimkpkaaGreatDoor.b8 p.ask, Go.Proofs.YtbgnapmaimkpkaaGreatDoor.b8 c1, Go.Proofs.YtbgnapmaimkpkaaGreatDoor.b8 c2, Go.Proofs.YtbgnapmaimkpkaaGreatDoor.b8 c3, Go.Proofs.YtbgnapmaimkpkaaGreatDoor.b8 c4, .slice A9 m9 C9] : List Value) 29]) F (p.threads.length) [(27, .int .i64 ((0 : Nat) : Int))] (by repeat (first | exact SubR.nil | (apply SubR.cons; · rfl))) ?_ ?_ ?_
  · exact ⟨0, none, 0, fun _ => False, [], rfl, rfl, rfl, Nat.zero_le _, (by simp), ((H.sel [0, 1] rfl rfl).nilRws 33 1).void (.grove (fun _ => False) [] (fencePr 4 p).threads) (show groveP (fun _ => False) _ [] (fencePr 4 p).threads from fun j r t h1 => by simp at h1) (fun _ hb => hb)⟩
  · repeat (first | exact trivial | refine Le.cons rfl ?_)
  clear F
  clear H
  intro m ups a w hI F
  obtain ⟨j, A3, c3', S, rows, rfl, rfl, hrj, hj, hr1, H⟩ := hI
  refine cSR fun K9 hK9=>sBin F rfl rfl rfl rfl bLss (qNK hK9 ?_);clear hK9;clear F a;intro a F
  refine cSeq (fun K10 hK10 => ?_)
  refine cIf F rfl (fun h28 => ?_) (fun h28 => ?_)
  ·
   replace h28 := of_decide_eq_true h28
   have hjl : j < p.threads.length := by omega
   obtain ⟨l, hl⟩ : ∃ l, p.threads[j]? = some l := ⟨_, List.getElem?_eq_getElem hjl⟩
   have hl12 := hV.long j l hl
   obtain ⟨bT, oT, BT, CT, rfl, hT1, hT2, hT3, hT4⟩ := hTC j l hl
   refine wp_skip (hK10 _ _ ?_);clear hK10
   refine cSeq (fun K11 hK11 => ?_)
   refine wp_block ?_
   refine cSR fun K12 hK12=>?_
   refine sIx Tryz.underlying24 Tryz.sizeOf33 F rfl rfl rfl rfl ?_ ?_
   focus (first | omega | decide | (simp; omega))
   clear F a; intro a F
   refine sLd Tryz.isAgg33 F rfl rfl rfl (H.arg hT1) (qAs rfl rfl rfl (qNK hK12 (qSR fun K13 hK13=>qAs rfl rfl rfl ?_)));clear hK12;clear F a;intro a F
   replace H := H.nilRws 37 10
   refine nK hK13 ?_;clear hK13
   refine cSeq (fun K14 hK14 => ?_)
   refine cSR fun K15 hK15=>sMv F rfl rfl rfl (qMv rfl rfl rfl (qLen Tryz.underlying33 rfl rfl rfl (qMinN (j := 4) rfl rfl rfl rfl ?_)));clear F a;intro a F
   refine sSlH Tryz.underlying33 (fun w => ⟨_, Tryz.sizeOf37 w⟩) F rfl rfl rfl rfl ?_ ?_
   focus (first | omega | decide | (simp; omega))
   clear F a; intro a F
   refine sLen Tryz.underlying33 F rfl rfl rfl (qMv rfl rfl rfl (qNK hK15 ?_));clear hK15;clear F a;intro a F
   refine wp_block ?_
   refine cLoopR [3, 25, 26, 27, 35, 36] (fun m ups w => ∃ (k : Nat) (A5 : Option Addr) (c5' : Nat), m = min l.length 4 - k ∧ ups = [(6, .slice A5 (fenceL (l.take k)).length c5'), (37, .int .i64 ((k : Nat) : Int))] ∧ k ≤ min l.length 4 ∧ Own w0 none w [.rws 37 10 (.slice A5 (fenceL (l.take k)).length c5') ((fenceL (l.take k)).map Ins.cells), .grove S rows (fencePr 4 p).threads, .rws 33 1 (.slice A3 rows.length c3') rows, .blk b3 ([.string p.name, .slice LA p.locs.length LC, .slice IA p.init.length IC, .slice A3 rows.length c3', Go.Proofs.YtbgnapmaimkpkaaGreatDoor.b8 p.ask, Go.Proofs.YtbgnapmaimkpkaaGreatDoor.b8 c1, Go.Proofs.YtbgnapmaimkpkaaGreatDoor.b8 c2, Go.Proofs.YtbgnapmaimkpkaaGreatDoor.b8 c3, Go.Proofs.YtbgnapmaimkpkaaGreatDoor.b8 c4, .slice A9 m9 C9] : List Value) 29, .blk b1 ([.string p.name, .slice LA p.locs.length LC, .slice IA p.init.length IC, .slice (some ⟨bT, oT, none⟩) p.threads.length TC, Go.Proofs.YtbgnapmaimkpkaaGreatDoor.b8 p.ask, Go.Proofs.YtbgnapmaimkpkaaGreatDoor.b8 c1, Go.Proofs.YtbgnapmaimkpkaaGreatDoor.b8 c2, Go.Proofs.YtbgnapmaimkpkaaGreatDoor.b8 c3, Go.Proofs.YtbgnapmaimkpkaaGreatDoor.b8 c4, .slice A9 m9 C9] : List Value) 29]) F (min l.length 4) [(6, .slice none 0 0), (37, .int .i64 ((0 : Nat) : Int))] (by repeat (first | exact SubR.nil | (apply SubR.cons; · rfl))) ?_ ?_ ?_
   · exact ⟨0, none, 0, rfl, rfl, by omega, H.sel [0, 1, 2, 3, 4] rfl rfl⟩
   · repeat (first | exact trivial | refine Le.cons rfl ?_)
   clear F
   clear H
   intro m ups a w hI F
   obtain ⟨k, A5, c5', rfl, rfl, hk2, H⟩ := hI
   have hfl := fenceL_len (l.take k)
   rw [List.length_take] at hfl
   refine cSR fun K16 hK16=>sBin F rfl rfl rfl rfl bLss (qNK hK16 ?_);clear hK16;clear F a;intro a F
   refine cSeq (fun K17 hK17 => ?_)
   refine cIf F rfl (fun h38 => ?_) (fun h38 => ?_)
   ·
    replace h38 := of_decide_eq_true h38
    have hkl : k < l.length := by omega
    obtain ⟨x, hx⟩ : ∃ x, l[k]? = some x := ⟨_, List.getElem?_eq_getElem hkl⟩
    obtain ⟨bI, oI, rfl, hI⟩ := hT2 k x.cells (by rw [List.getElem?_map, hx]; rfl)
    refine wp_skip (hK17 _ _ ?_);clear hK17
    refine cSeq (fun K18 hK18 => ?_)
    refine wp_block ?_
    refine cSR fun K19 hK19=>?_
    refine sIx Tryz.underlying33 Tryz.sizeOf37 F rfl rfl rfl rfl ?_ ?_
    focus (first | omega | decide | (simp; omega))
    clear F a; intro a F
    refine sLr Tryz.underlying37 rfl ?si F rfl rfl rfl (H.argR hI) ?_
    case si => exact info_size Tryz.sizeOf37
    clear F a; intro a F
    refine sAl H Tryz.zeroValue37 F rfl rfl ?_
    clear F a H; intro b8 a w F H
    refine sSr H 0 ?si F rfl rfl rfl ?s1 rfl rfl ?_
    case si => exact info_size Tryz.sizeOf37
    case s1 => first | rfl | (repeat (first | exact one_nil | (apply one_cons; · first | rfl | assumption | exact one_bif rfl rfl)))
    clear H; intro w H
    refine nK hK19 ?_;clear hK19
    refine cSeq (fun K20 hK20 => ?_)
    refine cSR fun K21 hK21=>sFa (f := 0) (k := 0) Tryz.underlying37 rfl Tryz.sizeOf5 rfl rfl F rfl rfl rfl (qLd Tryz.isAgg5 rfl rfl rfl (H.cell 0 rfl rfl) (qBin rfl rfl rfl rfl (bEqlB (y := 8)) (qNK hK21 ?_)));clear hK21;clear F a;intro a F
    refine cIf F rfl (fun h43 => ?_) (fun h43 => ?_)
    ·
     replace h43 := beqT h43
     refine wp_exit ?_
     refine hK18 _ _ (cReg ?_);clear hK18
     refine sBin F rfl rfl rfl rfl (bAddN (j := 1) ?_) ?_
     focus omega
     clear F a; intro a F
     refine sMv F rfl rfl rfl ?_;clear F a;intro a F
     refine sNil ?_
     have hf1 := fenceL_succ hx
     unfold fence1 at hf1
     first
     | (rw [if_pos h43, List.append_nil] at hf1
        refine ⟨_, by omega, _, ⟨k + 1, A5, c5', rfl, rfl, by omega, ?_⟩, ?_⟩
        · rw [hf1]; exact H.sel [1, 2, 3, 4, 5] rfl rfl
        · rw [hf1]; exact F.to (by repeat (first | exact trivial | refine Le.cons rfl ?_)))
     | (rw [if_neg h43, if_pos h50] at hf1
        have hf2 : (fenceL (l.take (k + 1))).map Ins.cells = ((fenceL (l.take k)).map Ins.cells ++ [x.cells]) ++ [fenceI.cells] := by rw [hf1, List.map_append, List.append_assoc]; rfl
        have hf3 : (fenceL (l.take (k + 1))).length = (((fenceL (l.take k)).map Ins.cells ++ [x.cells]) ++ [fenceI.cells]).length := by rw [← hf2, List.length_map]
        refine ⟨_, by omega, _, ⟨k + 1, A54, c54, rfl, rfl, by omega, ?_⟩, ?_⟩
        · rw [hf2, hf3]; exact H.sel [1, 2, 3, 4, 5] rfl rfl
        · rw [hf3]; exact F.to (by repeat (first | exact trivial | refine Le.cons rfl ?_)))
     | (rw [if_neg h43, if_neg h50] at hf1
        have hf2 : (fenceL (l.take (k + 1))).map Ins.cells = (fenceL (l.take k)).map Ins.cells ++ [x.cells] := by rw [hf1, List.map_append]; rfl
        have hf3 : (fenceL (l.take (k + 1))).length = ((fenceL (l.take k)).map Ins.cells ++ [x.cells]).length := by rw [← hf2, List.length_map]
        refine ⟨_, by omega, _, ⟨k + 1, A47, c47, rfl, rfl, by omega, ?_⟩, ?_⟩
        · rw [hf2, hf3]; exact H.sel [1, 2, 3, 4, 5] rfl rfl
        · rw [hf3]; exact F.to (by repeat (first | exact trivial | refine Le.cons rfl ?_)))
    replace h43 := beqF h43
    refine wp_skip (hK20 _ _ (cSR fun K22 hK22=>sMv F rfl rfl rfl ?_));clear hK20;clear F a;intro a F
    refine sLr Tryz.underlying37 rfl ?si F rfl rfl rfl (H.whole 0 rfl) ?_
    case si => exact info_size Tryz.sizeOf37
    clear F a; intro a F
    refine sBsA H Tryz.underlying33 Tryz.sizeOf37 Tryz.zeroValue37 rfl F rfl rfl rfl rfl rfl ?_
    clear F a H; intro b46 a w F H
    refine sApp1 (bytes := 10) H 2 Tryz.underlying33 Tryz.typeInfo37 rfl rfl rfl rfl rfl rfl F rfl rfl rfl rfl rfl (H.whole 0 rfl) rfl ?s1 ?s2 ?_
    case s1 => first | rfl | (repeat (first | exact one_nil | (apply one_cons; · first | rfl | assumption | exact one_bif rfl rfl)))
    case s2 => (rw [List.length_map]; omega)
    clear F a H; intro A47 c47 a w F H
    refine sAs F rfl rfl rfl (qNK hK22 (qSR fun K23 hK23=>qFa (f := 0) (k := 0) Tryz.underlying37 rfl Tryz.sizeOf5 rfl rfl rfl rfl rfl (qLd Tryz.isAgg5 rfl rfl rfl (H.cell 1 rfl rfl) (qBin rfl rfl rfl rfl (bEqlB (y := 2)) (qNK hK23 ?_)))));clear hK22 hK23;clear F a;intro a F
    refine cIf F rfl (fun h50 => ?_) (fun h50 => ?_)
    ·
     replace h50 := beqT h50
     refine cReg (sMv F rfl rfl rfl (qBd (cs := fenceI.cells) (places := [(0, 1), (1, 1), (2, 1), (3, 2), (5, 2), (7, 1), (8, 1), (9, 1)]) Tryz.zeroValue37 Tryz.underlying37 (by kernel_rfl) rfl rfl rfl rfl ?_));clear F a;intro a F
     refine sBsA H Tryz.underlying33 Tryz.sizeOf37 Tryz.zeroValue37 rfl F rfl rfl rfl rfl rfl ?_
     clear F a H; intro b53 a w F H
     refine sApp1 (bytes := 10) H 3 Tryz.underlying33 Tryz.typeInfo37 rfl rfl rfl rfl rfl rfl F rfl rfl rfl rfl rfl (H.whole 0 rfl) rfl ?s1 ?s2 ?_
     case s1 => first | rfl | (repeat (first | exact one_nil | (apply one_cons; · first | rfl | assumption | exact one_bif rfl rfl)))
     case s2 => (simp only [List.length_append, List.length_map, List.length_cons, List.length_nil]; omega)
     clear F a H; intro A54 c54 a w F H
     refine sAs F rfl rfl rfl (qNK hK18 (qReg ?_));clear hK18;clear F a;intro a F
     refine sBin F rfl rfl rfl rfl (bAddN (j := 1) ?_) ?_
     focus omega
     clear F a; intro a F
     refine sMv F rfl rfl rfl ?_;clear F a;intro a F
     refine sNil ?_
     have hf1 := fenceL_succ hx
     unfold fence1 at hf1
     first
     | (rw [if_pos h43, List.append_nil] at hf1
        refine ⟨_, by omega, _, ⟨k + 1, A5, c5', rfl, rfl, by omega, ?_⟩, ?_⟩
        · rw [hf1]; exact H.sel [3, 4, 5, 6, 7] rfl rfl
        · rw [hf1]; exact F.to (by repeat (first | exact trivial | refine Le.cons rfl ?_)))
     | (rw [if_neg h43, if_pos h50] at hf1
        have hf2 : (fenceL (l.take (k + 1))).map Ins.cells = ((fenceL (l.take k)).map Ins.cells ++ [x.cells]) ++ [fenceI.cells] := by rw [hf1, List.map_append, List.append_assoc]; rfl
        have hf3 : (fenceL (l.take (k + 1))).length = (((fenceL (l.take k)).map Ins.cells ++ [x.cells]) ++ [fenceI.cells]).length := by rw [← hf2, List.length_map]
        refine ⟨_, by omega, _, ⟨k + 1, A54, c54, rfl, rfl, by omega, ?_⟩, ?_⟩
        · rw [hf2, hf3]; exact H.sel [3, 4, 5, 6, 7] rfl rfl
        · rw [hf3]; exact F.to (by repeat (first | exact trivial | refine Le.cons rfl ?_)))
     | (rw [if_neg h43, if_neg h50] at hf1
        have hf2 : (fenceL (l.take (k + 1))).map Ins.cells = (fenceL (l.take k)).map Ins.cells ++ [x.cells] := by rw [hf1, List.map_append]; rfl
        have hf3 : (fenceL (l.take (k + 1))).length = ((fenceL (l.take k)).map Ins.cells ++ [x.cells]).length := by rw [← hf2, List.length_map]
        refine ⟨_, by omega, _, ⟨k + 1, A47, c47, rfl, rfl, by omega, ?_⟩, ?_⟩
        · rw [hf2, hf3]; exact H.sel [3, 4, 5, 6, 7] rfl rfl
        · rw [hf3]; exact F.to (by repeat (first | exact trivial | refine Le.cons rfl ?_)))
    replace h50 := beqF h50
    refine wp_skip (hK18 _ _ (cReg ?_));clear hK18
    refine sBin F rfl rfl rfl rfl (bAddN (j := 1) ?_) ?_
    focus omega
    clear F a; intro a F
    refine sMv F rfl rfl rfl ?_;clear F a;intro a F
    refine sNil ?_
    have hf1 := fenceL_succ hx
    unfold fence1 at hf1
    first
    | (rw [if_pos h43, List.append_nil] at hf1
       refine ⟨_, by omega, _, ⟨k + 1, A5, c5', rfl, rfl, by omega, ?_⟩, ?_⟩
       · rw [hf1]; exact H.sel [2, 3, 4, 5, 6] rfl rfl
       · rw [hf1]; exact F.to (by repeat (first | exact trivial | refine Le.cons rfl ?_)))
    | (rw [if_neg h43, if_pos h50] at hf1
       have hf2 : (fenceL (l.take (k + 1))).map Ins.cells = ((fenceL (l.take k)).map Ins.cells ++ [x.cells]) ++ [fenceI.cells] := by rw [hf1, List.map_append, List.append_assoc]; rfl
       have hf3 : (fenceL (l.take (k + 1))).length = (((fenceL (l.take k)).map Ins.cells ++ [x.cells]) ++ [fenceI.cells]).length := by rw [← hf2, List.length_map]
       refine ⟨_, by omega, _, ⟨k + 1, A54, c54, rfl, rfl, by omega, ?_⟩, ?_⟩
       · rw [hf2, hf3]; exact H.sel [2, 3, 4, 5, 6] rfl rfl
       · rw [hf3]; exact F.to (by repeat (first | exact trivial | refine Le.cons rfl ?_)))
    | (rw [if_neg h43, if_neg h50] at hf1
       have hf2 : (fenceL (l.take (k + 1))).map Ins.cells = (fenceL (l.take k)).map Ins.cells ++ [x.cells] := by rw [hf1, List.map_append]; rfl
       have hf3 : (fenceL (l.take (k + 1))).length = ((fenceL (l.take k)).map Ins.cells ++ [x.cells]).length := by rw [← hf2, List.length_map]
       refine ⟨_, by omega, _, ⟨k + 1, A47, c47, rfl, rfl, by omega, ?_⟩, ?_⟩
       · rw [hf2, hf3]; exact H.sel [2, 3, 4, 5, 6] rfl rfl
       · rw [hf3]; exact F.to (by repeat (first | exact trivial | refine Le.cons rfl ?_)))
   replace h38 := of_decide_eq_false h38
   have hkl : k = min l.length 4 := by omega
   rw [take_min hkl] at H F
   refine wp_exit ?_
   refine hK14 _ _ (cReg (sFa (f := 3) (k := 3) Tryz.underlying29 rfl Tryz.sizeOf24 rfl rfl F rfl rfl rfl (qLd Tryz.isAgg24 rfl rfl rfl (H.cell 3 rfl rfl) (qMv rfl rfl rfl ?_))));clear hK14;clear F a;intro a F
   refine sBs1 H Tryz.underlying24 Tryz.sizeOf33 Tryz.zeroValue33 rfl F rfl rfl rfl rfl ?_
   clear F a H; intro b59 a w F H
   refine sApp1 (bytes := 24) H 3 Tryz.underlying24 Tryz.typeInfo33 rfl rfl rfl rfl rfl rfl F rfl rfl rfl rfl rfl (H.whole 0 rfl) rfl ?s1 ?s2 ?_
   case s1 => first | rfl | (repeat (first | exact one_nil | (apply one_cons; · first | rfl | assumption | exact one_bif rfl rfl)))
   case s2 => omega
   clear F a H; intro A60 c60 a w F H
   refine sFa (f := 3) (k := 3) Tryz.underlying29 rfl Tryz.sizeOf24 rfl rfl F rfl rfl rfl ?_;clear F a;intro a F
   refine sSt H 4 Tryz.sizeOf24 F rfl rfl rfl rfl rfl rfl ?_
   clear H; intro w H
   refine nK hK11 (cReg ?_);clear hK11
   refine sBin F rfl rfl rfl rfl (bAddN (j := 1) ?_) ?_
   focus omega
   clear F a; intro a F
   refine sMv F rfl rfl rfl ?_;clear F a;intro a F
   refine sNil ?_
   have hfj : (fencePr 4 p).threads[rows.length]? = some (fenceL (l.take 4)) := by rw [hrj]; unfold fencePr; rw [List.getElem?_map, hl]; rfl
   refine ⟨_, ?_, _, ⟨j + 1, A60, c60, _, _, rfl, rfl, ?_, ?_, ?_, (((H.sel [1, 2, 3, 4, 5] rfl rfl).toHeld (by simp [Ins.cells]) (by decide)).plantG hfj rfl)⟩, F.to (by repeat (first | exact trivial | refine Le.cons rfl ?_))⟩
   · omega
   · simp; omega
   · omega
   · intro r hr
     rcases List.mem_append.1 hr with h1 | h1
     · exact hr1 r h1
     · simp at h1; subst h1; rfl
  replace h28 := of_decide_eq_false h28
  have hrl : rows.length = (fencePr 4 p).threads.length := by unfold fencePr; rw [List.length_map]; omega
  rw [hrl] at H
  have hvq := fence_right (n := 4) (by decide) hv
  have hFq := fence_fenced 4 p
  have hVq := valid hvq
  have hpq : ∀ {w : World} {rs : List Res} (H : Own w0 none w rs) (i k : Nat), rs[i]? = some (.rws 33 1 (.slice A3 (fencePr 4 p).threads.length c3') rows) → rs[k]? = some (.grove S rows (fencePr 4 p).threads) → ProgAt w ([.string p.name, .slice LA p.locs.length LC, .slice IA p.init.length IC, .slice A3 (fencePr 4 p).threads.length c3', Go.Proofs.YtbgnapmaimkpkaaGreatDoor.b8 p.ask, Go.Proofs.YtbgnapmaimkpkaaGreatDoor.b8 c1, Go.Proofs.YtbgnapmaimkpkaaGreatDoor.b8 c2, Go.Proofs.YtbgnapmaimkpkaaGreatDoor.b8 c3, Go.Proofs.YtbgnapmaimkpkaaGreatDoor.b8 c4, .slice A9 m9 C9] : List Value) (fencePr 4 p) := fun H i k hi hk =>
   ⟨LA, LC, IA, IC, A3, c3', h, _, rfl, hp.name, RowsAt.own hp.locs H, hp.locsN, hp.locsC, hp.locsS, RowsAt.own hp.init H, hp.initN, H.threadsAt i k hi hk hrl hr1 (fun t ht => by
    obtain ⟨j', hj'⟩ := List.getElem?_of_mem ht
    have := hVq.long j' t hj'
    omega), (by have := hVq.thr4; omega), CondAt.grown H.grown rfl _ _ _ hp.cond⟩
  generalize fencePr 4 p = q at H hvq hFq hVq hpq
  refine wp_exit ?_
  refine hK7 _ _ (cSR fun K24 hK24=>?_);clear hK7
  refine sLr Tryz.underlying29 rfl ?si F rfl rfl rfl (H.whole 2 rfl) ?_
  case si => exact info_size Tryz.sizeOf29
  clear F a; intro a F
  refine sCall Tryz.call12 F rfl rfl rfl (finals15_any _ q _ (hpq H 1 0 rfl rfl) (hN.own H) 1 (by decide)) ?_
  rintro e w ⟨A1, k1, l1, q1, rfl, hq1, hf1, H2⟩
  replace H := H.join H2; clear H2
  refine ⟨_, rfl, ?_⟩
  clear F a; intro a F
  refine sMv F rfl rfl rfl (qExt rfl rfl rfl rfl (qExt rfl rfl rfl rfl (qExt rfl rfl rfl rfl (qAs rfl rfl rfl (qAs rfl rfl rfl (qAs rfl rfl rfl (qNK hK24 (qSR fun K25 hK25=>?_))))))));clear hK24;clear F a;intro a F
  refine sLr Tryz.underlying29 rfl ?si F rfl rfl rfl (H.whole 3 rfl) ?_
  case si => exact info_size Tryz.sizeOf29
  clear F a; intro a F
  refine sCall Tryz.call12 F rfl rfl rfl (finals15_any _ q _ (hpq H 2 1 rfl rfl) (hN.own H) 2 (by decide)) ?_
  rintro e w ⟨A2, k2, l2, q2, rfl, hq2, hf2, H2⟩
  replace H := H.join H2; clear H2
  refine ⟨_, rfl, ?_⟩
  clear F a; intro a F
  refine sMv F rfl rfl rfl (qExt rfl rfl rfl rfl (qExt rfl rfl rfl rfl (qExt rfl rfl rfl rfl (qAs rfl rfl rfl (qAs rfl rfl rfl (qAs rfl rfl rfl (qNK hK25 (qSR fun K26 hK26=>?_))))))));clear hK25;clear F a;intro a F
  refine sLr Tryz.underlying29 rfl ?si F rfl rfl rfl (H.whole 4 rfl) ?_
  case si => exact info_size Tryz.sizeOf29
  clear F a; intro a F
  refine sCall Tryz.call12 F rfl rfl rfl (finals15_any _ q _ (hpq H 3 2 rfl rfl) (hN.own H) 3 (by decide)) ?_
  rintro e w ⟨A7, k3, l3, q3, rfl, hq3, hf3, H2⟩
  replace H := H.join H2; clear H2
  refine ⟨_, rfl, ?_⟩
  clear F a; intro a F
  refine sMv F rfl rfl rfl (qExt rfl rfl rfl rfl (qExt rfl rfl rfl rfl (qExt rfl rfl rfl rfl (qAs rfl rfl rfl (qAs rfl rfl rfl (qAs rfl rfl rfl (qNK hK26 (qSR fun K27 hK27=>qMv rfl rfl rfl (qMv rfl rfl rfl ?_)))))))));clear hK26;clear F a;intro a F
  refine F.split 82 rfl ?_ ?_ <;> (clear F; intro h82 F)
  ·
   refine sMv F rfl rfl rfl (qPk rfl rfl rfl rfl (qMv rfl rfl rfl ?_));clear F a;intro a F
   refine F.split 85 rfl ?_ ?_ <;> (clear F; intro h85 F)
   ·
    refine sMv F rfl rfl rfl (qPk rfl rfl rfl rfl (qMv rfl rfl rfl ?_));clear F a;intro a F
    refine F.split 88 rfl ?_ ?_ <;> (clear F; intro h88 F)
    ·
     refine sMv F rfl rfl rfl (qNot rfl rfl rfl (qMv rfl rfl rfl ?_));clear F a;intro a F
     refine F.split 91 rfl ?_ ?_ <;> (clear F; intro h91 F)
     ·
      replace h91 := notT h91
      refine sSk F rfl rfl (qSk rfl rfl (qPk rfl rfl rfl rfl (qMv rfl rfl rfl (qSk rfl rfl (qSk rfl rfl (qSk rfl rfl (qPk rfl rfl rfl rfl (qPk rfl rfl rfl rfl (qMv rfl rfl rfl (qMv rfl rfl rfl (qNot rfl rfl rfl (qMv rfl rfl rfl ?_))))))))))));clear F a;intro a F
      refine F.split 104 rfl ?_ ?_ <;> (clear F; intro h104 F)
      ·
       replace h104 := notT h104
       refine sSk F rfl rfl (qSk rfl rfl (qPk rfl rfl rfl rfl (qMv rfl rfl rfl (qSk rfl rfl (qSk rfl rfl (qSk rfl rfl (qPk rfl rfl rfl rfl (qPk rfl rfl rfl rfl (qMv rfl rfl rfl ?_)))))))));clear F a;intro a F
       refine sCall Tryz.call14 F rfl rfl rfl (awake15_any _ (hN.own H)) ?_
       rintro e w ⟨rfl, hb⟩
       replace H := H.grow hb; clear hb
       refine ⟨_, rfl, ?_⟩
       clear F a; intro a F
       refine sPk F rfl rfl rfl rfl (qAs rfl rfl rfl (qNK hK27 ?_));clear hK27;clear F a;intro a F
       refine wp_ret ?_
       refine bRet Tryz.results4 F rfl ?_
       exact ⟨rfl, H.below⟩
      replace h104 := notF h104
      exact absurd (h91.symm.trans h104) (by decide)
     replace h91 := notF h91
     refine sMv F rfl rfl rfl (qNot rfl rfl rfl (qPk rfl rfl rfl rfl (qMv rfl rfl rfl ?_)));clear F a;intro a F
     refine F.split 95 rfl ?_ ?_ <;> (clear F; intro h95 F)
     ·
      replace h95 := notT h95
      refine sSk F rfl rfl (qSk rfl rfl (qSk rfl rfl (qPk rfl rfl rfl rfl (qPk rfl rfl rfl rfl (qMv rfl rfl rfl (qMv rfl rfl rfl (qNot rfl rfl rfl (qMv rfl rfl rfl ?_))))))));clear F a;intro a F
      refine F.split 104 rfl ?_ ?_ <;> (clear F; intro h104 F)
      ·
       replace h104 := notT h104
       exact absurd (h91.symm.trans h104) (by decide)
      replace h104 := notF h104
      refine sMv F rfl rfl rfl (qNot rfl rfl rfl (qPk rfl rfl rfl rfl (qMv rfl rfl rfl ?_)));clear F a;intro a F
      refine F.split 108 rfl ?_ ?_ <;> (clear F; intro h108 F)
      ·
       replace h108 := notT h108
       refine sSk F rfl rfl (qSk rfl rfl (qSk rfl rfl (qPk rfl rfl rfl rfl (qPk rfl rfl rfl rfl (qMv rfl rfl rfl ?_)))));clear F a;intro a F
       refine sCall Tryz.call14 F rfl rfl rfl (awake15_any _ (hN.own H)) ?_
       rintro e w ⟨rfl, hb⟩
       replace H := H.grow hb; clear hb
       refine ⟨_, rfl, ?_⟩
       clear F a; intro a F
       refine sPk F rfl rfl rfl rfl (qAs rfl rfl rfl (qNK hK27 ?_));clear hK27;clear F a;intro a F
       refine wp_ret ?_
       refine bRet Tryz.results4 F rfl ?_
       exact ⟨rfl, H.below⟩
      replace h108 := notF h108
      refine sMv F rfl rfl rfl (qMv rfl rfl rfl ?_);clear F a;intro a F
      refine sCall Tryz.call16 F rfl rfl rfl (fins_true A1 A7 k1 k3 l1 l3 _ (H.rowsAt 2 rfl (bs38_len _) (by decide)) (H.rowsAt 0 rfl (bs38_len _) (by decide)) (fin_short hf1) (fin_short hf3) (fenced_same hvq hFq (by decide) hf1 hf3 (hq1.1 h91) (hq3.1 h108))) ?_
      rintro e w ⟨rfl, hb⟩
      replace H := H.grow hb; clear hb
      refine ⟨_, rfl, ?_⟩
      clear F a; intro a F
      refine sPk F rfl rfl rfl rfl (qPk rfl rfl rfl rfl (qMv rfl rfl rfl ?_));clear F a;intro a F
      refine F.split 114 rfl ?_ ?_ <;> (clear F; intro h114 F)
      ·
       refine sCall Tryz.call14 F rfl rfl rfl (awake15_any _ (hN.own H)) ?_
       rintro e w ⟨rfl, hb⟩
       replace H := H.grow hb; clear hb
       refine ⟨_, rfl, ?_⟩
       clear F a; intro a F
       refine sPk F rfl rfl rfl rfl (qAs rfl rfl rfl (qNK hK27 ?_));clear hK27;clear F a;intro a F
       refine wp_ret ?_
       refine bRet Tryz.results4 F rfl ?_
       exact ⟨rfl, H.below⟩
      cases h114
     replace h95 := notF h95
     refine sMv F rfl rfl rfl (qMv rfl rfl rfl ?_);clear F a;intro a F
     refine sCall Tryz.call16 F rfl rfl rfl (fins_true A1 A2 k1 k2 l1 l2 _ (H.rowsAt 2 rfl (bs38_len _) (by decide)) (H.rowsAt 1 rfl (bs38_len _) (by decide)) (fin_short hf1) (fin_short hf2) (fenced_same hvq hFq (by decide) hf1 hf2 (hq1.1 h91) (hq2.1 h95))) ?_
     rintro e w ⟨rfl, hb⟩
     replace H := H.grow hb; clear hb
     refine ⟨_, rfl, ?_⟩
     clear F a; intro a F
     refine sPk F rfl rfl rfl rfl (qPk rfl rfl rfl rfl (qMv rfl rfl rfl ?_));clear F a;intro a F
     refine F.split 101 rfl ?_ ?_ <;> (clear F; intro h101 F)
     ·
      refine sMv F rfl rfl rfl (qNot rfl rfl rfl (qMv rfl rfl rfl ?_));clear F a;intro a F
      refine F.split 104 rfl ?_ ?_ <;> (clear F; intro h104 F)
      ·
       replace h104 := notT h104
       exact absurd (h91.symm.trans h104) (by decide)
      replace h104 := notF h104
      refine sMv F rfl rfl rfl (qNot rfl rfl rfl (qPk rfl rfl rfl rfl (qMv rfl rfl rfl ?_)));clear F a;intro a F
      refine F.split 108 rfl ?_ ?_ <;> (clear F; intro h108 F)
      ·
       replace h108 := notT h108
       refine sSk F rfl rfl (qSk rfl rfl (qSk rfl rfl (qPk rfl rfl rfl rfl (qPk rfl rfl rfl rfl (qMv rfl rfl rfl ?_)))));clear F a;intro a F
       refine sCall Tryz.call14 F rfl rfl rfl (awake15_any _ (hN.own H)) ?_
       rintro e w ⟨rfl, hb⟩
       replace H := H.grow hb; clear hb
       refine ⟨_, rfl, ?_⟩
       clear F a; intro a F
       refine sPk F rfl rfl rfl rfl (qAs rfl rfl rfl (qNK hK27 ?_));clear hK27;clear F a;intro a F
       refine wp_ret ?_
       refine bRet Tryz.results4 F rfl ?_
       exact ⟨rfl, H.below⟩
      replace h108 := notF h108
      refine sMv F rfl rfl rfl (qMv rfl rfl rfl ?_);clear F a;intro a F
      refine sCall Tryz.call16 F rfl rfl rfl (fins_true A1 A7 k1 k3 l1 l3 _ (H.rowsAt 2 rfl (bs38_len _) (by decide)) (H.rowsAt 0 rfl (bs38_len _) (by decide)) (fin_short hf1) (fin_short hf3) (fenced_same hvq hFq (by decide) hf1 hf3 (hq1.1 h91) (hq3.1 h108))) ?_
      rintro e w ⟨rfl, hb⟩
      replace H := H.grow hb; clear hb
      refine ⟨_, rfl, ?_⟩
      clear F a; intro a F
      refine sPk F rfl rfl rfl rfl (qPk rfl rfl rfl rfl (qMv rfl rfl rfl ?_));clear F a;intro a F
      refine F.split 114 rfl ?_ ?_ <;> (clear F; intro h114 F)
      ·
       refine sCall Tryz.call14 F rfl rfl rfl (awake15_any _ (hN.own H)) ?_
       rintro e w ⟨rfl, hb⟩
       replace H := H.grow hb; clear hb
       refine ⟨_, rfl, ?_⟩
       clear F a; intro a F
       refine sPk F rfl rfl rfl rfl (qAs rfl rfl rfl (qNK hK27 ?_));clear hK27;clear F a;intro a F
       refine wp_ret ?_
       refine bRet Tryz.results4 F rfl ?_
       exact ⟨rfl, H.below⟩
      cases h114
     cases h101
    cases h88
   cases h85
  cases h82
end Go.Proofs.YtbgnapmaimkpkaaGreatDoor
