/-
  WALK2. Package check: fold. Conditions: the thread lies in memory; skips stay within the thread.
-/
import Derived.Test.YtmfdpnjgljlkbaaDoorFoC
set_option linter.unusedSimpArgs false
set_option linter.unusedVariables false
namespace Go.Proofs.YtmfdpnjgljlkbaaDoor
open Go.RowKit
set_option maxRecDepth 100000

set_option maxHeartbeats 4000000 in
theorem fold_any (A : Option Addr) (C : Nat) (l : List Ins) (w0 : World) (hR : RowsAt w0 A 10 (l.map Ins.cells)) (h12 : l.length ≤ 12) (hv : ∀ i x, l[i]? = some x → x.op = 8 → 1 ≤ x.skip.toNat ∧ i + 1 + x.skip.toNat ≤ l.length) :
    Calls Tryd.prog 41 #[.slice A l.length C] w0 fun e w' => ∃ A2 c, e = .returned (.slice A2 (foldP l).length c) ∧ Own w0 none w' [.rws 50 10 (.slice A2 (foldP l).length c) ((foldP l).map Ins.cells)] := by
  have H := Own.start w0 none
  have hA : 0 < l.length → ∀ b' o, A = some ⟨b', o, none⟩ → b' < w0.heap.size := fun hpos b' o hAe => by
    obtain ⟨x, hx⟩ : ∃ x, l[0]? = some x := ⟨_, List.getElem?_eq_getElem hpos⟩
    obtain ⟨b2, o2, h1, h2⟩ := hR 0 x.cells (by rw [List.getElem?_map, hx]; rfl)
    rw [hAe] at h1
    cases h1
    exact World.block_lt_of_cell? w0 _ (h2 0 _ rfl)
  refine enterF Tryd.func41 rfl Tryd.ntmps41 rfl (fun a F => ?_)
  refine cSeq (fun K1 hK1 => ?_)
  refine cReg ?_
  refine sAs F rfl rfl rfl ?_;clear F a;intro a F
  refine sNil ?_
  refine hK1 _ _ ?_; clear hK1
  refine cSeq (fun K2 hK2 => ?_)
  refine cReg ?_
  refine sBs1 H Tryd.underlying101 Tryd.sizeOf4 Tryd.zeroValue4 rfl F rfl rfl rfl rfl ?_
  clear F a H; intro b7 a w F H
  refine sMv F rfl rfl rfl ?_;clear F a;intro a F
  refine sLen Tryd.underlying22 F rfl rfl rfl ?_;clear F a;intro a F
  refine sCall Tryd.call65 F rfl rfl rfl (repeat_any b7 l.length _ (by omega) (H.whole 0 rfl)) ?_
  rintro e w ⟨B, rfl, H2⟩
  replace H := H.join H2; clear H2
  refine ⟨_, rfl, ?_⟩
  clear F a; intro a F
  refine sAs F rfl rfl rfl ?_;clear F a;intro a F
  refine sNil ?_
  refine hK2 _ _ ?_; clear hK2
  refine cSeq (fun K3 hK3 => ?_)
  refine wp_block ?_
  refine cLoopR [0, 3] (fun m ups w => ∃ (al : List Bool) (n : Nat), m = al.count true ∧ ups = [] ∧ al.length = l.length ∧ al.count true + 1 ≤ n ∧ foldAl l = foldA l n al ∧ Own w0 none w [.blk B (bl al) 4]) F (l.length) [] (by repeat (first | exact SubR.nil | (apply SubR.cons; · rfl))) ?_ ?_ ?_
  · exact ⟨List.replicate l.length true, l.length + 1, by simp, rfl, by simp, by simp, rfl, H.sel [0] rfl rfl⟩
  · repeat (first | exact trivial | refine Le.cons rfl ?_)
  clear F
  clear H
  intro m ups a w hI F
  obtain ⟨al, n, rfl, rfl, hal, hn, hfo, H⟩ := hI
  have hne : 0 < l.length → ∀ b' o, A = some ⟨b', o, none⟩ → b' ≠ B := fun hpos b' o hAe e => by
    have h1 := hA hpos b' o hAe
    have h2 := H.foot 0 _ rfl B rfl
    rcases h2.1 with h3 | h3
    · omega
    · cases h3
  refine cSeq (fun K4 hK4 => ?_)
  refine cSeq (fun K5 hK5 => ?_)
  refine cReg ?_
  refine sMv F rfl rfl rfl ?_;clear F a;intro a F
  refine sMv F rfl rfl rfl ?_;clear F a;intro a F
  refine sCall Tryd.call66 F rfl rfl rfl ((by have := sweep_any A C l B al _ (hR.own H) (H.blk 0 rfl) hal h12 hv hne; rw [hal] at this; exact this)) ?_
  rintro e w ⟨rfl, H2⟩
  replace H := H.turned 0 rfl H2; clear H2
  refine ⟨_, rfl, ?_⟩
  clear F a; intro a F
  refine sNil ?_
  refine hK5 _ _ ?_; clear hK5
  refine cIf F rfl (fun h13 => ?_) (fun h13 => ?_)
  ·
   refine wp_skip ?_
   refine hK4 _ _ ?_; clear hK4
   refine wp_block ?_
   refine wp_skip ?_
   (obtain ⟨n', rfl⟩ : ∃ n', n = n' + 1 := ⟨n - 1, by omega⟩
    have hc := (sweepK_count l (reachP l al l.length) al l.length).2 h13
    exact ⟨_, hc, _, ⟨(sweepP l al).1, n', rfl, rfl, by rw [sweepP_length, hal], (by have : (sweepP l al).1.count true < al.count true := hc; omega), by rw [hfo, foldA, if_pos h13], H.sel [0] rfl rfl⟩, F.to (by repeat (first | exact trivial | refine Le.cons rfl ?_))⟩)
  obtain ⟨n', rfl⟩ : ∃ n', n = n' + 1 := ⟨n - 1, by omega⟩
  have hfin : foldAl l = (sweepP l al).1 := by rw [hfo, foldA, if_neg (by rw [h13]; simp)]
  have hAl : (foldAl l).length = l.length := by rw [hfin, sweepP_length, hal]
  rw [← hfin] at H
  refine wp_exit ?_
  refine hK3 _ _ ?_; clear hK3
  refine cSeq (fun K6 hK6 => ?_)
  refine cReg ?_
  refine sAs F rfl rfl rfl ?_;clear F a;intro a F
  replace H := H.nilRws 50 10
  refine sNil ?_
  refine hK6 _ _ ?_; clear hK6
  refine cSeq (fun K7 hK7 => ?_)
  refine cSeq (fun K8 hK8 => ?_)
  refine cReg ?_
  refine sMv F rfl rfl rfl ?_;clear F a;intro a F
  refine sLen Tryd.underlying22 F rfl rfl rfl ?_;clear F a;intro a F
  refine sMv F rfl rfl rfl ?_;clear F a;intro a F
  refine sNil ?_
  refine hK8 _ _ ?_; clear hK8
  refine wp_block ?_
  refine cLoopR [0, 3, 14, 15] (fun m ups w => ∃ (k : Nat) (A4 : Option Addr) (k4 : Nat), m = l.length - k ∧ ups = [(4, .slice A4 (outP l (foldAl l) k).length k4), (16, .int .i64 ((k : Nat) : Int))] ∧ k ≤ l.length ∧ Own w0 none w [.rws 50 10 (.slice A4 (outP l (foldAl l) k).length k4) ((outP l (foldAl l) k).map Ins.cells), .blk B (bl (foldAl l)) 4]) F (l.length) [(4, .slice none 0 0), (16, .int .i64 ((0 : Nat) : Int))] (by repeat (first | exact SubR.nil | (apply SubR.cons; · rfl))) ?_ ?_ ?_
  · exact ⟨0, none, 0, rfl, rfl, by omega, H.sel [0, 1] rfl rfl⟩
  · repeat (first | exact trivial | refine Le.cons rfl ?_)
  clear F
  clear H
  intro m ups a w hI F
  obtain ⟨k, A4, k4, rfl, rfl, hk, H⟩ := hI
  have hol := outP_length l (foldAl l) k
  refine cSeq (fun K9 hK9 => ?_)
  refine cReg ?_
  refine sBin F rfl rfl rfl rfl bLss ?_;clear F a;intro a F
  refine sNil ?_
  refine hK9 _ _ ?_; clear hK9
  refine cSeq (fun K10 hK10 => ?_)
  refine cIf F rfl (fun h17 => ?_) (fun h17 => ?_)
  ·
   replace h17 := of_decide_eq_true h17
   have hkl : k < l.length := by omega
   obtain ⟨x, hx⟩ : ∃ x, l[k]? = some x := ⟨_, List.getElem?_eq_getElem hkl⟩
   have hR2 := hR
   obtain ⟨bI, oI, rfl, hIx⟩ := hR k x.cells (by rw [List.getElem?_map, hx]; rfl)
   obtain ⟨av, hav⟩ : ∃ v, (foldAl l)[k]? = some v := ⟨_, List.getElem?_eq_getElem (by omega)⟩
   have e := outP_at (al := foldAl l) hx
   rw [getD_of hav] at e
   refine wp_skip ?_
   refine hK10 _ _ ?_; clear hK10
   refine cSeq (fun K11 hK11 => ?_)
   refine wp_block ?_
   refine cSeq (fun K12 hK12 => ?_)
   refine cReg ?_
   refine sMv F rfl rfl rfl ?_;clear F a;intro a F
   refine sIx Tryd.underlying22 Tryd.sizeOf50 F rfl rfl rfl rfl ?_ ?_
   focus (first | omega | decide | (simp; omega))
   clear F a; intro a F
   refine sLr Tryd.underlying50 rfl ?si F rfl rfl rfl (H.argR hIx) ?_
   case si => exact info_size Tryd.sizeOf50
   clear F a; intro a F
   refine sAl H Tryd.zeroValue50 F rfl rfl ?_
   clear F a H; intro b6 a w F H
   refine sAs F rfl rfl rfl ?_;clear F a;intro a F
   refine sSr H 0 ?si F rfl rfl rfl ?s1 rfl rfl ?_
   case si => exact info_size Tryd.sizeOf50
   case s1 => first | rfl | (repeat (first | exact one_nil | (apply one_cons; · first | rfl | assumption | exact one_bif rfl rfl)))
   clear H; intro w H
   refine sNil ?_
   refine hK12 _ _ ?_; clear hK12
   refine cSeq (fun K13 hK13 => ?_)
   refine cSeq (fun K14 hK14 => ?_)
   refine cReg ?_
   refine sMv F rfl rfl rfl ?_;clear F a;intro a F
   refine sMv F rfl rfl rfl ?_;clear F a;intro a F
   refine sIx Tryd.underlying101 Tryd.sizeOf4 F rfl rfl rfl rfl ?_ ?_
   focus (first | omega | decide | (simp; omega))
   clear F a; intro a F
   refine sLd Tryd.isAgg4 F rfl rfl rfl (H.cell 2 rfl (bl_at hav)) ?_;clear F a;intro a F
   refine sNot F rfl rfl rfl ?_;clear F a;intro a F
   refine sNil ?_
   refine hK14 _ _ ?_; clear hK14
   refine cIf F rfl (fun h25 => ?_) (fun h25 => ?_)
   ·
    replace h25 := notT h25
    refine wp_exit ?_
    refine hK11 _ _ ?_; clear hK11
    refine cReg ?_
    refine sBin F rfl rfl rfl rfl (bAddN (j := 1) ?_) ?_
    focus omega
    clear F a; intro a F
    refine sMv F rfl rfl rfl ?_;clear F a;intro a F
    refine sNil ?_
    first
      | (rw [if_neg (by rw [h25]; simp)] at e
         exact ⟨_, by omega, _, ⟨k + 1, A4, k4, rfl, by rw [e], by omega, by rw [e]; exact H.sel [1, 2] rfl rfl⟩, F.to (by repeat (first | exact trivial | refine Le.cons rfl ?_))⟩)
      | (rw [if_pos h25] at e
         have eL : (outP l (foldAl l) (k + 1)).length = (outP l (foldAl l) k).length + 1 := by rw [e]; simp
         simp only [List.length_append, List.length_map, List.length_cons, List.length_nil, Nat.zero_add] at H F
         refine ⟨_, by omega, _, ⟨k + 1, A37, c37, rfl, rfl, by omega, ?_⟩, ?_⟩
         · rw [eL, e, List.map_append, keepI]
           first
             | (rw [if_pos h28]; exact H.sel [1, 2] rfl rfl)
             | (rw [if_neg h28]; exact H.sel [1, 2] rfl rfl)
         · rw [eL]; exact F.to (by repeat (first | exact trivial | refine Le.cons rfl ?_)))
   replace h25 := notF h25
   refine wp_skip ?_
   refine hK13 _ _ ?_; clear hK13
   refine cSeq (fun K15 hK15 => ?_)
   refine cSeq (fun K16 hK16 => ?_)
   refine cReg ?_
   refine sFa (f := 0) (k := 0) Tryd.underlying50 rfl Tryd.sizeOf5 rfl rfl F rfl rfl rfl ?_;clear F a;intro a F
   refine sLd Tryd.isAgg5 F rfl rfl rfl (H.cell 0 rfl rfl) ?_;clear F a;intro a F
   refine sBin F rfl rfl rfl rfl (bEqlB (y := 8)) ?_;clear F a;intro a F
   refine sNil ?_
   refine hK16 _ _ ?_; clear hK16
   refine cIf F rfl (fun h28 => ?_) (fun h28 => ?_)
   ·
    replace h28 := beqT h28
    obtain ⟨hs1, hs2⟩ := hv k x hx h28
    refine cReg ?_
    refine sMv F rfl rfl rfl ?_;clear F a;intro a F
    refine sMv F rfl rfl rfl ?_;clear F a;intro a F
    refine sMv F rfl rfl rfl ?_;clear F a;intro a F
    refine sCall Tryd.call67 F rfl rfl rfl ((by have := skipped_any _ C l B (foldAl l) k x _ ⟨hR2.own H, H.whole 2 rfl, hx, hAl, h12, hs1, hs2⟩; rw [hAl] at this; exact this)) ?_
    rintro e w ⟨rfl, hb⟩
    replace H := H.grow hb; clear hb
    refine ⟨_, rfl, ?_⟩
    clear F a; intro a F
    refine sFa (f := 7) (k := 9) Tryd.underlying50 rfl Tryd.sizeOf5 rfl rfl F rfl rfl rfl ?_;clear F a;intro a F
    refine sSt H 0 Tryd.sizeOf5 F rfl rfl rfl rfl rfl rfl ?_
    clear H; intro w H
    refine sNil ?_
    refine hK15 _ _ ?_; clear hK15
    refine cReg ?_
    refine sMv F rfl rfl rfl ?_;clear F a;intro a F
    refine sLr Tryd.underlying50 rfl ?si F rfl rfl rfl (H.whole 0 rfl) ?_
    case si => exact info_size Tryd.sizeOf50
    clear F a; intro a F
    refine sBsA H Tryd.underlying22 Tryd.sizeOf50 Tryd.zeroValue50 rfl F rfl rfl rfl rfl rfl ?_
    clear F a H; intro b36 a w F H
    refine sApp1 (bytes := 10) H 2 Tryd.underlying22 Tryd.typeInfo50 rfl rfl rfl rfl rfl rfl F rfl rfl rfl rfl rfl (H.whole 0 rfl) rfl ?s1 ?s2 ?_
    case s1 => first | rfl | (repeat (first | exact one_nil | (apply one_cons; · first | rfl | assumption | exact one_bif rfl rfl)))
    case s2 => (rw [List.length_map]; omega)
    clear F a H; intro A37 c37 a w F H
    refine sAs F rfl rfl rfl ?_;clear F a;intro a F
    refine sNil ?_
    refine hK11 _ _ ?_; clear hK11
    refine cReg ?_
    refine sBin F rfl rfl rfl rfl (bAddN (j := 1) ?_) ?_
    focus omega
    clear F a; intro a F
    refine sMv F rfl rfl rfl ?_;clear F a;intro a F
    refine sNil ?_
    first
      | (rw [if_neg (by rw [h25]; simp)] at e
         exact ⟨_, by omega, _, ⟨k + 1, A4, k4, rfl, by rw [e], by omega, by rw [e]; exact H.sel [2, 3] rfl rfl⟩, F.to (by repeat (first | exact trivial | refine Le.cons rfl ?_))⟩)
      | (rw [if_pos h25] at e
         have eL : (outP l (foldAl l) (k + 1)).length = (outP l (foldAl l) k).length + 1 := by rw [e]; simp
         simp only [List.length_append, List.length_map, List.length_cons, List.length_nil, Nat.zero_add] at H F
         refine ⟨_, by omega, _, ⟨k + 1, A37, c37, rfl, rfl, by omega, ?_⟩, ?_⟩
         · rw [eL, e, List.map_append, keepI]
           first
             | (rw [if_pos h28]; exact H.sel [2, 3] rfl rfl)
             | (rw [if_neg h28]; exact H.sel [2, 3] rfl rfl)
         · rw [eL]; exact F.to (by repeat (first | exact trivial | refine Le.cons rfl ?_)))
   replace h28 := beqF h28
   refine wp_skip ?_
   refine hK15 _ _ ?_; clear hK15
   refine cReg ?_
   refine sMv F rfl rfl rfl ?_;clear F a;intro a F
   refine sLr Tryd.underlying50 rfl ?si F rfl rfl rfl (H.whole 0 rfl) ?_
   case si => exact info_size Tryd.sizeOf50
   clear F a; intro a F
   refine sBsA H Tryd.underlying22 Tryd.sizeOf50 Tryd.zeroValue50 rfl F rfl rfl rfl rfl rfl ?_
   clear F a H; intro b36 a w F H
   refine sApp1 (bytes := 10) H 2 Tryd.underlying22 Tryd.typeInfo50 rfl rfl rfl rfl rfl rfl F rfl rfl rfl rfl rfl (H.whole 0 rfl) rfl ?s1 ?s2 ?_
   case s1 => first | rfl | (repeat (first | exact one_nil | (apply one_cons; · first | rfl | assumption | exact one_bif rfl rfl)))
   case s2 => (rw [List.length_map]; omega)
   clear F a H; intro A37 c37 a w F H
   refine sAs F rfl rfl rfl ?_;clear F a;intro a F
   refine sNil ?_
   refine hK11 _ _ ?_; clear hK11
   refine cReg ?_
   refine sBin F rfl rfl rfl rfl (bAddN (j := 1) ?_) ?_
   focus omega
   clear F a; intro a F
   refine sMv F rfl rfl rfl ?_;clear F a;intro a F
   refine sNil ?_
   first
     | (rw [if_neg (by rw [h25]; simp)] at e
        exact ⟨_, by omega, _, ⟨k + 1, A4, k4, rfl, by rw [e], by omega, by rw [e]; exact H.sel [2, 3] rfl rfl⟩, F.to (by repeat (first | exact trivial | refine Le.cons rfl ?_))⟩)
     | (rw [if_pos h25] at e
        have eL : (outP l (foldAl l) (k + 1)).length = (outP l (foldAl l) k).length + 1 := by rw [e]; simp
        simp only [List.length_append, List.length_map, List.length_cons, List.length_nil, Nat.zero_add] at H F
        refine ⟨_, by omega, _, ⟨k + 1, A37, c37, rfl, rfl, by omega, ?_⟩, ?_⟩
        · rw [eL, e, List.map_append, keepI]
          first
            | (rw [if_pos h28]; exact H.sel [2, 3] rfl rfl)
            | (rw [if_neg h28]; exact H.sel [2, 3] rfl rfl)
        · rw [eL]; exact F.to (by repeat (first | exact trivial | refine Le.cons rfl ?_)))
  replace h17 := of_decide_eq_false h17
  obtain rfl : k = l.length := by omega
  refine wp_exit ?_
  refine hK7 _ _ ?_; clear hK7
  refine cSeq (fun K17 hK17 => ?_)
  refine cReg ?_
  refine sMv F rfl rfl rfl ?_;clear F a;intro a F
  refine sAs F rfl rfl rfl ?_;clear F a;intro a F
  refine sNil ?_
  refine hK17 _ _ ?_; clear hK17
  refine wp_ret ?_
  refine bRet Tryd.results41 F rfl ?_
  exact ⟨_, _, rfl, H.pick 0 rfl⟩
end Go.Proofs.YtmfdpnjgljlkbaaDoor
