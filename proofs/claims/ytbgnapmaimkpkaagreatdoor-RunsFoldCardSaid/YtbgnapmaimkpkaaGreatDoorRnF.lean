/-
  WALK2. Package runs: Finals. Conditions: the program lies in memory; block 0 holds the table of needs.
-/
import Derived.Test.YtbgnapmaimkpkaaGreatDoorRnM
import Derived.Test.YtbgnapmaimkpkaaGreatDoorRnH
set_option linter.unusedSimpArgs false
set_option linter.unusedVariables false
namespace Go.Proofs.YtbgnapmaimkpkaaGreatDoor
open Go.RowKit
set_option maxRecDepth 100000
def finB (fd : Fnd) : List By := fd.ends.map fun k => finalP (fd.list.getD k zb)
theorem fin_tl (fd : Fnd) : tl (finB fd) = finsR fd := by
  unfold tl finB finsR
  rw [List.map_map]; rfl
def FinOut (p : Prg) (m : UInt8) (n : Int) (l : List By) : Prop := (statesE p m n ≠ 0 → l = []) ∧ (statesE p m n = 0 → l ≠ [] ∧ l.length ≤ 65536 ∧ Rising (tl l) ∧ ∀ x, x ∈ tl l ↔ OutM p m x)
theorem finals_any (cs : List Value) (p : Prg) (w0 : World) (hP : ProgAt w0 cs p) (hN : NeedsAt w0) (mc : UInt8) (n : Int) (hlo : -9223372036854775808 ≤ n) (hhi : n ≤ 9223372036854775807) :
    Calls Tryz.prog 19 #[.agg cs.toArray, Go.Proofs.YtbgnapmaimkpkaaGreatDoor.b8 mc, .int .i64 n] w0 fun e w' => ∃ (A : Option Addr) (c : Nat) (l2 : List By), e = .returned (.tuple #[.slice A l2.length c, .int .i64 (statesE p mc n)]) ∧ FinOut p mc n l2 ∧ Own w0 none w' [.rws 47 38 (.slice A l2.length c) (l2.map (bs 38))] := by
  have H := Own.start w0 none
  have hP0 := hP
  obtain ⟨LA, LC, IA, IC, TA, TC, h, ccs, hp⟩ := hP
  obtain ⟨c1, c2, c3, c4, c5, rfl⟩ := len5 (condAt_len hp.cond)
  have hcs := hp.cs
  subst hcs;refine enterF Tryz.func19 rfl Tryz.ntmps19 rfl (fun a F => ?_);refine cSR fun K1 hK1=>?_;refine sBx H F rfl rfl rfl ?_;clear F a H; intro b3 a w F H;refine sAs F rfl rfl rfl (qAs rfl rfl rfl (qNK hK1 (qSR fun K2 hK2=>?_)));clear hK1;clear F a;intro a F
  refine sLr Tryz.underlying29 rfl ?si F rfl rfl rfl (H.whole 0 rfl) ?_
  case si => exact info_size Tryz.sizeOf29
  clear F a; intro a F;refine sMv F rfl rfl rfl (qMv rfl rfl rfl ?_);clear F a;intro a F;refine sCall Tryz.call46 F rfl rfl rfl (states_any _ p _ (hP0.own H) (hN.own H) mc n hlo hhi) ?_;rintro e w ⟨A1, k1, A2, k2, A3, k3, rfl, H2⟩;replace H := H.join H2; clear H2;refine ⟨_, rfl, ?_⟩;clear F a; intro a F;refine sMv F rfl rfl rfl (qExt rfl rfl rfl rfl (qExt rfl rfl rfl rfl ?_));clear F a;intro a F;refine sAl H Tryz.zeroValue113 F rfl rfl ?_;clear F a H; intro b8 a w F H
  refine sSr H 0 ?si F rfl rfl rfl ?s1 rfl rfl ?_
  case si => exact info_size Tryz.sizeOf113
  case s1 => first | rfl | (repeat (first | exact one_nil | (apply one_cons; · first | rfl | assumption | exact one_bif rfl rfl)))
  clear H; intro w H;refine sAs F rfl rfl rfl (qNK hK2 ?_);clear hK2;clear F a;intro a F;refine cSeq (fun K3 hK3 => ?_);refine cSR fun K4 hK4=>sMv F rfl rfl rfl (qBin rfl rfl rfl rfl bNeq (qNK hK4 ?_));clear hK4;clear F a;intro a F
  refine cIf F rfl (fun h21 => ?_) (fun h21 => ?_)
  ·
   replace h21 := bneT h21;refine cSR fun K5 hK5=>sMv F rfl rfl rfl (qAs rfl rfl rfl (qAs rfl rfl rfl (qNK hK5 ?_)));clear hK5;clear F a;intro a F;refine wp_ret ?_;simp only [Exit.then];refine bRet2 Tryz.results19 F rfl rfl ?_
   first
   | (have hE : statesE p mc n ≠ 0 := h21
      exact ⟨none, 0, [], rfl, ⟨fun _ => rfl, fun h => absurd h hE⟩, (H.nilRws 47 38).pick 0 rfl⟩)
   | (rw [hE]
      refine ⟨A5, c5, l2, rfl, ⟨fun h => absurd hE h, fun _ => ⟨?_, ?_, hris, fun x => ?_⟩⟩, H.pick 0 rfl⟩
      · intro e
        obtain ⟨y, hy⟩ := List.exists_mem_of_ne_nil _ hne
        have := (hmem (toL 38 y)).2 (List.mem_map.2 ⟨y, hy, rfl⟩)
        rw [e] at this; cases this
      · omega
      · rw [hmem, fin_tl]
        exact fins_iff hF)
  replace h21 := bneF h21
  have hE : statesE p mc n = 0 := h21
  obtain ⟨fd, hfd, hF, hn65, _, _⟩ := states_some hE
  rw [hfd] at H F
  have hml := (states_small hfd).2
  have hfo : fo (some fd) = fd := rfl
  rw [hfo] at H F
  have hfl : ∀ i, i ≤ fd.ends.length → ((finB fd).take i).length = i := fun i hi => by rw [List.length_take]; unfold finB; rw [List.length_map]; omega
  refine wp_skip (hK3 _ _ (cSR fun K6 hK6=>sAs F rfl rfl rfl ?_));clear hK3;clear F a;intro a F
  replace H := H.nilRws 47 38
  refine nK hK6 ?_;clear hK6;refine cSeq (fun K7 hK7 => ?_);refine cSR fun K8 hK8=>sFa (f := 2) (k := 2) Tryz.underlying113 rfl Tryz.sizeOf83 rfl rfl F rfl rfl rfl (qLd Tryz.isAgg83 rfl rfl rfl (H.cell 1 rfl rfl) (qLen Tryz.underlying83 rfl rfl rfl (qMv rfl rfl rfl (qNK hK8 ?_))));clear hK8;clear F a;intro a F;refine wp_block ?_
  refine cLoopR [8, 24, 25] (fun m ups w => ∃ (i : Nat) (A4 : Option Addr) (c4 : Nat), m = fd.ends.length - i ∧ ups = [(10, .slice A4 ((finB fd).take i).length c4), (26, .int .i64 ((i : Nat) : Int))] ∧ i ≤ fd.ends.length ∧ Own w0 none w [.rws 47 38 (.slice A4 ((finB fd).take i).length c4) (((finB fd).take i).map (bs 38)), .rws 70 142 (.slice A1 fd.list.length k1) (fd.list.map (bs 142)), .rws 3 1 (.slice A3 fd.ends.length k3) (fd.ends.map enC), .blk b8 [.slice A1 fd.list.length k1, .slice A2 fd.links.length k2, .slice A3 fd.ends.length k3] 113]) F (fd.ends.length) [(10, .slice none 0 0), (26, .int .i64 ((0 : Nat) : Int))] (by repeat (first | exact SubR.nil | (apply SubR.cons; · rfl))) ?_ ?_ ?_
  · exact ⟨0, none, 0, rfl, rfl, by omega, H.sel [0, 2, 4, 1] rfl rfl⟩
  · repeat (first | exact trivial | refine Le.cons rfl ?_)
  clear F
  clear H
  intro m ups a w hI F
  obtain ⟨i, A4, c4, rfl, rfl, hi, H⟩ := hI
  refine cSR fun K9 hK9=>sBin F rfl rfl rfl rfl bLss (qNK hK9 ?_);clear hK9;clear F a;intro a F;refine cSeq (fun K10 hK10 => ?_)
  refine cIf F rfl (fun h27 => ?_) (fun h27 => ?_)
  ·
   replace h27 := of_decide_eq_true h27
   have hil : i < fd.ends.length := by omega
   obtain ⟨k, hk⟩ : ∃ k, fd.ends[i]? = some k := ⟨_, List.getElem?_eq_getElem hil⟩
   obtain ⟨s, hs, _⟩ := (ends_iff hF).1 (List.mem_of_getElem? hk)
   have hkl : k < fd.list.length := (List.getElem?_eq_some_iff.1 hs).1
   have hgd : fd.list.getD k zb = s := by rw [List.getD_eq_getElem?_getD, hs]; rfl
   obtain ⟨bE, oE, rfl, hRE⟩ := H.rowsAt 2 rfl (fun r hr => by obtain ⟨x, _, rfl⟩ := List.mem_map.1 hr; rfl) (by decide) i (enC k) (by rw [List.getElem?_map, hk]; rfl)
   obtain ⟨bS, oS, rfl, hRS⟩ := H.rowsAt 1 rfl (bs_rows _) (by decide) k (bs 142 s) (by rw [List.getElem?_map, hs]; rfl)
   have hsn : (finB fd).take (i + 1) = (finB fd).take i ++ [finalP s] := by
    rw [List.take_add_one]
    unfold finB
    rw [List.getElem?_map, hk]
    show _ ++ [finalP (fd.list.getD k zb)] = _
    rw [hgd]
   refine wp_skip (hK10 _ _ ?_);clear hK10;refine cSeq (fun K11 hK11 => ?_);refine wp_block ?_;refine cSR fun K12 hK12=>?_
   refine sIx Tryz.underlying83 Tryz.sizeOf3 F rfl rfl rfl rfl ?_ ?_
   focus (first | omega | decide | (simp; omega))
   clear F a; intro a F;refine sLd Tryz.isAgg3 F rfl rfl rfl (by simpa using hRE 0 _ rfl) (qAs rfl rfl rfl (qNK hK12 (qReg (qMv rfl rfl rfl (qFa (f := 0) (k := 0) Tryz.underlying113 rfl Tryz.sizeOf51 rfl rfl rfl rfl rfl (qLd Tryz.isAgg51 rfl rfl rfl (H.cell 3 rfl rfl) (qMv rfl rfl rfl ?_)))))));clear hK12;clear F a;intro a F
   refine sIx Tryz.underlying51 Tryz.sizeOf70 F rfl rfl rfl rfl ?_ ?_
   focus exact hkl
   clear F a; intro a F
   refine sLrB Tryz.underlying70 rfl Tryz.sizeOf70 F rfl rfl rfl (by obtain ⟨b', o', g1, g2⟩ := H.rowsAt 1 rfl (bs_rows _) (by decide) k (bs 142 s) (by rw [List.getElem?_map, hs]; rfl); cases g1; exact g2) ?_;clear F a;intro a F
   refine sCall Tryz.call29 F rfl rfl rfl (final_any s _) ?_;rintro e w ⟨rfl, hb⟩;replace H := H.grow hb; clear hb;refine ⟨_, rfl, ?_⟩;clear F a; intro a F;refine sBsA H Tryz.underlying30 Tryz.sizeOf47 Tryz.zeroValue47 rfl F rfl rfl rfl rfl rfl ?_;clear F a H; intro b37 a w F H
   refine sApp1 (bytes := 38) H 1 Tryz.underlying30 Tryz.typeInfo47 rfl rfl rfl rfl rfl rfl F rfl rfl rfl rfl rfl (H.whole 0 rfl) rfl ?s1 ?s2 ?_
   case s1 => first | rfl | (repeat (first | exact one_nil | (apply one_cons; · first | rfl | assumption | exact one_bif rfl rfl)))
   case s2 => (rw [List.length_map, hfl i hi]; omega)
   clear F a H; intro A38 c38 a w F H;refine sAs F rfl rfl rfl (qNK hK11 (qReg ?_));clear hK11;clear F a;intro a F
   refine sBin F rfl rfl rfl rfl (bAddN (j := 1) ?_) ?_
   focus omega
   clear F a; intro a F;refine sMv F rfl rfl rfl ?_;clear F a;intro a F;refine sNil ?_
   have e2 : ((finB fd).take i).map (bs 38) ++ [bs 38 (finalP s)] = ((finB fd).take (i + 1)).map (bs 38) := by rw [hsn, List.map_append]; rfl
   have e3 : (((finB fd).take i).map (bs 38) ++ [bs 38 (finalP s)]).length = ((finB fd).take (i + 1)).length := by rw [e2, List.length_map]
   rw [e3] at F H;rw [e2] at H
   exact ⟨_, by omega, _, ⟨i + 1, A38, c38, rfl, rfl, by omega, H.sel [1, 2, 3, 4] rfl rfl⟩, F.to (by repeat (first | exact trivial | refine Le.cons rfl ?_))⟩
  replace h27 := of_decide_eq_false h27
  have hei : i = fd.ends.length := by omega
  have hall : (finB fd).take i = finB fd := List.take_of_length_le (by unfold finB; rw [List.length_map]; omega)
  rw [hall] at F H
  have hlf : (finB fd).length = fd.ends.length := by unfold finB; rw [List.length_map]
  have hne : finB fd ≠ [] := fun e => by
   have : fd.ends = [] := List.eq_nil_of_length_eq_zero (by rw [← hlf, e]; rfl)
   exact ends_pos hF this
  refine wp_exit ?_;refine hK7 _ _ (cSR fun K13 hK13=>sMv F rfl rfl rfl ?_);clear hK7;clear F a;intro a F;refine sCall Tryz.call47 F rfl rfl rfl (sort_any A4 c4 (finB fd) _ (H.rowsAt 0 rfl (bs38_len _) (by decide)) (by omega) hne) ?_;rintro e w ⟨A5, c5, l2, rfl, hle2, hris, hmem, H2⟩;replace H := H.join H2; clear H2;refine ⟨_, rfl, ?_⟩;clear F a; intro a F;refine sAs F rfl rfl rfl (qAs rfl rfl rfl (qNK hK13 ?_));clear hK13;clear F a;intro a F;refine wp_ret ?_;refine bRet2 Tryz.results19 F rfl rfl ?_
  first
  | (have hE : statesE p mc n ≠ 0 := h21
     exact ⟨none, 0, [], rfl, ⟨fun _ => rfl, fun h => absurd h hE⟩, (H.nilRws 47 38).pick 0 rfl⟩)
  | (rw [hE]
     refine ⟨A5, c5, l2, rfl, ⟨fun h => absurd hE h, fun _ => ⟨?_, ?_, hris, fun x => ?_⟩⟩, H.pick 0 rfl⟩
     · intro e
       obtain ⟨y, hy⟩ := List.exists_mem_of_ne_nil _ hne
       have := (hmem (toL 38 y)).2 (List.mem_map.2 ⟨y, hy, rfl⟩)
       rw [e] at this; cases this
     · omega
     · rw [hmem, fin_tl]
       exact fins_iff hF)
end Go.Proofs.YtbgnapmaimkpkaaGreatDoor
