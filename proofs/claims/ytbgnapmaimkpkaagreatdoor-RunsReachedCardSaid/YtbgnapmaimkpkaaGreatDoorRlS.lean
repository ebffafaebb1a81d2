/-
  WALK2. The law RunsReached. Conditions: the program lies in memory; block 0 holds the table of needs.
-/
import Derived.Test.YtbgnapmaimkpkaaGreatDoorRnI
import Derived.Test.YtbgnapmaimkpkaaGreatDoorRlR
set_option linter.unusedSimpArgs false
set_option linter.unusedVariables false
namespace Go.Proofs.YtbgnapmaimkpkaaGreatDoor
open Go.RowKit
set_option maxRecDepth 100000
def frC (fr : List Nat) : List Value := fr.map fun (x : Nat) => .int .i64 (x : Int)
theorem frC_at {fr : List Nat} {k y : Nat} (h : fr[k]? = some y) : (frC fr)[k]? = some (.int .i64 (y : Int)) := by unfold frC; rw [List.getElem?_map, h]; rfl
theorem frC_set (fr : List Nat) (k y : Nat) : (frC fr).set k (.int .i64 (y : Int)) = frC (fr.set k y) := by unfold frC; rw [List.map_set]
theorem frC_zero (n : Nat) : List.replicate n (Value.int .i64 0) = frC (List.replicate n 0) := by unfold frC; rw [List.map_replicate]; rfl
set_option maxHeartbeats 2000000 in
theorem runsReached_any (cs : List Value) (p : Prg) (w0 : World) (hP : ProgAt w0 cs p) (hN : NeedsAt w0) (u : UInt8) :
    Calls Tryz.prog 6 #[.agg cs.toArray, Go.Proofs.YtbgnapmaimkpkaaGreatDoor.b8 u] w0 fun e w' => e = .returned (.bool true) ∧ Below w0.heap.size w0 w' := by
  have H := Own.start w0 none
  have hP0 := hP
  obtain ⟨LA, LC, IA, IC, TA, TC, h, ccs, hp⟩ := hP
  obtain ⟨c1, c2, c3, c4, c5, rfl⟩ := len5 (condAt_len hp.cond)
  have hcs := hp.cs
  subst hcs
  have hkm := known_machine u
  have hk3 : (1 : UInt8) ≤ (1 + u % 3) ∧ (1 + u % 3) ≤ 3 := by unfold knownM at hkm; simpa using hkm
  refine enterF Tryz.func6 rfl Tryz.ntmps6 rfl (fun a F => ?_)
  refine cSR fun K1 hK1=>?_
  refine sBx H F rfl rfl rfl ?_
  clear F a H; intro b2 a w F H
  refine sAs F rfl rfl rfl (qNK hK1 (qSR fun K2 hK2=>qMv rfl rfl rfl ?_));clear hK1;clear F a;intro a F
  refine sBin F rfl rfl rfl rfl (bRemB (y := 3) ?_) ?_
  focus decide
  clear F a; intro a F
  refine sBin F rfl rfl rfl rfl (bAddB (x := 1)) (qAs rfl rfl rfl (qNK hK2 (qSR fun K3 hK3=>?_)));clear hK2;clear F a;intro a F
  refine sLr Tryz.underlying29 rfl ?si F rfl rfl rfl (H.whole 0 rfl) ?_
  case si => exact info_size Tryz.sizeOf29
  clear F a; intro a F
  refine sMv F rfl rfl rfl ?_;clear F a;intro a F
  refine sCall Tryz.call18 F rfl rfl rfl (reached_any _ p _ (hP0.own H) (hN.own H) (1 + u % 3) 200 (by decide) (by decide)) ?_
  rintro e w ⟨A1, k1, rfl, H2⟩
  replace H := H.join H2; clear H2
  refine ⟨_, rfl, ?_⟩
  clear F a; intro a F
  refine sMv F rfl rfl rfl (qExt rfl rfl rfl rfl (qExt rfl rfl rfl rfl (qAs rfl rfl rfl (qAs rfl rfl rfl (qNK hK3 ?_)))));clear hK3;clear F a;intro a F
  refine cSeq (fun K4 hK4 => ?_)
  refine cSR fun K5 hK5=>sMv F rfl rfl rfl (qBin rfl rfl rfl rfl bNeq (qNK hK5 ?_));clear hK5;clear F a;intro a F
  refine cIf F rfl (fun h40 => ?_) (fun h40 => ?_)
  ·
   replace h40 := bneT h40
   have hbad := most_bad2 (n := 200) (by decide) h40
   have hb : statesE p (1 + u % 3) 200 = 5 ∨ statesE p (1 + u % 3) 200 = 2 := hbad.2.imp (·.1) (·.1)
   have hb5 : statesE p (1 + u % 3) 200 = 5 → rightErr p = 0 := fun e => by
    rcases hbad.2 with h | h
    · exact h.2.1
    · rw [e] at h; exact absurd h.1 (by decide)
   have hb2 : statesE p (1 + u % 3) 200 = 2 → ¬ rightErr p = 0 := fun e => by
    rcases hbad.2 with h | h
    · rw [e] at h; exact absurd h.1 (by decide)
    · exact fun h2 => h.2 ⟨h2, hk3⟩
   refine cSR fun K6 hK6=>sMv F rfl rfl rfl (qLen Tryz.underlying51 rfl rfl rfl (qBin rfl rfl rfl rfl bEql (qMv rfl rfl rfl ?_)));clear F a;intro a F
   refine F.split 44 rfl ?_ ?_ <;> (clear F; intro h44 F)
   ·
    replace h44 := beqT h44
    refine sMv F rfl rfl rfl (qBin rfl rfl rfl rfl bEql (qMv rfl rfl rfl ?_));clear F a;intro a F
    refine F.split 47 rfl ?_ ?_ <;> (clear F; intro h47 F)
    ·
     replace h47 := beqT h47
     refine sLr Tryz.underlying29 rfl ?si F rfl rfl rfl (H.whole 1 rfl) ?_
     case si => exact info_size Tryz.sizeOf29
     clear F a; intro a F
     refine sCall Tryz.call15 F rfl rfl rfl (right_any' _ p _ (hP0.own H) (hN.own H)) ?_
     rintro e w ⟨rfl, hb⟩
     replace H := H.grow hb; clear hb
     refine ⟨_, rfl, ?_⟩
     clear F a; intro a F
     refine sBin F rfl rfl rfl rfl bEql (qPk rfl rfl rfl rfl (qMv rfl rfl rfl ?_));clear F a;intro a F
     refine F.split 52 rfl ?_ ?_ <;> (clear F; intro h52 F)
     ·
      replace h52 := beqT h52
      refine sSk F rfl rfl (qSk rfl rfl (qSk rfl rfl (qSk rfl rfl (qSk rfl rfl (qSk rfl rfl (qSk rfl rfl (qPk rfl rfl rfl rfl (qPk rfl rfl rfl rfl (qMv rfl rfl rfl ?_)))))))));clear F a;intro a F
      refine sCall Tryz.call14 F rfl rfl rfl (awake15_any _ (hN.own H)) ?_
      rintro e w ⟨rfl, hb⟩
      replace H := H.grow hb; clear hb
      refine ⟨_, rfl, ?_⟩
      clear F a; intro a F
      refine sPk F rfl rfl rfl rfl (qAs rfl rfl rfl (qNK hK6 ?_));clear hK6;clear F a;intro a F
      refine wp_ret ?_
      simp only [Exit.then]
      refine bRet Tryz.results6 F rfl ?_
      exact ⟨rfl, H.below⟩
     replace h52 := beqF h52
     exact absurd (hb5 h47) h52
    replace h47 := beqF h47
    refine sSk F rfl rfl (qSk rfl rfl (qSk rfl rfl (qPk rfl rfl rfl rfl (qMv rfl rfl rfl (qMv rfl rfl rfl (qBin rfl rfl rfl rfl bEql (qMv rfl rfl rfl ?_)))))));clear F a;intro a F
    refine F.split 55 rfl ?_ ?_ <;> (clear F; intro h55 F)
    ·
     replace h55 := beqT h55
     refine sLr Tryz.underlying29 rfl ?si F rfl rfl rfl (H.whole 1 rfl) ?_
     case si => exact info_size Tryz.sizeOf29
     clear F a; intro a F
     refine sCall Tryz.call15 F rfl rfl rfl (right_any' _ p _ (hP0.own H) (hN.own H)) ?_
     rintro e w ⟨rfl, hb⟩
     replace H := H.grow hb; clear hb
     refine ⟨_, rfl, ?_⟩
     clear F a; intro a F
     refine sBin F rfl rfl rfl rfl bNeq (qPk rfl rfl rfl rfl (qPk rfl rfl rfl rfl (qPk rfl rfl rfl rfl (qMv rfl rfl rfl ?_))));clear F a;intro a F
     refine F.split 62 rfl ?_ ?_ <;> (clear F; intro h62 F)
     ·
      replace h62 := bneT h62
      refine sCall Tryz.call14 F rfl rfl rfl (awake15_any _ (hN.own H)) ?_
      rintro e w ⟨rfl, hb⟩
      replace H := H.grow hb; clear hb
      refine ⟨_, rfl, ?_⟩
      clear F a; intro a F
      refine sPk F rfl rfl rfl rfl (qAs rfl rfl rfl (qNK hK6 ?_));clear hK6;clear F a;intro a F
      refine wp_ret ?_
      simp only [Exit.then]
      refine bRet Tryz.results6 F rfl ?_
      exact ⟨rfl, H.below⟩
     replace h62 := bneF h62
     exact absurd h62 (hb2 h55)
    replace h55 := beqF h55
    exact absurd (hb.resolve_left h47) h55
   replace h44 := beqF h44
   exact absurd (by rw [hbad.1]; rfl) h44
  replace h40 := bneF h40
  have hE0 : statesE p (1 + u % 3) 200 = 0 := by omega
  obtain ⟨fd, hfd, hI, _, hv, _⟩ := states_some hE0
  have hfo : fo (statesR p (1 + u % 3) 200) = fd := by rw [hfd]; rfl
  rw [hfo] at H F
  have hmany := hI.many
  have h200 : (200 : Int).toNat = 200 := rfl
  rw [h200] at hmany
  have hhead := hI.head
  have hpos : 0 < fd.list.length := (List.getElem?_eq_some_iff.1 hhead).1
  have htidy : ∀ y ∈ fd.list, Tidy y := fun y hy => (hI.fine y hy).t
  obtain ⟨bS, oS, rfl, _⟩ := H.rowsAt 0 rfl (bs_rows _) (by decide) 0 (bs 142 (startP p)) (by rw [List.getElem?_map, hhead]; rfl)
  have hV4 := (valid hv).thr4
  have hST : startS p = startP p := if_pos hv
  refine wp_skip (hK4 _ _ ?_);clear hK4
  refine cSeq (fun K7 hK7 => ?_)
  refine cSR fun K8 hK8=>sMv F rfl rfl rfl (qLen Tryz.underlying51 rfl rfl rfl (qBin rfl rfl rfl rfl bEql (qNK hK8 ?_)));clear hK8;clear F a;intro a F
  refine cIf F rfl (fun h67 => ?_) (fun h67 => ?_)
  ·
   replace h67 := beqT h67
   omega
  replace h67 := beqF h67
  refine wp_skip (hK7 _ _ (cSR fun K9 hK9=>?_));clear hK7
  refine sLr Tryz.underlying29 rfl ?si F rfl rfl rfl (H.whole 1 rfl) ?_
  case si => exact info_size Tryz.sizeOf29
  clear F a; intro a F
  refine sCall Tryz.call26 F rfl rfl rfl ((by have := start_any _ p _ (hP0.own H) (hN.own H); rw [hST] at this; exact this)) ?_
  rintro e w ⟨rfl, hb⟩
  replace H := H.grow hb; clear hb
  refine ⟨_, rfl, ?_⟩
  clear F a; intro a F
  refine sMv F rfl rfl rfl (qExt rfl rfl rfl rfl (qExt rfl rfl rfl rfl ?_));clear F a;intro a F
  refine sAlB H zB70 F rfl rfl ?_
  clear F a H; intro b8 a w F H
  refine sSrB H 0 Tryz.sizeOf70 F rfl rfl rfl rfl (by omega) ?_
  clear H; intro w H
  rw [lay_all] at H
  refine sAs F rfl rfl rfl (qNK hK9 (qSR fun K10 hK10=>?_));clear hK9;clear F a;intro a F
  refine sMkV 142 H F rfl rfl ?_
  clear F a H; intro b73 a w F H
  refine sAs F rfl rfl rfl (qNK hK10 ?_);clear hK10;clear F a;intro a F
  refine cSeq (fun K11 hK11 => ?_)
  refine cSR fun K12 hK12=>sMv F rfl rfl rfl (qLen Tryz.underlying51 rfl rfl rfl (qMv rfl rfl rfl (qNK hK12 ?_)));clear hK12;clear F a;intro a F
  refine wp_block ?_
  refine cLoopR [2, 5, 6, 8, 10, 74, 75] (fun m ups w => ∃ j : Nat, m = fd.list.length - j ∧ ups = [(76, .int .i64 ((j : Nat) : Int))] ∧ j ≤ fd.list.length ∧ Own w0 none w [.mpV b73 142 (idxV (fd.list.take j)), .blk b8 (bs 142 (startP p)) 70, .rws 70 142 (.slice (some ⟨bS, oS, none⟩) fd.list.length k1) (fd.list.map (bs 142)), .blk b2 ([.string p.name, .slice LA p.locs.length LC, .slice IA p.init.length IC, .slice TA p.threads.length TC, Go.Proofs.YtbgnapmaimkpkaaGreatDoor.b8 p.ask, c1, c2, c3, c4, c5] : List Value) 29]) F (fd.list.length) [(76, .int .i64 ((0 : Nat) : Int))] (by repeat (first | exact SubR.nil | (apply SubR.cons; · rfl))) ?_ ?_ ?_
  · exact ⟨0, rfl, rfl, by omega, H.sel [0, 1, 2, 3] rfl rfl⟩
  · repeat (first | exact trivial | refine Le.cons rfl ?_)
  clear F
  clear H
  intro m ups a w hI F
  obtain ⟨j, rfl, rfl, hj, H⟩ := hI
  refine cSR fun K13 hK13=>sBin F rfl rfl rfl rfl bLss (qNK hK13 ?_);clear hK13;clear F a;intro a F
  refine cSeq (fun K14 hK14 => ?_)
  refine cIf F rfl (fun h77 => ?_) (fun h77 => ?_)
  ·
   replace h77 := of_decide_eq_true h77
   have hjl : j < fd.list.length := by omega
   obtain ⟨s, hs⟩ : ∃ s, fd.list[j]? = some s := ⟨_, List.getElem?_eq_getElem hjl⟩
   have hlk := map_none htidy hI.nodup hs
   refine wp_skip (hK14 _ _ ?_);clear hK14
   refine cSeq (fun K15 hK15 => ?_)
   refine wp_block ?_
   refine cSR fun K16 hK16=>sMv F rfl rfl rfl ?_;clear F a;intro a F
   refine sIx Tryz.underlying51 Tryz.sizeOf70 F rfl rfl rfl rfl ?_ ?_
   focus exact hjl
   clear F a; intro a F
   refine sLrB Tryz.underlying70 rfl Tryz.sizeOf70 F rfl rfl rfl (by obtain ⟨b', o', g1, g2⟩ := H.rowsAt 2 rfl (bs_rows _) (by decide) j (bs 142 s) (by rw [List.getElem?_map, hs]; rfl); cases g1; exact g2) ?_;clear F a;intro a F
   refine sAlB H zB70 F rfl rfl ?_
   clear F a H; intro b12 a w F H
   refine sAs F rfl rfl rfl ?_;clear F a;intro a F
   refine sSrB H 0 Tryz.sizeOf70 F rfl rfl rfl rfl (by omega) ?_
   clear H; intro w H
   rw [lay_all] at H
   refine nK hK16 ?_;clear hK16
   refine cSeq (fun K17 hK17 => ?_)
   refine cSR fun K18 hK18=>sMv F rfl rfl rfl (qLrB Tryz.underlying70 rfl Tryz.sizeOf70 rfl rfl rfl (H.whole 0 rfl) (qLkVn H 1 Tryz.underlying81 kyS (fun w => rfl) (hlk) rfl rfl rfl rfl rfl (qMv rfl rfl rfl (qExt rfl rfl rfl rfl (qExt rfl rfl rfl rfl (qAs rfl rfl rfl (qAs rfl rfl rfl (qNK hK18 (qSR fun K19 hK19=>qMv rfl rfl rfl (qNK hK19 ?_))))))))));clear hK18 hK19;clear F a;intro a F
   refine cIf F rfl (fun h87 => ?_) (fun h87 => ?_)
   ·
    cases h87
   refine wp_skip (hK17 _ _ (cReg (sMv F rfl rfl rfl (qLrB Tryz.underlying70 rfl Tryz.sizeOf70 rfl rfl rfl (H.whole 0 rfl) (qMv rfl rfl rfl ?_)))));clear hK17;clear F a;intro a F
   refine sUpdV H 1 Tryz.underlying81 kyS F rfl rfl rfl rfl rfl (hlk) ?_
   clear H; intro w H
   refine nK hK15 (cReg ?_);clear hK15
   refine sBin F rfl rfl rfl rfl (bAddN (j := 1) ?_) ?_
   focus omega
   clear F a; intro a F
   refine sMv F rfl rfl rfl ?_;clear F a;intro a F
   refine sNil ?_
   have e2 : idxV (fd.list.take j) ++ [(s, .int .i64 (j : Int))] = idxV (fd.list.take (j + 1)) := by
    rw [List.take_add_one, hs]
    show _ = idxV (fd.list.take j ++ [s])
    rw [idxV_succ, List.length_take, Nat.min_eq_left hj]
   rw [e2] at H
   exact ⟨_, by omega, _, ⟨j + 1, rfl, rfl, by omega, H.sel [1, 2, 3, 4] rfl rfl⟩, F.to (by repeat (first | exact trivial | refine Le.cons rfl ?_))⟩
  replace h77 := of_decide_eq_false h77
  obtain rfl : j = fd.list.length := by omega
  rw [List.take_length] at H
  refine wp_exit ?_
  refine hK11 _ _ (cSR fun K20 hK20=>sMv F rfl rfl rfl (qLen Tryz.underlying51 rfl rfl rfl ?_));clear hK11;clear F a;intro a F
  refine sMk (z := .int .i64 0) (bytes := 8) H Tryz.underlying83 (by kernel_rfl) rfl F rfl rfl rfl rfl (by omega) (by omega) ?_
  clear F a H; intro b94 a w F H
  refine sAs F rfl rfl rfl (qNK hK20 (qSR fun K21 hK21=>qAs rfl rfl rfl ?_));clear hK20;clear F a;intro a F
  replace H := H.nilRws 47 38
  refine nK hK21 ?_;clear hK21
  refine cSeq (fun K22 hK22 => ?_)
  refine cSR fun K23 hK23=>sMv F rfl rfl rfl (qLen Tryz.underlying51 rfl rfl rfl (qMv rfl rfl rfl (qNK hK23 ?_)));clear hK23;clear F a;intro a F
  refine wp_block ?_
  refine cLoopR [2, 5, 6, 8, 10, 15, 95, 96] (fun m ups w => ∃ (i : Nat) (fr : List Nat) (A9 : Option Addr) (c9 : Nat), m = fd.list.length - i ∧ ups = [(16, .slice A9 (endsL p (1 + u % 3) (fd.list.take i)).length c9), (97, .int .i64 ((i : Nat) : Int))] ∧ i ≤ fd.list.length ∧ FromI p (1 + u % 3) fd.list i 0 fr ∧ Own w0 none w [.rws 47 38 (.slice A9 (endsL p (1 + u % 3) (fd.list.take i)).length c9) ((endsL p (1 + u % 3) (fd.list.take i)).map (bs 38)), .blk b94 (frC fr) 3, .mpV b73 142 (idxV fd.list), .blk b8 (bs 142 (startP p)) 70, .rws 70 142 (.slice (some ⟨bS, oS, none⟩) fd.list.length k1) (fd.list.map (bs 142)), .blk b2 ([.string p.name, .slice LA p.locs.length LC, .slice IA p.init.length IC, .slice TA p.threads.length TC, Go.Proofs.YtbgnapmaimkpkaaGreatDoor.b8 p.ask, c1, c2, c3, c4, c5] : List Value) 29]) F (fd.list.length) [(16, .slice none 0 0), (97, .int .i64 ((0 : Nat) : Int))] (by repeat (first | exact SubR.nil | (apply SubR.cons; · rfl))) ?_ ?_ ?_
  · rw [frC_zero] at H
    exact ⟨0, List.replicate fd.list.length 0, none, 0, rfl, rfl, by omega, from_start hpos, H.sel [0, 1, 2, 3, 4, 5] rfl rfl⟩
  · repeat (first | exact trivial | refine Le.cons rfl ?_)
  clear F
  clear H
  intro m ups a w hI F
  obtain ⟨i, fr, A9, c9, rfl, rfl, hi, hfrom, H⟩ := hI
  refine cSR fun K24 hK24=>sBin F rfl rfl rfl rfl bLss (qNK hK24 ?_);clear hK24;clear F a;intro a F
  refine cSeq (fun K25 hK25 => ?_)
  refine cIf F rfl (fun h98 => ?_) (fun h98 => ?_)
  ·
   replace h98 := of_decide_eq_true h98
   have hil : i < fd.list.length := by omega
   obtain ⟨s, hs⟩ : ∃ s, fd.list[i]? = some s := ⟨_, List.getElem?_eq_getElem hil⟩
   have hF := hI.fine s (List.mem_of_getElem? hs)
   have hel : (endsL p (1 + u % 3) (fd.list.take i)).length ≤ fd.list.length := by
    unfold endsL
    rw [List.length_map]
    exact Nat.le_trans (List.length_filter_le _ _) (by rw [List.length_take]; omega)
   have hes := endsL_succ (p := p) (m := (1 + u % 3)) hs
   refine wp_skip (hK25 _ _ ?_);clear hK25
   refine cSeq (fun K26 hK26 => ?_)
   refine wp_block ?_
   refine cSR fun K27 hK27=>sMv F rfl rfl rfl ?_;clear F a;intro a F
   refine sIx Tryz.underlying51 Tryz.sizeOf70 F rfl rfl rfl rfl ?_ ?_
   focus exact hil
   clear F a; intro a F
   refine sLrB Tryz.underlying70 rfl Tryz.sizeOf70 F rfl rfl rfl (by obtain ⟨b', o', g1, g2⟩ := H.rowsAt 4 rfl (bs_rows _) (by decide) i (bs 142 s) (by rw [List.getElem?_map, hs]; rfl); cases g1; exact g2) ?_;clear F a;intro a F
   refine sAlB H zB70 F rfl rfl ?_
   clear F a H; intro b18 a w F H
   refine sAs F rfl rfl rfl ?_;clear F a;intro a F
   refine sSrB H 0 Tryz.sizeOf70 F rfl rfl rfl rfl (by omega) ?_
   clear H; intro w H
   rw [lay_all] at H
   refine nK hK27 (cSR fun K28 hK28=>?_);clear hK27
   refine sLr Tryz.underlying29 rfl ?si F rfl rfl rfl (H.whole 6 rfl) ?_
   case si => exact info_size Tryz.sizeOf29
   clear F a; intro a F
   refine sMv F rfl rfl rfl (qLrB Tryz.underlying70 rfl Tryz.sizeOf70 rfl rfl rfl (H.whole 0 rfl) ?_);clear F a;intro a F
   refine sCall Tryz.call27 F rfl rfl rfl ((by have := movesR_any _ p _ (hP0.own H) (hN.own H) (1 + u % 3) s; rw [movesR_eq hF.r] at this; exact this)) ?_
   rintro e w ⟨AM, cM, rfl, H2⟩
   replace H := H.join H2; clear H2
   refine ⟨_, rfl, ?_⟩
   clear F a; intro a F
   refine sAs F rfl rfl rfl (qNK hK28 ?_);clear hK28;clear F a;intro a F
   refine cSeq (fun K29 hK29 => ?_)
   refine cSR fun K30 hK30=>sMv F rfl rfl rfl (qLen Tryz.underlying58 rfl rfl rfl (qMv rfl rfl rfl (qNK hK30 ?_)));clear hK30;clear F a;intro a F
   refine wp_block ?_
   refine cLoopR [2, 5, 6, 8, 10, 15, 16, 17, 18, 19, 95, 96, 97, 106, 107] (fun m ups w => ∃ (t : Nat) (fr : List Nat), m = (movesM p (1 + u % 3) s).length - t ∧ ups = [(108, .int .i64 ((t : Nat) : Int))] ∧ t ≤ (movesM p (1 + u % 3) s).length ∧ FromI p (1 + u % 3) fd.list i t fr ∧ Own w0 none w [.rws 86 3 (.slice AM (movesM p (1 + u % 3) s).length cM) ((movesM p (1 + u % 3) s).map Pss.cells), .blk b18 (bs 142 s) 70, .rws 47 38 (.slice A9 (endsL p (1 + u % 3) (fd.list.take i)).length c9) ((endsL p (1 + u % 3) (fd.list.take i)).map (bs 38)), .blk b94 (frC fr) 3, .mpV b73 142 (idxV fd.list), .blk b8 (bs 142 (startP p)) 70, .rws 70 142 (.slice (some ⟨bS, oS, none⟩) fd.list.length k1) (fd.list.map (bs 142)), .blk b2 ([.string p.name, .slice LA p.locs.length LC, .slice IA p.init.length IC, .slice TA p.threads.length TC, Go.Proofs.YtbgnapmaimkpkaaGreatDoor.b8 p.ask, c1, c2, c3, c4, c5] : List Value) 29]) F ((movesM p (1 + u % 3) s).length) [(108, .int .i64 ((0 : Nat) : Int))] (by repeat (first | exact SubR.nil | (apply SubR.cons; · rfl))) ?_ ?_ ?_
   · exact ⟨0, fr, rfl, rfl, by omega, hfrom, H.sel [0, 1, 2, 3, 4, 5, 6, 7] rfl rfl⟩
   · repeat (first | exact trivial | refine Le.cons rfl ?_)
   clear F
   clear H
   intro m ups a w hI F
   obtain ⟨t, fr3, rfl, rfl, ht, hfr3, H⟩ := hI
   have hml : (movesM p (1 + u % 3) s).length ≤ 64 := Nat.le_trans (movesN_len (fun t ht => (hF.r.many ht).1) _ hV4) (by omega)
   refine cSR fun K31 hK31=>sBin F rfl rfl rfl rfl bLss (qNK hK31 ?_);clear hK31;clear F a;intro a F
   refine cSeq (fun K32 hK32 => ?_)
   refine cIf F rfl (fun h109 => ?_) (fun h109 => ?_)
   ·
    replace h109 := of_decide_eq_true h109
    have htl : t < (movesM p (1 + u % 3) s).length := by omega
    obtain ⟨x, hx⟩ : ∃ x, (movesM p (1 + u % 3) s)[t]? = some x := ⟨_, List.getElem?_eq_getElem htl⟩
    have hxm : x ∈ movesM p (1 + u % 3) s := List.mem_of_getElem? hx
    have hxr : x ∈ movesR p (1 + u % 3) s := by rw [movesR_eq hF.r]; exact hxm
    have eS1 : moveSM p (1 + u % 3) s x = stepM p (1 + u % 3) s x := if_pos hxr
    have eE1 : moveEM p (1 + u % 3) s x = 0 := if_pos hxr
    obtain ⟨k, hk, _⟩ := hI.next i s x hil hs hxm
    have hkl : k < fd.list.length := (List.getElem?_eq_some_iff.1 hk).1
    have hlk2 := map_some htidy hI.nodup hk
    obtain ⟨y, hy⟩ : ∃ y, fr3[k]? = some y := ⟨_, List.getElem?_eq_getElem (by rw [hfr3.len]; exact hkl)⟩
    have hys := hfr3.small k y hy
    have hys2 : y + 1 ≤ 9223372036854775807 := by
     have h1 : i * 64 ≤ 200 * 64 := Nat.mul_le_mul_right _ (by omega)
     omega
    have hfl := hfr3.len
    obtain ⟨bM, oM, rfl, _⟩ := H.rowsAt 0 rfl (rowX _) (by decide) _ _ (by rw [List.getElem?_map, hx]; rfl)
    refine wp_skip (hK32 _ _ ?_);clear hK32
    refine cSeq (fun K33 hK33 => ?_)
    refine wp_block ?_
    refine cSR fun K34 hK34=>?_
    refine sIx Tryz.underlying58 Tryz.sizeOf86 F rfl rfl rfl rfl ?_ ?_
    focus (first | omega | decide | (simp; omega))
    clear F a; intro a F
    refine sLr Tryz.underlying86 rfl ?si F rfl rfl rfl (by obtain ⟨b', o', g1, g2⟩ := H.rowsAt 0 rfl (rowX _) (by decide) _ _ (by rw [List.getElem?_map, hx]; rfl); cases g1; exact g2) ?_
    case si => exact info_size Tryz.sizeOf86
    clear F a; intro a F
    refine sAl H Tryz.zeroValue86 F rfl rfl ?_
    clear F a H; intro b21 a w F H
    refine sSr H 0 ?si F rfl rfl rfl ?s1 rfl rfl ?_
    case si => exact info_size Tryz.sizeOf86
    case s1 => first | rfl | (repeat (first | exact one_nil | (apply one_cons; · first | rfl | assumption | exact one_bif rfl rfl)))
    clear H; intro w H
    refine nK hK34 (cSR fun K35 hK35=>?_);clear hK34
    refine sLr Tryz.underlying29 rfl ?si F rfl rfl rfl (H.whole 8 rfl) ?_
    case si => exact info_size Tryz.sizeOf29
    clear F a; intro a F
    refine sMv F rfl rfl rfl (qLrB Tryz.underlying70 rfl Tryz.sizeOf70 rfl rfl rfl (H.whole 2 rfl) ?_);clear F a;intro a F
    refine sLr Tryz.underlying86 rfl ?si F rfl rfl rfl (H.whole 0 rfl) ?_
    case si => exact info_size Tryz.sizeOf86
    clear F a; intro a F
    refine sCall Tryz.call28 F rfl rfl rfl ((by have := moveM_any _ p _ (hP0.own H) (hN.own H) (1 + u % 3) s x; rw [eS1, eE1] at this; exact this)) ?_
    rintro e w ⟨rfl, hb⟩
    replace H := H.grow hb; clear hb
    refine ⟨_, rfl, ?_⟩
    clear F a; intro a F
    refine sMv F rfl rfl rfl (qExt rfl rfl rfl rfl (qExt rfl rfl rfl rfl ?_));clear F a;intro a F
    refine sAlB H zB70 F rfl rfl ?_
    clear F a H; intro b22 a w F H
    refine sSrB H 0 Tryz.sizeOf70 F rfl rfl rfl rfl (by omega) ?_
    clear H; intro w H
    rw [lay_all] at H
    refine sAs F rfl rfl rfl (qNK hK35 (qSR fun K36 hK36=>qMv rfl rfl rfl (qLrB Tryz.underlying70 rfl Tryz.sizeOf70 rfl rfl rfl (H.whole 0 rfl) (qLkVs H 6 Tryz.underlying81 kyS (fun w => rfl) (hlk2) rfl rfl rfl rfl rfl (qMv rfl rfl rfl (qExt rfl rfl rfl rfl (qExt rfl rfl rfl rfl (qAs rfl rfl rfl (qAs rfl rfl rfl (qNK hK36 ?_))))))))));clear hK35 hK36;clear F a;intro a F
    refine cSeq (fun K37 hK37 => ?_)
    refine cSR fun K38 hK38=>sMv F rfl rfl rfl (qBin rfl rfl rfl rfl bNeq (qMv rfl rfl rfl ?_));clear F a;intro a F
    refine F.split 128 rfl ?_ ?_ <;> (clear F; intro h128 F)
    ·
     replace h128 := bneT h128
     exact absurd rfl h128
    replace h128 := bneF h128
    refine sMv F rfl rfl rfl (qNot rfl rfl rfl (qPk rfl rfl rfl rfl (qNK hK38 ?_)));clear hK38;clear F a;intro a F
    refine cIf F rfl (fun h131 => ?_) (fun h131 => ?_)
    ·
     replace h131 := notT h131
     cases h131
    replace h131 := notF h131
    refine wp_skip (hK37 _ _ (cSR fun K39 hK39=>sMv F rfl rfl rfl (qMv rfl rfl rfl (qBin rfl rfl rfl rfl bLss (qNK hK39 ?_)))));clear hK37 hK39;clear F a;intro a F
    refine cIf F rfl (fun h134 => ?_) (fun h134 => ?_)
    ·
     replace h134 := of_decide_eq_true h134
     refine cReg (sMv F rfl rfl rfl (qMv rfl rfl rfl ?_));clear F a;intro a F
     refine sIx Tryz.underlying83 Tryz.sizeOf3 F rfl rfl rfl rfl ?_ ?_
     focus omega
     clear F a; intro a F
     refine sLd Tryz.isAgg3 F rfl rfl rfl (H.cell 5 rfl (by simpa using frC_at hy)) ?_;clear F a;intro a F
     refine sBin F rfl rfl rfl rfl (bAddI ?_) ?_
     focus omega
     clear F a; intro a F
     refine sIx Tryz.underlying83 Tryz.sizeOf3 F rfl rfl rfl rfl ?_ ?_
     focus omega
     clear F a; intro a F
     refine sSt H 5 Tryz.sizeOf3 F rfl rfl rfl rfl rfl (by simpa using frC_at hy) ?_
     clear H; intro w H
     refine nK hK33 (cReg ?_);clear hK33
     refine sBin F rfl rfl rfl rfl (bAddN (j := 1) ?_) ?_
     focus omega
     clear F a; intro a F
     refine sMv F rfl rfl rfl ?_;clear F a;intro a F
     refine sNil ?_
     first
     | (have hi0 : ((i : Nat) : Int) < ((k : Nat) : Int) := h134
        have hik : i < k := Int.ofNat_lt.1 hi0
        have e2 : (frC fr3).set (0 + k * 1) (.int .i64 ((y : Int) + 1)) = frC (fr3.set k (y + 1)) := (by
         rw [show 0 + k * 1 = k by omega]
         exact frC_set fr3 k (y + 1))
        refine ⟨_, by omega, _, ⟨t + 1, fr3.set k (y + 1), rfl, rfl, by omega, hfr3.up hI.nodup hs hx hk hik hy, ?_⟩, F.to (by repeat (first | exact trivial | refine Le.cons rfl ?_))⟩
        rw [← e2]
        exact H.sel [2, 3, 4, 5, 6, 7, 8, 9] rfl rfl)
     | (have hi0 : ¬ ((i : Nat) : Int) < ((k : Nat) : Int) := h134
        have hik : k ≤ i := Nat.le_of_not_lt fun h => hi0 (Int.ofNat_lt.2 h)
        exact ⟨_, by omega, _, ⟨t + 1, fr3, rfl, rfl, by omega, hfr3.keep hI.nodup hs hx hk hik, H.sel [2, 3, 4, 5, 6, 7, 8, 9] rfl rfl⟩, F.to (by repeat (first | exact trivial | refine Le.cons rfl ?_))⟩)
    replace h134 := of_decide_eq_false h134
    refine wp_skip (hK33 _ _ (cReg ?_));clear hK33
    refine sBin F rfl rfl rfl rfl (bAddN (j := 1) ?_) ?_
    focus omega
    clear F a; intro a F
    refine sMv F rfl rfl rfl ?_;clear F a;intro a F
    refine sNil ?_
    first
    | (have hi0 : ((i : Nat) : Int) < ((k : Nat) : Int) := h134
       have hik : i < k := Int.ofNat_lt.1 hi0
       have e2 : (frC fr3).set (0 + k * 1) (.int .i64 ((y : Int) + 1)) = frC (fr3.set k (y + 1)) := (by
        rw [show 0 + k * 1 = k by omega]
        exact frC_set fr3 k (y + 1))
       refine ⟨_, by omega, _, ⟨t + 1, fr3.set k (y + 1), rfl, rfl, by omega, hfr3.up hI.nodup hs hx hk hik hy, ?_⟩, F.to (by repeat (first | exact trivial | refine Le.cons rfl ?_))⟩
       rw [← e2]
       exact H.sel [2, 3, 4, 5, 6, 7, 8, 9] rfl rfl)
    | (have hi0 : ¬ ((i : Nat) : Int) < ((k : Nat) : Int) := h134
       have hik : k ≤ i := Nat.le_of_not_lt fun h => hi0 (Int.ofNat_lt.2 h)
       exact ⟨_, by omega, _, ⟨t + 1, fr3, rfl, rfl, by omega, hfr3.keep hI.nodup hs hx hk hik, H.sel [2, 3, 4, 5, 6, 7, 8, 9] rfl rfl⟩, F.to (by repeat (first | exact trivial | refine Le.cons rfl ?_))⟩)
   replace h109 := of_decide_eq_false h109
   obtain rfl : t = (movesM p (1 + u % 3) s).length := by omega
   have hrow := hfr3.row hs hml
   refine wp_exit ?_
   refine hK29 _ _ (cSR fun K40 hK40=>sMv F rfl rfl rfl (qLen Tryz.underlying58 rfl rfl rfl (qBin rfl rfl rfl rfl bEql (qNK hK40 ?_))));clear hK29 hK40;clear F a;intro a F
   refine cIf F rfl (fun h144 => ?_) (fun h144 => ?_)
   ·
    replace h144 := beqT h144
    refine cReg (sMv F rfl rfl rfl (qLrB Tryz.underlying70 rfl Tryz.sizeOf70 rfl rfl rfl (H.whole 1 rfl) ?_));clear F a;intro a F
    refine sCall Tryz.call29 F rfl rfl rfl (final_any s _) ?_
    rintro e w ⟨rfl, hb⟩
    replace H := H.grow hb; clear hb
    refine ⟨_, rfl, ?_⟩
    clear F a; intro a F
    refine sBsA H Tryz.underlying30 Tryz.sizeOf47 Tryz.zeroValue47 rfl F rfl rfl rfl rfl rfl ?_
    clear F a H; intro b148 a w F H
    refine sApp1 (bytes := 38) H 3 Tryz.underlying30 Tryz.typeInfo47 rfl rfl rfl rfl rfl rfl F rfl rfl rfl rfl rfl (H.whole 0 rfl) rfl ?s1 ?s2 ?_
    case s1 => first | rfl | (repeat (first | exact one_nil | (apply one_cons; · first | rfl | assumption | exact one_bif rfl rfl)))
    case s2 => (rw [List.length_map]; omega)
    clear F a H; intro A149 c149 a w F H
    refine sAs F rfl rfl rfl (qNK hK26 (qReg ?_));clear hK26;clear F a;intro a F
    refine sBin F rfl rfl rfl rfl (bAddN (j := 1) ?_) ?_
    focus omega
    clear F a; intro a F
    refine sMv F rfl rfl rfl ?_;clear F a;intro a F
    refine sNil ?_
    first
    | (have he : movesM p (1 + u % 3) s = [] := List.eq_nil_of_length_eq_zero (by omega)
       rw [if_pos he] at hes
       have e2 : (endsL p (1 + u % 3) (fd.list.take i)).map (bs 38) ++ [bs 38 (finalP s)] = (endsL p (1 + u % 3) (fd.list.take (i + 1))).map (bs 38) := by rw [hes, List.map_append]; rfl
       have e3 : ((endsL p (1 + u % 3) (fd.list.take i)).map (bs 38) ++ [bs 38 (finalP s)]).length = (endsL p (1 + u % 3) (fd.list.take (i + 1))).length := by rw [e2, List.length_map]
       rw [e3] at F H
       rw [e2] at H
       exact ⟨_, by omega, _, ⟨i + 1, fr3, A149, c149, rfl, rfl, by omega, hrow, H.sel [3, 4, 5, 6, 7, 8] rfl rfl⟩, F.to (by repeat (first | exact trivial | refine Le.cons rfl ?_))⟩)
    | (have he : movesM p (1 + u % 3) s ≠ [] := fun h0 => h144 (by rw [h0]; rfl)
       rw [if_neg he] at hes
       rw [← hes] at F H
       exact ⟨_, by omega, _, ⟨i + 1, fr3, A9, c9, rfl, rfl, by omega, hrow, H.sel [3, 4, 5, 6, 7, 8] rfl rfl⟩, F.to (by repeat (first | exact trivial | refine Le.cons rfl ?_))⟩)
   replace h144 := beqF h144
   refine wp_skip (hK26 _ _ (cReg ?_));clear hK26
   refine sBin F rfl rfl rfl rfl (bAddN (j := 1) ?_) ?_
   focus omega
   clear F a; intro a F
   refine sMv F rfl rfl rfl ?_;clear F a;intro a F
   refine sNil ?_
   first
   | (have he : movesM p (1 + u % 3) s = [] := List.eq_nil_of_length_eq_zero (by omega)
      rw [if_pos he] at hes
      have e2 : (endsL p (1 + u % 3) (fd.list.take i)).map (bs 38) ++ [bs 38 (finalP s)] = (endsL p (1 + u % 3) (fd.list.take (i + 1))).map (bs 38) := by rw [hes, List.map_append]; rfl
      have e3 : ((endsL p (1 + u % 3) (fd.list.take i)).map (bs 38) ++ [bs 38 (finalP s)]).length = (endsL p (1 + u % 3) (fd.list.take (i + 1))).length := by rw [e2, List.length_map]
      rw [e3] at F H
      rw [e2] at H
      exact ⟨_, by omega, _, ⟨i + 1, fr3, A149, c149, rfl, rfl, by omega, hrow, H.sel [2, 3, 4, 5, 6, 7] rfl rfl⟩, F.to (by repeat (first | exact trivial | refine Le.cons rfl ?_))⟩)
   | (have he : movesM p (1 + u % 3) s ≠ [] := fun h0 => h144 (by rw [h0]; rfl)
      rw [if_neg he] at hes
      rw [← hes] at F H
      exact ⟨_, by omega, _, ⟨i + 1, fr3, A9, c9, rfl, rfl, by omega, hrow, H.sel [2, 3, 4, 5, 6, 7] rfl rfl⟩, F.to (by repeat (first | exact trivial | refine Le.cons rfl ?_))⟩)
  replace h98 := of_decide_eq_false h98
  obtain rfl : i = fd.list.length := by omega
  rw [List.take_length] at H F
  have hfl := hfrom.len
  refine wp_exit ?_
  refine hK22 _ _ ?_;clear hK22
  refine cSeq (fun K41 hK41 => ?_)
  refine cSR fun K42 hK42=>sMv F rfl rfl rfl (qLen Tryz.underlying83 rfl rfl rfl (qMv rfl rfl rfl (qNK hK42 ?_)));clear hK42;clear F a;intro a F
  refine wp_block ?_
  refine cLoopR [2, 5, 6, 8, 16, 151, 152] (fun m ups w => ∃ k : Nat, m = fd.list.length - k ∧ ups = [(153, .int .i64 ((k : Nat) : Int))] ∧ k ≤ fd.list.length ∧ Own w0 none w [.rws 47 38 (.slice A9 (endsL p (1 + u % 3) fd.list).length c9) ((endsL p (1 + u % 3) fd.list).map (bs 38)), .blk b94 (frC fr) 3, .blk b8 (bs 142 (startP p)) 70, .rws 70 142 (.slice (some ⟨bS, oS, none⟩) fd.list.length k1) (fd.list.map (bs 142)), .blk b2 ([.string p.name, .slice LA p.locs.length LC, .slice IA p.init.length IC, .slice TA p.threads.length TC, Go.Proofs.YtbgnapmaimkpkaaGreatDoor.b8 p.ask, c1, c2, c3, c4, c5] : List Value) 29]) F (fd.list.length) [(153, .int .i64 ((0 : Nat) : Int))] (by repeat (first | exact SubR.nil | (apply SubR.cons; · rfl))) ?_ ?_ ?_
  · exact ⟨0, rfl, rfl, by omega, H.sel [0, 1, 3, 4, 5] rfl rfl⟩
  · repeat (first | exact trivial | refine Le.cons rfl ?_)
  clear F
  clear H
  intro m ups a w hI F
  obtain ⟨k, rfl, rfl, hk4, H⟩ := hI
  refine cSR fun K43 hK43=>sBin F rfl rfl rfl rfl bLss (qNK hK43 ?_);clear hK43;clear F a;intro a F
  refine cSeq (fun K44 hK44 => ?_)
  refine cIf F rfl (fun h154 => ?_) (fun h154 => ?_)
  ·
   replace h154 := of_decide_eq_true h154
   have hkl : k < fd.list.length := by omega
   obtain ⟨y, hy⟩ : ∃ y, fr[k]? = some y := ⟨_, List.getElem?_eq_getElem (by rw [hfl]; exact hkl)⟩
   have hdone := from_done hfrom hI hy
   refine wp_skip (hK44 _ _ ?_);clear hK44
   refine cSeq (fun K45 hK45 => ?_)
   refine wp_block ?_
   refine cSR fun K46 hK46=>sMv F rfl rfl rfl ?_;clear F a;intro a F
   refine sIx Tryz.underlying83 Tryz.sizeOf3 F rfl rfl rfl rfl ?_ ?_
   focus omega
   clear F a; intro a F
   refine sLd Tryz.isAgg3 F rfl rfl rfl (H.cell 1 rfl (by simpa using frC_at hy)) (qAs rfl rfl rfl (qAs rfl rfl rfl (qNK hK46 (qSR fun K47 hK47=>qMv rfl rfl rfl (qBin rfl rfl rfl rfl bEql (qMv rfl rfl rfl (qBin rfl rfl rfl rfl bEql (qBin rfl rfl rfl rfl (bBoolNe Tryz.underlying4) (qNK hK47 ?_)))))))));clear hK46 hK47;clear F a;intro a F
   refine cIf F rfl (fun h162 => ?_) (fun h162 => ?_)
   ·
    replace h162 := nbeqT h162
    (refine absurd ?_ h162; rw [Bool.eq_iff_iff]; simp; omega)
   replace h162 := nbeqF h162
   refine wp_skip (hK45 _ _ (cReg ?_));clear hK45
   refine sBin F rfl rfl rfl rfl (bAddN (j := 1) ?_) ?_
   focus omega
   clear F a; intro a F
   refine sMv F rfl rfl rfl ?_;clear F a;intro a F
   refine sNil ?_
   exact ⟨_, by omega, _, ⟨k + 1, rfl, rfl, by omega, H.sel [0, 1, 2, 3, 4] rfl rfl⟩, F.to (by repeat (first | exact trivial | refine Le.cons rfl ?_))⟩
  replace h154 := of_decide_eq_false h154
  refine wp_exit ?_
  refine hK41 _ _ (cSR fun K48 hK48=>?_);clear hK41
  refine sLr Tryz.underlying29 rfl ?si F rfl rfl rfl (H.whole 4 rfl) ?_
  case si => exact info_size Tryz.sizeOf29
  clear F a; intro a F
  refine sMv F rfl rfl rfl ?_;clear F a;intro a F
  refine sCall Tryz.call19 F rfl rfl rfl (finals_any _ p _ (hP0.own H) (hN.own H) (1 + u % 3) 200 (by decide) (by decide)) ?_
  rintro e w ⟨A5, k5, l5, rfl, hf5, H2⟩
  replace H := H.join H2; clear H2
  refine ⟨_, rfl, ?_⟩
  clear F a; intro a F
  refine sMv F rfl rfl rfl (qExt rfl rfl rfl rfl (qExt rfl rfl rfl rfl (qAs rfl rfl rfl (qAs rfl rfl rfl (qNK hK48 ?_)))));clear hK48;clear F a;intro a F
  refine cSeq (fun K49 hK49 => ?_)
  refine cRegRO (by kernel_rfl) H ?_
  replace H := H.drew
  refine eTF 0 rfl (by kernel_rfl) F rfl rfl rfl (fun w=>rMv F rfl) H qq0 ?_;clear F a;intro a F
  refine eTakeF (k := 1) (i := 1) rfl (by kernel_rfl) F rfl rfl rfl (fun w => rIx (j := 0) Tryz.underlying51 Tryz.sizeOf70 F rfl rfl ?_) (H.sel [0, 1, 2, 3, 4, 5] rfl rfl) (fun _ _ _ h => h) ?_
  focus omega
  clear F a; intro a F
  refine eTake (k := 2) (i := 2) rfl (by kernel_rfl) F rfl rfl rfl rfl (fun w H => rLrB Tryz.underlying70 rfl Tryz.sizeOf70 F rfl (by obtain ⟨b', o', g1, g2⟩ := H.rowsAt 4 rfl (bs_rows _) (by decide) 0 (bs 142 (startP p)) (by rw [List.getElem?_map, hhead]; rfl); cases g1; exact g2)) (H.sel [0, 1, 2, 3, 4, 5] rfl rfl) (fun _ _ _ h => h) ?_;clear F a;intro a F
  refine eT 3 rfl (by kernel_rfl) F rfl rfl rfl rfl (fun w H=>rLrB Tryz.underlying70 rfl Tryz.sizeOf70 F rfl (H.whole 3 rfl)) H qq0 (qTF 4 rfl (by kernel_rfl) rfl rfl rfl (fun a F w=>rBin F rfl rfl (bEqY eT70 gT70 rfl)) H qq0 (qTF 5 rfl (by kernel_rfl) rfl rfl rfl (fun a F w=>rMv F rfl) H qq0 ?_));clear F a;intro a F
  refine F.split 175 rfl ?_ ?_ <;> (clear F; intro h175 F)
  ·
   refine eTF 6 rfl (by kernel_rfl) F rfl rfl rfl (fun w=>rMv F rfl) H qq0 (qTF 7 rfl (by kernel_rfl) rfl rfl rfl (fun a F w=>rBin F rfl rfl bEql) H qq0 (qTF 8 rfl (by kernel_rfl) rfl rfl rfl (fun a F w=>rPk F rfl rfl) H qq0 (qTF 9 rfl (by kernel_rfl) rfl rfl rfl (fun a F w=>rMv F rfl) H qq0 ?_)));clear F a;intro a F
   refine F.split 179 rfl ?_ ?_ <;> (clear F; intro h179 F)
   ·
    replace h179 := beqT h179
    refine eTF 10 rfl (by kernel_rfl) F rfl rfl rfl (fun w=>rMv F rfl) H qq0 (qTF 11 rfl (by kernel_rfl) rfl rfl rfl (fun a F w=>rMv F rfl) H qq0 ?_);clear F a;intro a F
    refine eOne (k := 12) (i := 12) rfl (by kernel_rfl) F rfl (oCall Tryz.call13 F rfl rfl (within_true A5 A9 k5 c9 l5 (endsL p (1 + u % 3) fd.list) _ (H.rowsAt 0 rfl (bs38_len _) (by decide)) (H.rowsAt 1 rfl (bs38_len _) (by decide)) (by have := (hf5.2 hE0).2.1; omega) (by have := endsL_len p (1 + u % 3) fd.list; omega) (fun x hx => (endsL_iff hI x).2 (((hf5.2 hE0).2.2.2 x).1 hx))) ?_)
    rintro e w ⟨rfl, hb⟩
    replace H := H.grow hb; clear hb
    refine ⟨_, rfl, ?_⟩
    clear F a; intro a F
    refine ePartO (by kernel_rfl) H ?_
    refine eTF 13 rfl (by kernel_rfl) F rfl rfl rfl (fun w=>rPk F rfl rfl) H qq0 (qTF 14 rfl (by kernel_rfl) rfl rfl rfl (fun a F w=>rMv F rfl) H qq0 ?_);clear F a;intro a F
    refine F.split 184 rfl ?_ ?_ <;> (clear F; intro h184 F)
    ·
     refine eTF 15 rfl (by kernel_rfl) F rfl rfl rfl (fun w=>rMv F rfl) H qq0 (qTF 16 rfl (by kernel_rfl) rfl rfl rfl (fun a F w=>rMv F rfl) H qq0 ?_);clear F a;intro a F
     refine eOne (k := 17) (i := 17) rfl (by kernel_rfl) F rfl (oCall Tryz.call13 F rfl rfl (within_true A9 A5 c9 k5 (endsL p (1 + u % 3) fd.list) l5 _ (H.rowsAt 1 rfl (bs38_len _) (by decide)) (H.rowsAt 0 rfl (bs38_len _) (by decide)) (by have := endsL_len p (1 + u % 3) fd.list; omega) (by have := (hf5.2 hE0).2.1; omega) (fun x hx => ((hf5.2 hE0).2.2.2 x).2 ((endsL_iff hI x).1 hx))) ?_)
     rintro e w ⟨rfl, hb⟩
     replace H := H.grow hb; clear hb
     refine ⟨_, rfl, ?_⟩
     clear F a; intro a F
     refine ePartO (by kernel_rfl) H ?_
     refine eTF 18 rfl (by kernel_rfl) F rfl rfl rfl (fun w=>rPk F rfl rfl) H qq0 (qTF 19 rfl (by kernel_rfl) rfl rfl rfl (fun a F w=>rMv F rfl) H qq0 ?_);clear F a;intro a F
     refine F.split 189 rfl ?_ ?_ <;> (clear F; intro h189 F)
     ·
      refine eOne (k := 20) (i := 20) rfl (by kernel_rfl) F rfl (oCall Tryz.call14 F rfl rfl (awake15_any _ (hN.own H)) ?_)
      rintro e w ⟨rfl, hb⟩
      replace H := H.grow hb; clear hb
      refine ⟨_, rfl, ?_⟩
      clear F a; intro a F
      refine ePartO (by kernel_rfl) H ?_
      refine eTF 21 rfl (by kernel_rfl) F rfl rfl rfl (fun w=>rPk F rfl rfl) H qq0 (qTF 22 rfl (by kernel_rfl) rfl rfl rfl (fun a F w=>rAs F rfl) H qq0 ?_);clear F a;intro a F
      refine eNil (k := 23) (by kernel_rfl) ?_
      refine hK49 _ _ ?_;clear hK49
      refine wp_ret ?_
      refine bRet Tryz.results6 F rfl ?_
      exact ⟨rfl, H.below⟩
     cases h189
    cases h184
   replace h179 := beqF h179
   exact absurd hE0 h179
  exact absurd (same_iff.2 fun _ _ => rfl) (by rw [h175]; decide)
end Go.Proofs.YtbgnapmaimkpkaaGreatDoor
