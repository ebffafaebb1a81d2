/-
  WALK2. Package runs: Way. Conditions: the program lies in memory; block 0 holds the table of needs.
-/
import Derived.Test.YtbgnapmaimkpkaaGreatDoorRnD
set_option linter.unusedSimpArgs false
set_option linter.unusedVariables false
namespace Go.Proofs.YtbgnapmaimkpkaaGreatDoor
open Go.RowKit
set_option maxRecDepth 100000
theorem states_some {p : Prg} {m : UInt8} {n : Int} (h : statesE p m n = 0) : ∃ fd, statesR p m n = some fd ∧ FndI p m n.toNat fd.list.length fd ∧ n.toNat ≤ 65536 ∧ rightErr p = 0 ∧ knownM m = true := by
  unfold statesE at h
  split at h
  · rename_i hC
    have hR : statesR p m n = reachR p m n.toNat := if_pos hC
    obtain ⟨h1, h2, h3, h4⟩ := hC
    split at h
    · rename_i hs
      obtain ⟨fd, hf⟩ := Option.isSome_iff_exists.1 hs
      exact ⟨fd, by rw [hR, hf], reach_ok h4 h1 (by omega) hf, by omega, h4, h1⟩
    · cases h
  · cases h
def hitR (fd : Fnd) (f : By) : Option Nat := fd.ends.find? fun k => same 38 (finalP (fd.list.getD k zb)) f
def wayL (p : Prg) (m : UInt8) (f : By) (n : Int) : List Pss := match statesR p m n with
  | none => []
  | some fd => match hitR fd f with
    | none => []
    | some k => wayR fd k
def wayE (p : Prg) (m : UInt8) (f : By) (n : Int) : Int := if statesE p m n = 0 then (match hitR (fo (statesR p m n)) f with | none => 6 | some _ => 0) else statesE p m n
theorem states_none {p : Prg} {m : UInt8} {n : Int} (h : statesE p m n ≠ 0) : statesR p m n = none := by
  unfold statesE at h
  unfold statesR
  split
  · rename_i hC
    rw [if_pos hC] at h
    cases hr : reachR p m n.toNat with
    | none => rfl
    | some fd => rw [hr] at h; exact absurd rfl h
  · rfl
theorem hit_at {fd : Fnd} {f : By} {i k : Nat} (hi : fd.ends[i]? = some k) (hno : ∀ j k, j < i → fd.ends[j]? = some k → same 38 (finalP (fd.list.getD k zb)) f = false) (h : same 38 (finalP (fd.list.getD k zb)) f = true) : hitR fd f = some k := by
  unfold hitR
  obtain ⟨hl, rfl⟩ := List.getElem?_eq_some_iff.1 hi
  refine List.find?_eq_some_iff_getElem.2 ⟨h, i, hl, rfl, fun j hj => ?_⟩
  have := hno j _ hj (List.getElem?_eq_getElem (by omega))
  rw [this]; rfl
theorem hit_none {fd : Fnd} {f : By} (hno : ∀ j k, j < fd.ends.length → fd.ends[j]? = some k → same 38 (finalP (fd.list.getD k zb)) f = false) : hitR fd f = none := by
  unfold hitR
  refine List.find?_eq_none.2 fun k hk => ?_
  obtain ⟨j, hj⟩ := List.mem_iff_getElem?.1 hk
  have := hno j k (List.getElem?_eq_some_iff.1 hj).1 hj
  rw [this]; decide
theorem way_any (cs : List Value) (p : Prg) (w0 : World) (hP : ProgAt w0 cs p) (hN : NeedsAt w0) (mc : UInt8) (f : By) (n : Int) (hlo : -9223372036854775808 ≤ n) (hhi : n ≤ 9223372036854775807) :
    Calls Tryz.prog 21 #[.agg cs.toArray, Go.Proofs.YtbgnapmaimkpkaaGreatDoor.b8 mc, .agg (bs 38 f).toArray, .int .i64 n] w0 fun e w' => ∃ A c, e = .returned (.tuple #[.slice A (wayL p mc f n).length c, .int .i64 (wayE p mc f n)]) ∧ Own w0 none w' [.rws 86 3 (.slice A (wayL p mc f n).length c) ((wayL p mc f n).map Pss.cells)] := by
  have H := Own.start w0 none
  have hP0 := hP
  obtain ⟨LA, LC, IA, IC, TA, TC, h, ccs, hp⟩ := hP
  obtain ⟨c1, c2, c3, c4, c5, rfl⟩ := len5 (condAt_len hp.cond)
  have hcs := hp.cs
  subst hcs;refine enterF Tryz.func21 rfl Tryz.ntmps21 rfl (fun a F => ?_);refine cSR fun K1 hK1=>?_;refine sBx H F rfl rfl rfl ?_;clear F a H; intro b4 a w F H;refine sBxB H F rfl rfl rfl ?_;clear F a H; intro b6 a w F H;refine sAs F rfl rfl rfl (qAs rfl rfl rfl (qNK hK1 (qSR fun K2 hK2=>?_)));clear hK1;clear F a;intro a F
  refine sLr Tryz.underlying29 rfl ?si F rfl rfl rfl (H.whole 1 rfl) ?_
  case si => exact info_size Tryz.sizeOf29
  clear F a; intro a F;refine sMv F rfl rfl rfl (qMv rfl rfl rfl ?_);clear F a;intro a F;refine sCall Tryz.call46 F rfl rfl rfl (states_any _ p _ (hP0.own H) (hN.own H) mc n hlo hhi) ?_;rintro e w ⟨A1, k1, A2, k2, A3, k3, rfl, H2⟩;replace H := H.join H2; clear H2;refine ⟨_, rfl, ?_⟩;clear F a; intro a F;refine sMv F rfl rfl rfl (qExt rfl rfl rfl rfl (qExt rfl rfl rfl rfl ?_));clear F a;intro a F;refine sAl H Tryz.zeroValue113 F rfl rfl ?_;clear F a H; intro b10 a w F H
  refine sSr H 0 ?si F rfl rfl rfl ?s1 rfl rfl ?_
  case si => exact info_size Tryz.sizeOf113
  case s1 => first | rfl | (repeat (first | exact one_nil | (apply one_cons; · first | rfl | assumption | exact one_bif rfl rfl)))
  clear H; intro w H;refine sAs F rfl rfl rfl (qNK hK2 ?_);clear hK2;clear F a;intro a F;refine cSeq (fun K3 hK3 => ?_);refine cSR fun K4 hK4=>sMv F rfl rfl rfl (qBin rfl rfl rfl rfl bNeq (qNK hK4 ?_));clear hK4;clear F a;intro a F
  refine cIf F rfl (fun h22 => ?_) (fun h22 => ?_)
  ·
   replace h22 := bneT h22;refine cSR fun K5 hK5=>sMv F rfl rfl rfl (qAs rfl rfl rfl (qAs rfl rfl rfl (qNK hK5 ?_)));clear hK5;clear F a;intro a F;refine wp_ret ?_;simp only [Exit.then];refine bRet2 Tryz.results21 F rfl rfl ?_
   first
   | (have hE : statesE p mc n ≠ 0 := h22
      have e1 : wayL p mc f n = [] := by unfold wayL; rw [states_none hE]
      have e2 : wayE p mc f n = statesE p mc n := if_neg hE
      rw [e1, e2]
      exact ⟨none, 0, rfl, (H.nilRws 86 3).pick 0 rfl⟩)
   | (have hh := hit_at hk hno (by rw [hgd]; exact h38)
      have e1 : wayL p mc f n = wayR fd k := by unfold wayL; rw [hfd]; simp only [hh]
      have e2 : wayE p mc f n = 0 := by unfold wayE; rw [if_pos hE, hfd]; simp only [hfo, hh]
      rw [e1, e2]
      exact ⟨AW, cW, rfl, H.pick 0 rfl⟩)
   | (have hh : hitR fd f = none := hit_none (fun j k hj => hno j k (by omega))
      have e1 : wayL p mc f n = [] := by unfold wayL; rw [hfd]; simp only [hh]
      have e2 : wayE p mc f n = 6 := by unfold wayE; rw [if_pos hE, hfd]; simp only [hfo, hh]
      rw [e1, e2]
      exact ⟨none, 0, rfl, (H.nilRws 86 3).pick 0 rfl⟩)
  replace h22 := bneF h22
  have hE : statesE p mc n = 0 := h22
  obtain ⟨fd, hfd, hF, hn65, _, _⟩ := states_some hE
  rw [hfd] at H F
  have hml := (states_small hfd).2
  have hfo : fo (some fd) = fd := rfl
  rw [hfo] at H F;refine wp_skip (hK3 _ _ ?_);clear hK3;refine cSeq (fun K6 hK6 => ?_);refine cSR fun K7 hK7=>sFa (f := 2) (k := 2) Tryz.underlying113 rfl Tryz.sizeOf83 rfl rfl F rfl rfl rfl (qLd Tryz.isAgg83 rfl rfl rfl (H.cell 0 rfl rfl) (qLen Tryz.underlying83 rfl rfl rfl (qMv rfl rfl rfl (qNK hK7 ?_))));clear hK7;clear F a;intro a F;refine wp_block ?_
  refine cLoopR [6, 10, 25, 26] (fun m ups w => ∃ i : Nat, m = fd.ends.length - i ∧ ups = [(27, .int .i64 ((i : Nat) : Int))] ∧ i ≤ fd.ends.length ∧ (∀ j k, j < i → fd.ends[j]? = some k → same 38 (finalP (fd.list.getD k zb)) f = false) ∧ Own w0 none w [.rws 70 142 (.slice A1 fd.list.length k1) (fd.list.map (bs 142)), .rws 162 4 (.slice A2 fd.links.length k2) (fd.links.map lkC), .rws 3 1 (.slice A3 fd.ends.length k3) (fd.ends.map enC), .blk b10 [.slice A1 fd.list.length k1, .slice A2 fd.links.length k2, .slice A3 fd.ends.length k3] 113, .blk b6 (bs 38 f) 47]) F (fd.ends.length) [(27, .int .i64 ((0 : Nat) : Int))] (by repeat (first | exact SubR.nil | (apply SubR.cons; · rfl))) ?_ ?_ ?_
  · exact ⟨0, rfl, rfl, by omega, fun j k hj => absurd hj (by omega), H.sel [1, 2, 3, 0, 4] rfl rfl⟩
  · repeat (first | exact trivial | refine Le.cons rfl ?_)
  clear F
  clear H
  intro m ups a w hI F
  obtain ⟨i, rfl, rfl, hi, hno, H⟩ := hI
  refine cSR fun K8 hK8=>sBin F rfl rfl rfl rfl bLss (qNK hK8 ?_);clear hK8;clear F a;intro a F;refine cSeq (fun K9 hK9 => ?_)
  refine cIf F rfl (fun h28 => ?_) (fun h28 => ?_)
  ·
   replace h28 := of_decide_eq_true h28
   have hil : i < fd.ends.length := by omega
   obtain ⟨k, hk⟩ : ∃ k, fd.ends[i]? = some k := ⟨_, List.getElem?_eq_getElem hil⟩
   obtain ⟨s, hs, _⟩ := (ends_iff hF).1 (List.mem_of_getElem? hk)
   have hkl : k < fd.list.length := (List.getElem?_eq_some_iff.1 hs).1
   have hgd : fd.list.getD k zb = s := by rw [List.getD_eq_getElem?_getD, hs]; rfl
   obtain ⟨bE, oE, rfl, hRE⟩ := H.rowsAt 2 rfl (fun r hr => by obtain ⟨x, _, rfl⟩ := List.mem_map.1 hr; rfl) (by decide) i (enC k) (by rw [List.getElem?_map, hk]; rfl)
   obtain ⟨bS, oS, rfl, hRS⟩ := H.rowsAt 0 rfl (bs_rows _) (by decide) k (bs 142 s) (by rw [List.getElem?_map, hs]; rfl)
   refine wp_skip (hK9 _ _ ?_);clear hK9;refine cSeq (fun K10 hK10 => ?_);refine wp_block ?_;refine cSR fun K11 hK11=>?_
   refine sIx Tryz.underlying83 Tryz.sizeOf3 F rfl rfl rfl rfl ?_ ?_
   focus (first | omega | decide | (simp; omega))
   clear F a; intro a F;refine sLd Tryz.isAgg3 F rfl rfl rfl (by simpa using hRE 0 _ rfl) (qAs rfl rfl rfl (qNK hK11 ?_));clear hK11;clear F a;intro a F;refine cSeq (fun K12 hK12 => ?_);refine cRegRO (by kernel_rfl) H ?_;replace H := H.drew;refine eTF 0 rfl (by kernel_rfl) F rfl rfl rfl (fun w=>rFa (f := 0) (k := 0) Tryz.underlying113 rfl Tryz.sizeOf51 rfl rfl F rfl) H qq0 (qT 1 rfl (by kernel_rfl) rfl rfl rfl rfl (fun a F w H=>rLd Tryz.isAgg51 F rfl (H.cell 3 rfl rfl)) H qq0 (qTF 2 rfl (by kernel_rfl) rfl rfl rfl (fun a F w=>rMv F rfl) H qq0 ?_));clear F a;intro a F
   refine eTakeF (k := 3) (i := 3) rfl (by kernel_rfl) F rfl rfl rfl (fun w => rIx Tryz.underlying51 Tryz.sizeOf70 F rfl rfl ?_) (H.sel [0, 1, 2, 3, 4] rfl rfl) (fun _ _ _ h => h) ?_
   focus exact hkl
   clear F a; intro a F
   refine eTake (k := 4) (i := 4) rfl (by kernel_rfl) F rfl rfl rfl rfl (fun w H => rLrB Tryz.underlying70 rfl Tryz.sizeOf70 F rfl (by obtain ⟨b', o', g1, g2⟩ := H.rowsAt 0 rfl (bs_rows _) (by decide) k (bs 142 s) (by rw [List.getElem?_map, hs]; rfl); cases g1; exact g2)) (H.sel [0, 1, 2, 3, 4] rfl rfl) (fun _ _ _ h => h) ?_;clear F a;intro a F
   refine eT 6 rfl (by kernel_rfl) F rfl rfl rfl rfl (fun w H=>rLrB Tryz.underlying47 rfl Tryz.sizeOf47 F rfl (H.whole 4 rfl)) H qq0 ?_;clear F a;intro a F;refine eOne (k := 6) (i := 5) rfl (by kernel_rfl) F rfl (oCall Tryz.call29 F rfl rfl (final_any s _) ?_);rintro e w ⟨rfl, hb⟩;replace H := H.grow hb; clear hb;refine ⟨_, rfl, ?_⟩;clear F a; intro a F;refine eKeep (H.sel [0, 1, 2, 3, 4] rfl rfl) ?_;refine eTF 7 rfl (by kernel_rfl) F rfl rfl rfl (fun w=>rBin F rfl rfl (bEqY eT47 gT47 rfl)) (H.sel [0, 1, 2, 3, 4] rfl rfl) qq0 ?_;clear F a;intro a F;refine eNil (k := 8) (by kernel_rfl) ?_;refine hK12 _ _ ?_;clear hK12
   refine cIf F rfl (fun h38 => ?_) (fun h38 => ?_)
   ·
    refine cSR fun K13 hK13=>?_
    refine sLr Tryz.underlying113 rfl ?si F rfl rfl rfl (H.whole 3 rfl) ?_
    case si => exact info_size Tryz.sizeOf113
    clear F a; intro a F;refine sMv F rfl rfl rfl ?_;clear F a;intro a F;refine sCall Tryz.call48 F rfl rfl rfl (run_any p mc n.toNat fd hF hn65 k hkl _ _ _ _ _ _ _ (H.rowsAt 1 rfl (fun r hr => by obtain ⟨x, _, rfl⟩ := List.mem_map.1 hr; rfl) (by decide))) ?_;rintro e w ⟨AW, cW, rfl, H2⟩;replace H := H.join H2; clear H2;refine ⟨_, rfl, ?_⟩;clear F a; intro a F;refine sAs F rfl rfl rfl (qAs rfl rfl rfl (qNK hK13 ?_));clear hK13;clear F a;intro a F;refine wp_ret ?_;simp only [Exit.inBlock, Exit.then];refine bRet2 Tryz.results21 F rfl rfl ?_
    first
    | (have hE : statesE p mc n ≠ 0 := h22
       have e1 : wayL p mc f n = [] := by unfold wayL; rw [states_none hE]
       have e2 : wayE p mc f n = statesE p mc n := if_neg hE
       rw [e1, e2]
       exact ⟨none, 0, rfl, (H.nilRws 86 3).pick 0 rfl⟩)
    | (have hh := hit_at hk hno (by rw [hgd]; exact h38)
       have e1 : wayL p mc f n = wayR fd k := by unfold wayL; rw [hfd]; simp only [hh]
       have e2 : wayE p mc f n = 0 := by unfold wayE; rw [if_pos hE, hfd]; simp only [hfo, hh]
       rw [e1, e2]
       exact ⟨AW, cW, rfl, H.pick 0 rfl⟩)
    | (have hh : hitR fd f = none := hit_none (fun j k hj => hno j k (by omega))
       have e1 : wayL p mc f n = [] := by unfold wayL; rw [hfd]; simp only [hh]
       have e2 : wayE p mc f n = 6 := by unfold wayE; rw [if_pos hE, hfd]; simp only [hfo, hh]
       rw [e1, e2]
       exact ⟨none, 0, rfl, (H.nilRws 86 3).pick 0 rfl⟩)
   refine wp_skip (hK10 _ _ (cReg ?_));clear hK10
   refine sBin F rfl rfl rfl rfl (bAddN (j := 1) ?_) ?_
   focus omega
   clear F a; intro a F;refine sMv F rfl rfl rfl ?_;clear F a;intro a F;refine sNil ?_
   exact ⟨_, by omega, _, ⟨i + 1, rfl, rfl, by omega, fun j k' hj hk' => (by
    rcases Nat.lt_or_ge j i with h | h
    · exact hno j k' h hk'
    · obtain rfl : j = i := by omega
      rw [hk] at hk'; cases hk'
      rw [hgd]; exact h38), H.sel [0, 1, 2, 3, 4] rfl rfl⟩, F.to (by repeat (first | exact trivial | refine Le.cons rfl ?_))⟩
  replace h28 := of_decide_eq_false h28;refine wp_exit ?_;refine hK6 _ _ (cSR fun K14 hK14=>sAs F rfl rfl rfl (qAs rfl rfl rfl (qNK hK14 ?_)));clear hK6 hK14;clear F a;intro a F;refine wp_ret ?_;refine bRet2 Tryz.results21 F rfl rfl ?_
  first
  | (have hE : statesE p mc n ≠ 0 := h22
     have e1 : wayL p mc f n = [] := by unfold wayL; rw [states_none hE]
     have e2 : wayE p mc f n = statesE p mc n := if_neg hE
     rw [e1, e2]
     exact ⟨none, 0, rfl, (H.nilRws 86 3).pick 0 rfl⟩)
  | (have hh := hit_at hk hno (by rw [hgd]; exact h38)
     have e1 : wayL p mc f n = wayR fd k := by unfold wayL; rw [hfd]; simp only [hh]
     have e2 : wayE p mc f n = 0 := by unfold wayE; rw [if_pos hE, hfd]; simp only [hfo, hh]
     rw [e1, e2]
     exact ⟨AW, cW, rfl, H.pick 0 rfl⟩)
  | (have hh : hitR fd f = none := hit_none (fun j k hj => hno j k (by omega))
     have e1 : wayL p mc f n = [] := by unfold wayL; rw [hfd]; simp only [hh]
     have e2 : wayE p mc f n = 6 := by unfold wayE; rw [if_pos hE, hfd]; simp only [hfo, hh]
     rw [e1, e2]
     exact ⟨none, 0, rfl, (H.nilRws 86 3).pick 0 rfl⟩)
end Go.Proofs.YtbgnapmaimkpkaaGreatDoor
