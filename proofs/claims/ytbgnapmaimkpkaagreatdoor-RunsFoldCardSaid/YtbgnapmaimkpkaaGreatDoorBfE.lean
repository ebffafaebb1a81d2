/-
  WALK2. Package buffer: Moves, Over; slices.Index, slices.Contains of moves. Conditions: the program lies in memory; block 0 holds the table of needs.
-/
import Derived.Test.YtbgnapmaimkpkaaGreatDoorBfD
set_option linter.unusedSimpArgs false
set_option linter.unusedVariables false
namespace Go.Proofs.YtbgnapmaimkpkaaGreatDoor
open Go.Proofs.Tryz
open Go.RowKit
set_option maxRecDepth 100000

structure RightM (p : Prg) (m : UInt8) (s : By) : Prop where
  known : knownM m = true
  bare : rightS p (bareP s) = true
  fits : ∀ t, t < 4 → fitsP p m s t = true
theorem rightM_iff {p : Prg} {m : UInt8} {s : By} : rightM p m s = true ↔ RightM p m s := by
  unfold rightM
  rw [Bool.and_eq_true, Bool.and_eq_true, allB_iff]
  exact ⟨fun h => ⟨h.1.1, h.1.2, h.2⟩, fun h => ⟨⟨h.known, h.bare⟩, h.fits⟩⟩
theorem bare_pc {s : By} {t : Nat} (ht : t < 4) : bareP s (t * 9) = s (t * 9) := if_pos (by omega)
section
variable {p : Prg} {m : UInt8} {s : By}
theorem RightM.prog (h : RightM p m s) : rightErr p = 0 := right_of h.bare
theorem RightM.pc (h : RightM p m s) {t : Nat} {l : List Ins} (ht : t < 4) (hl : p.threads[t]? = some l) : (s (t * 9)).toNat ≤ l.length := by
  have h1 := h.bare
  unfold rightS stateOk at h1
  simp only [Bool.and_eq_true] at h1
  have h2 := (allB_iff.1 h1.2.1.1) t ht
  rw [threadSt_some hl, bare_pc ht] at h2
  exact of_decide_eq_true h2
theorem RightM.most (h : RightM p m s) {t : Nat} (ht : t < 4) : manyB s t ≤ mostB p m s t := by
  have h1 := h.fits t ht
  unfold fitsP at h1
  rw [Bool.and_eq_true] at h1
  exact of_decide_eq_true h1.1
theorem RightM.slot (h : RightM p m s) {t i : Nat} (ht : t < 4) (hi : i < 12) : slotOk p m s t i = true := by
  have h1 := h.fits t ht
  unfold fitsP at h1
  rw [Bool.and_eq_true] at h1
  exact allB_iff.1 h1.2 i hi
theorem RightM.many (h : RightM p m s) {t : Nat} (ht : t < 4) : manyB s t ≤ 12 ∧ (manyB s t ≠ 0 → m ≠ 1 ∧ ∃ l, p.threads[t]? = some l ∧ manyB s t ≤ (s (t * 9)).toNat ∧ (s (t * 9)).toNat ≤ l.length) := by
  have h1 := h.most ht
  unfold mostB at h1
  split at h1
  · rename_i hc
    have hl : p.threads[t]? = some p.threads[t] := List.getElem?_eq_getElem hc.2
    have h2 := h.pc ht hl
    have h3 := (valid h.prog).long t _ hl
    exact ⟨by omega, fun _ => ⟨hc.1, _, hl, h1, h2⟩⟩
  · exact ⟨by omega, fun h => absurd h (by omega)⟩
theorem RightM.loc (h : RightM p m s) {t i : Nat} (ht : t < 4) (hi : i < manyB s t) : (bLoc s t i).toNat < p.locs.length := by
  have h1 := h.slot ht (show i < 12 by have := (h.many ht).1; omega)
  unfold slotOk at h1
  rw [if_neg (by omega), Bool.and_eq_true] at h1
  exact of_decide_eq_true h1.1
end
set_option maxHeartbeats 2000000 in
theorem movesR_any (cs : List Value) (p : Prg) (w0 : World) (hP : ProgAt w0 cs p) (hN : NeedsAt w0) (mc : UInt8) (s : By) :
    Calls Tryz.prog 27 #[.agg cs.toArray, Go.Proofs.YtbgnapmaimkpkaaGreatDoor.b8 mc, .agg (bs 142 s).toArray] w0 fun e w' => ∃ A c, e = .returned (.slice A (movesR p mc s).length c) ∧ Own w0 none w' [.rws 86 3 (.slice A (movesR p mc s).length c) ((movesR p mc s).map Pss.cells)] := by
  have H := Own.start w0 none
  obtain ⟨d1, d2, d3, d4, d5, d6, d7, d8, d9, d10, rfl⟩ := hP.len10
  refine enterF func27 rfl ntmps27 rfl (fun a F => ?_);refine cSR fun K1 hK1=>?_;refine sBx H F rfl rfl rfl ?_;clear F a H; intro b3 a w F H;refine sBxB H F rfl rfl rfl ?_;clear F a H; intro b5 a w F H;refine sAs F rfl rfl rfl (qNK hK1 ?_);clear hK1;clear F a;intro a F;refine cSeq (fun K2 hK2 => ?_);refine cSR fun K3 hK3=>?_
  refine sLr underlying29 rfl ?si F rfl rfl rfl (H.whole 1 rfl) ?_
  case si => exact info_size sizeOf29
  clear F a; intro a F;refine sMv F rfl rfl rfl (qLrB underlying70 rfl sizeOf70 rfl rfl rfl (H.whole 0 rfl) ?_);clear F a;intro a F;refine sCall call51 F rfl rfl rfl (rightM_any _ p _ (hP.own H) (hN.own H) mc s) ?_;rintro e w ⟨rfl, hb⟩;replace H := H.grow hb; clear hb;refine ⟨_, rfl, ?_⟩;clear F a; intro a F;refine sNot F rfl rfl rfl (qNK hK3 ?_);clear hK3;clear F a;intro a F
  refine cIf F rfl (fun h11 => ?_) (fun h11 => ?_)
  ·
   replace h11 := notT h11;refine cSR fun K4 hK4=>sAs F rfl rfl rfl (qNK hK4 ?_);clear hK4;clear F a;intro a F;refine wp_ret ?_;simp only [Exit.then];refine bRet results27 F rfl ?_
   first
     | (have e : movesR p mc s = [] := by rw [movesR, h11]; rfl
        rw [e]
        exact ⟨none, 0, rfl, (H.sel [] rfl rfl).nilRws _ _⟩)
     | (have e : movesR p mc s = movesM p mc s := by rw [movesR, h11]; rfl
        rw [e]
        exact ⟨A, c, rfl, H.pick 0 rfl⟩)
  replace h11 := notF h11
  have hr := rightM_iff.1 h11
  refine wp_skip (hK2 _ _ (cSR fun K5 hK5=>?_));clear hK2
  refine sLr underlying29 rfl ?si F rfl rfl rfl (H.whole 1 rfl) ?_
  case si => exact info_size sizeOf29
  clear F a; intro a F;refine sMv F rfl rfl rfl (qLrB underlying70 rfl sizeOf70 rfl rfl rfl (H.whole 0 rfl) ?_);clear F a;intro a F;refine sCall call52 F rfl rfl rfl (movesM_any _ p _ (hP.own H) ((valid hr.prog).thr4) mc s (fun t ht => (hr.many ht).1)) ?_;rintro e w ⟨A, c, rfl, H2⟩;replace H := H.join H2; clear H2;refine ⟨_, rfl, ?_⟩;clear F a; intro a F;refine sAs F rfl rfl rfl (qNK hK5 ?_);clear hK5;clear F a;intro a F;refine wp_ret ?_;refine bRet results27 F rfl ?_
  first
    | (have e : movesR p mc s = [] := by rw [movesR, h11]; rfl
       rw [e]
       exact ⟨none, 0, rfl, (H.sel [] rfl rfl).nilRws _ _⟩)
    | (have e : movesR p mc s = movesM p mc s := by rw [movesR, h11]; rfl
       rw [e]
       exact ⟨A, c, rfl, H.pick 0 rfl⟩)
theorem indexX_any (A : Option Addr) (C : Nat) (l : List Pss) (x : Pss) (w0 : World) (hR : RowsAt w0 A 3 (l.map Pss.cells)) (hl : l.length ≤ 9223372036854775807) :
    Calls Tryz.prog 107 #[.slice A l.length C, .agg x.cells.toArray] w0 fun e w' => ∃ n : Int, e = .returned (.int .i64 n) ∧ (0 ≤ n ↔ x ∈ l) ∧ Below w0.heap.size w0 w' := by
  have H := Own.start w0 none
  refine enterF func107 rfl ntmps107 rfl (fun a F => ?_);refine cSR fun K1 hK1=>?_;refine sBx H F rfl rfl rfl ?_;clear F a H; intro b3 a w F H;refine sAs F rfl rfl rfl (qNK hK1 ?_);clear hK1;clear F a;intro a F;refine cSeq (fun K2 hK2 => ?_);refine cSR fun K3 hK3=>sMv F rfl rfl rfl (qLen underlying58 rfl rfl rfl (qMv rfl rfl rfl (qNK hK3 ?_)));clear hK3;clear F a;intro a F;refine wp_block ?_
  refine cLoopR [0, 3, 7] (fun m ups w => ∃ j : Nat, m = l.length - j ∧ ups = [(8, .int .i64 ((j : Nat) : Int))] ∧ j ≤ l.length ∧ (∀ i y, i < j → l[i]? = some y → x ≠ y) ∧ Own w0 none w [.blk b3 x.cells 86]) F (l.length) [(8, .int .i64 ((0 : Nat) : Int))] (by repeat (first | exact SubR.nil | (apply SubR.cons; · rfl))) ?_ ?_ ?_
  · exact ⟨0, rfl, rfl, by omega, fun i y hi => absurd hi (by omega), H.sel [0] rfl rfl⟩
  · repeat (first | exact trivial | refine Le.cons rfl ?_)
  clear F
  clear H
  intro m ups a w hI F
  obtain ⟨j, rfl, rfl, hj, hno, H⟩ := hI
  refine cSR fun K4 hK4=>sBin F rfl rfl rfl rfl bLss (qNK hK4 ?_);clear hK4;clear F a;intro a F;refine cSeq (fun K5 hK5 => ?_)
  refine cIf F rfl (fun h9 => ?_) (fun h9 => ?_)
  ·
   replace h9 := of_decide_eq_true h9
   obtain ⟨y, hy⟩ : ∃ y, l[j]? = some y := ⟨_, List.getElem?_eq_getElem (by omega)⟩
   obtain ⟨b, o, rfl, hx⟩ := hR j y.cells (by rw [List.getElem?_map, hy]; rfl)
   refine wp_skip (hK5 _ _ ?_);clear hK5;refine cSeq (fun K6 hK6 => ?_);refine wp_block ?_;refine cSR fun K7 hK7=>sMv F rfl rfl rfl (qAs rfl rfl rfl (qNK hK7 ?_));clear hK7;clear F a;intro a F;refine cSeq (fun K8 hK8 => ?_);refine cRegRO (by kernel_rfl) H ?_;replace H := H.drew
   refine eTake (k := 0) (i := 0) rfl (by kernel_rfl) F rfl rfl rfl rfl (fun w H => rLr underlying86 rfl ?si F rfl (H.whole 0 rfl)) (H.sel [0] rfl rfl) (fun _ _ _ h => h) ?_
   case si => exact info_size sizeOf86
   clear F a; intro a F;refine eTF 1 rfl (by kernel_rfl) F rfl rfl rfl (fun w=>rMv F rfl) H qq0 (qTF 2 rfl (by kernel_rfl) rfl rfl rfl (fun a F w=>rMv F rfl) H qq0 ?_);clear F a;intro a F
   refine eTakeF (k := 3) (i := 3) rfl (by kernel_rfl) F rfl rfl rfl (fun w => rIx underlying58 sizeOf86 F rfl rfl ?_) (H.sel [0] rfl rfl) (fun _ _ _ h => h) ?_
   focus (first | omega | decide | (simp; omega))
   clear F a; intro a F
   refine eTake (k := 4) (i := 4) rfl (by kernel_rfl) F rfl rfl rfl rfl (fun w H => rLr underlying86 rfl ?si F rfl (H.argR hx)) (H.sel [0] rfl rfl) (fun _ _ _ h => h) ?_
   case si => exact info_size sizeOf86
   clear F a; intro a F;refine eTF 5 rfl (by kernel_rfl) F rfl rfl rfl (fun w=>rBin F rfl rfl (bEqX (x := x) (y := y))) H qq0 ?_;clear F a;intro a F;refine eNil (k := 6) (by kernel_rfl) ?_;refine hK8 _ _ ?_;clear hK8
   refine cIf F rfl (fun h16 => ?_) (fun h16 => ?_)
   ·
    refine cSR fun K9 hK9=>sMv F rfl rfl rfl (qAs rfl rfl rfl (qNK hK9 ?_));clear hK9;clear F a;intro a F;refine wp_ret ?_;simp only [Exit.inBlock, Exit.then];refine bRet results107 F rfl ?_
    first
      | (have he : x = y := of_decide_eq_true h16
         exact ⟨_, rfl, ⟨fun _ => he ▸ List.mem_of_getElem? hy, fun _ => by omega⟩, H.below⟩)
      | (refine ⟨_, rfl, ⟨fun h => absurd h (by omega), fun h => ?_⟩, H.below⟩
         obtain ⟨i, hi⟩ := List.mem_iff_getElem?.1 h
         exact absurd rfl (hno i x (by have := (List.getElem?_eq_some_iff.1 hi).1; omega) hi))
   refine wp_skip (hK6 _ _ (cReg ?_));clear hK6
   refine sBin F rfl rfl rfl rfl (bAddN (j := 1) ?_) ?_
   focus omega
   clear F a; intro a F;refine sMv F rfl rfl rfl ?_;clear F a;intro a F;refine sNil ?_
   (have hne : x ≠ y := of_decide_eq_false h16
    refine ⟨_, by omega, _, ⟨j + 1, rfl, rfl, by omega, fun i z hi hz => ?_, H.sel [0] rfl rfl⟩, F.to (by repeat (first | exact trivial | refine Le.cons rfl ?_))⟩
    rcases Nat.lt_or_ge i j with h | h
    · exact hno i z h hz
    · obtain rfl : i = j := by omega
      rw [hy] at hz; cases hz; exact hne)
  replace h9 := of_decide_eq_false h9;refine wp_exit ?_;refine hK2 _ _ (cSR fun K10 hK10=>sAs F rfl rfl rfl (qNK hK10 ?_));clear hK2 hK10;clear F a;intro a F;refine wp_ret ?_;refine bRet results107 F rfl ?_
  first
    | (have he : x = y := of_decide_eq_true h16
       exact ⟨_, rfl, ⟨fun _ => he ▸ List.mem_of_getElem? hy, fun _ => by omega⟩, H.below⟩)
    | (refine ⟨_, rfl, ⟨fun h => absurd h (by omega), fun h => ?_⟩, H.below⟩
       obtain ⟨i, hi⟩ := List.mem_iff_getElem?.1 h
       exact absurd rfl (hno i x (by have := (List.getElem?_eq_some_iff.1 hi).1; omega) hi))
theorem containsX_any (A : Option Addr) (C : Nat) (l : List Pss) (x : Pss) (w0 : World) (hR : RowsAt w0 A 3 (l.map Pss.cells)) (hl : l.length ≤ 9223372036854775807) :
    Calls Tryz.prog 53 #[.slice A l.length C, .agg x.cells.toArray] w0 fun e w' => e = .returned (.bool (decide (x ∈ l))) ∧ Below w0.heap.size w0 w' := by
  have H := Own.start w0 none
  refine enterF func53 rfl ntmps53 rfl (fun a F => ?_);refine cSR fun K1 hK1=>?_;refine sBx H F rfl rfl rfl ?_;clear F a H; intro b3 a w F H;refine sAs F rfl rfl rfl (qNK hK1 (qSR fun K2 hK2=>qMv rfl rfl rfl ?_));clear hK1;clear F a;intro a F
  refine sLr underlying86 rfl ?si F rfl rfl rfl (H.whole 0 rfl) ?_
  case si => exact info_size sizeOf86
  clear F a; intro a F;refine sCall call107 F rfl rfl rfl (indexX_any A C l x _ (hR.own H) hl) ?_;rintro e w ⟨n, rfl, hn, hb⟩;replace H := H.grow hb; clear hb;refine ⟨_, rfl, ?_⟩;clear F a; intro a F;refine sBin F rfl rfl rfl rfl bGeq (qAs rfl rfl rfl (qNK hK2 ?_));clear hK2;clear F a;intro a F;refine wp_ret ?_;refine bRet results53 F rfl ?_
  exact ⟨by rw [show decide (x ∈ l) = decide ((0 : Int) ≤ n) from decide_eq_decide.2 hn.symm], H.below⟩
end Go.Proofs.YtbgnapmaimkpkaaGreatDoor
