/-
  slices.Compact of outcomes; verdict.Sort. Conditions: at most 65536 of them.
-/
import Derived.Test.YtbgnapmaimkpkaaGreatDoorRnL
set_option linter.unusedSimpArgs false
set_option linter.unusedVariables false
namespace Go.Proofs.YtbgnapmaimkpkaaGreatDoor
open Go.Proofs.Tryz
open Go.RowKit
set_option maxRecDepth 100000
theorem rowAt {w0 w : World} {row : Option Nat} {rs : List Res} {e : TypeId} {n c gb j : Nat} {arr : List By} {u : By} (H : Own w0 row w rs) (i : Nat) (hi : rs[i]? = some (.rws e 38 (.slice (some ⟨gb, 0, none⟩) n c) (arr.map (bs 38)))) (hj : arr[j]? = some u) {o : Nat} (ho : o = j * 38) : w.rangeAt gb o (bs 38 u) := by
  obtain ⟨b, off, h1, h2⟩ := H.rowsAt i hi (bs38_len arr) (by decide) j (bs 38 u) (by rw [List.getElem?_map, hj]; rfl)
  simp only [Option.some.injEq, Addr.mk.injEq] at h1
  obtain ⟨rfl, rfl, _⟩ := h1
  rw [ho]
  rwa [Nat.zero_add] at h2
theorem own_rowstart {w0 : World} {e : TypeId} {sz n c gb : Nat} {rows : List (List Value)} (hw : w0.ownsRow 0 e sz (.slice (some ⟨gb, 0, none⟩) n c) rows.length rows.flatten) : Own w0 (some gb) w0 [.rws e sz (.slice (some ⟨gb, 0, none⟩) n c) rows] where
  grown := only_refl _ _
  pred := fun i r h => by
    cases i with
    | zero => cases h; exact hw
    | succ i => simp at h
  foot := fun i r h b hb => by
    cases i with
    | zero =>
      cases h
      have hb : Value.ownBlock (.slice (some ⟨gb, 0, none⟩) n c) = some b := hb
      have hb2 := hb
      simp only [Value.ownBlock, Option.some.injEq] at hb
      subst hb
      exact ⟨.inr rfl, (hw.lt _ hb2).2⟩
    | succ i => simp at h
  apart := fun i j r s hi hj hij => by
    have : i = 0 := by have := (List.getElem?_eq_some_iff.1 hi).1; simpa using this
    have : j = 0 := by have := (List.getElem?_eq_some_iff.1 hj).1; simpa using this
    omega
theorem same_comm (n : Nat) (f g : By) : same n f g = same n g f := by
  rw [Bool.eq_iff_iff, same_iff, same_iff]
  exact ⟨fun h i hi => (h i hi).symm, fun h i hi => (h i hi).symm⟩
def tl (l : List By) : List (List UInt8) := l.map (toL 38)
theorem tl_snoc {l : List By} {j : Nat} {u : By} (h : l[j]? = some u) : tl (l.take (j + 1)) = tl (l.take j) ++ [toL 38 u] := by
  unfold tl
  rw [List.take_add_one, h, List.map_append]; rfl
theorem tl_last {l : List By} {j : Nat} {u : By} (h1 : 1 ≤ j) (h : l[j - 1]? = some u) : (tl (l.take j)).getLast? = some (toL 38 u) := by
  obtain ⟨j, rfl⟩ : ∃ i, j = i + 1 := ⟨j - 1, by omega⟩
  have h : l[j]? = some u := h
  rw [tl_snoc h]; simp
theorem tl_step {l : List By} {j : Nat} {u v : By} (h1 : 1 ≤ j) (hv : l[j - 1]? = some v) (hu : l[j]? = some u) : compactL (tl (l.take (j + 1))) = if toL 38 v = toL 38 u then compactL (tl (l.take j)) else compactL (tl (l.take j)) ++ [toL 38 u] := by
  rw [tl_snoc hu, compact_snoc (tl_last h1 hv)]
theorem tl_short {l : List By} (h : l.length < 2) : tl l = compactL (tl l) := by
  match l, h with
  | [], _ => rfl
  | [_], _ => rfl
theorem compact_any (gb c : Nat) (l : List By) (hl : l.length ≤ 65536) (w0 : World) (hw : w0.ownsRow 0 47 38 (.slice (some ⟨gb, 0, none⟩) l.length c) (l.map (bs 38)).length (l.map (bs 38)).flatten) :
    Calls Tryz.prog 100 #[.slice (some ⟨gb, 0, none⟩) l.length c] w0 fun e w' => ∃ l2 : List By, tl l2 = compactL (tl l) ∧ e = .returned (.slice (some ⟨gb, 0, none⟩) l2.length c) ∧ Own w0 (some gb) w' [.rws 47 38 (.slice (some ⟨gb, 0, none⟩) l2.length c) (l2.map (bs 38))] := by
  have H := own_rowstart hw
  refine enterF func100 rfl ntmps100 rfl (fun a F => ?_);refine cSR fun K1 hK1=>sAs F rfl rfl rfl (qNK hK1 ?_);clear hK1;clear F a;intro a F;refine cSeq (fun K2 hK2 => ?_);refine cSR fun K3 hK3=>sMv F rfl rfl rfl (qLen underlying30 rfl rfl rfl (qBin rfl rfl rfl rfl bLss (qNK hK3 ?_)));clear hK3;clear F a;intro a F
  refine cIf F rfl (fun h8 => ?_) (fun h8 => ?_)
  ·
   replace h8 := of_decide_eq_true h8;refine cSR fun K4 hK4=>sMv F rfl rfl rfl (qAs rfl rfl rfl (qNK hK4 ?_));clear hK4;clear F a;intro a F;refine wp_ret ?_;simp only [Exit.then];refine bRet results100 F rfl ?_
   first
   | (rw [← List.map_take] at H
      have el : (arr.take kk).length = kk := by rw [List.length_take]; omega
      have et : l.take (k + q) = l := List.take_of_length_le (by omega)
      rw [et] at htl
      exact ⟨arr.take kk, htl, by rw [el], by rw [el]; exact H.pick 0 rfl⟩)
   | (obtain rfl : k = l.length := by omega
      rw [List.take_length] at hcm
      exact ⟨l, hcm.symm, rfl, H.pick 0 rfl⟩)
   | exact ⟨l, tl_short (by omega), rfl, H.pick 0 rfl⟩
  replace h8 := of_decide_eq_false h8;refine wp_skip (hK2 _ _ ?_);clear hK2;refine cSeq (fun K5 hK5 => ?_);refine cSR fun K6 hK6=>sAs F rfl rfl rfl (qNK hK6 ?_);clear hK6;clear F a;intro a F;refine wp_block ?_
  refine cLoopR [0] (fun m ups w => ∃ k : Nat, m = l.length - k ∧ ups = [(3, .int .i64 ((k : Nat) : Int))] ∧ 1 ≤ k ∧ k ≤ l.length ∧ compactL (tl (l.take k)) = tl (l.take k) ∧ Own w0 (some gb) w [.rws 47 38 (.slice (some ⟨gb, 0, none⟩) l.length c) (l.map (bs 38))]) F (l.length - 1) [(3, .int .i64 ((1 : Nat) : Int))] (by repeat (first | exact SubR.nil | (apply SubR.cons; · rfl))) ?_ ?_ ?_
  · exact ⟨1, rfl, rfl, by omega, by omega, (by match l with | [] => rfl | _ :: _ => rfl), H.sel [0] rfl rfl⟩
  · repeat (first | exact trivial | refine Le.cons rfl ?_)
  clear F
  clear H
  intro m ups a w hI F
  obtain ⟨k, rfl, rfl, hk1, hkn, hcm, H⟩ := hI
  have hlc := (H.rwsLen 0 rfl).2.1
  refine cSeq (fun K7 hK7 => ?_);refine cSR fun K8 hK8=>sMv F rfl rfl rfl (qMv rfl rfl rfl (qLen underlying30 rfl rfl rfl (qBin rfl rfl rfl rfl bLss (qNK hK8 ?_))));clear hK8;clear F a;intro a F
  refine cIf F rfl (fun h13 => ?_) (fun h13 => ?_)
  ·
   replace h13 := of_decide_eq_true h13
   have hkl : k < l.length := by omega
   obtain ⟨u, hu⟩ : ∃ u, l[k]? = some u := ⟨_, List.getElem?_eq_getElem hkl⟩
   obtain ⟨v, hv⟩ : ∃ v, l[k - 1]? = some v := ⟨_, List.getElem?_eq_getElem (by omega)⟩
   have hst := tl_step hk1 hv hu
   refine wp_skip (hK7 _ _ ?_);clear hK7;refine cSeq (fun K9 hK9 => ?_);refine wp_block ?_;refine cSeq (fun K10 hK10 => ?_);refine cRegDO (by kernel_rfl) H ?_;replace H := H.drew;refine dTake (by kernel_rfl) (by kernel_rfl) F rfl rfl rfl (fun w H=>rMv F rfl) H qq0 (qDT (by kernel_rfl) (by kernel_rfl) rfl rfl rfl (fun a F w H=>rMv F rfl) H qq0 ?_);clear F a;intro a F
   refine dTake (k := 2) (by kernel_rfl) (by kernel_rfl) F rfl rfl rfl (fun w H => rIx underlying30 sizeOf47 F rfl rfl ?_) H (fun _ _ _ h => h) ?_
   focus exact hkl
   clear F a; intro a F;refine dTake (by kernel_rfl) (by kernel_rfl) F rfl rfl rfl (fun w H=>rLrB underlying47 rfl sizeOf47 F rfl (rowAt H 0 rfl hu (by omega))) H qq0 (qDT (by kernel_rfl) (by kernel_rfl) rfl rfl rfl (fun a F w H=>rMv F rfl) H qq0 (qDT (by kernel_rfl) (by kernel_rfl) rfl rfl rfl (fun a F w H=>rMv F rfl) H qq0 ?_));clear F a;intro a F
   refine dTake (k := 6) (by kernel_rfl) (by kernel_rfl) F rfl rfl rfl (fun w H => rBin F rfl rfl (bSubN (j := 1) ?_ ?_)) H (fun _ _ _ h => h) ?_
   focus omega
   focus omega
   clear F a; intro a F
   refine dTake (k := 7) (by kernel_rfl) (by kernel_rfl) F rfl rfl rfl (fun w H => rIx underlying30 sizeOf47 F rfl rfl ?_) H (fun _ _ _ h => h) ?_
   focus omega
   clear F a; intro a F;refine dTake (by kernel_rfl) (by kernel_rfl) F rfl rfl rfl (fun w H=>rLrB underlying47 rfl sizeOf47 F rfl (rowAt H 0 rfl hv (by omega))) H qq0 (qDT (by kernel_rfl) (by kernel_rfl) rfl rfl rfl (fun a F w H=>rBin F rfl rfl (bEqY eT47 gT47 rfl)) H qq0 ?_);clear F a;intro a F
   refine dNil (k := 10) ?_ rfl
   refine hK10 _ _ ?_;clear hK10
   refine cIf F rfl (fun h25 => ?_) (fun h25 => ?_)
   ·
    have heq : toL 38 v = toL 38 u := by rw [toL_eq, same_comm]; exact h25
    refine cSR fun K11 hK11=>sMv F rfl rfl rfl (qMv rfl rfl rfl ?_);clear F a;intro a F
    refine sSlL underlying30 sizeOf47 F rfl rfl rfl rfl ?_ ?_ ?_
    focus (first | omega | decide | (simp; omega))
    focus (first | omega | decide | (simp; omega))
    clear F a; intro a F;refine sAs F rfl rfl rfl (qNK hK11 ?_);clear hK11;clear F a;intro a F;refine cSeq (fun K12 hK12 => ?_);refine cSR fun K13 hK13=>sAs F rfl rfl rfl (qNK hK13 ?_);clear hK13;clear F a;intro a F;refine wp_block ?_
    refine cLoopR [0, 4] (fun m ups w => ∃ (q kk : Nat) (arr : List By), m = l.length - (k + q) ∧ ups = [(3, .int .i64 ((kk : Nat) : Int)), (5, .int .i64 ((q : Nat) : Int))] ∧ 1 ≤ q ∧ k + q ≤ l.length ∧ 1 ≤ kk ∧ kk + 1 ≤ k + q ∧ arr.length = l.length ∧ tl (arr.take kk) = compactL (tl (l.take (k + q))) ∧ (∀ t, kk ≤ t → arr[t]? = l[t]?) ∧ Own w0 (some gb) w [.rws 47 38 (.slice (some ⟨gb, 0, none⟩) l.length c) (arr.map (bs 38))]) F (l.length - (k + 1)) [(3, .int .i64 ((k : Nat) : Int)), (5, .int .i64 ((1 : Nat) : Int))] (by repeat (first | exact SubR.nil | (apply SubR.cons; · rfl))) ?_ ?_ ?_
    · exact ⟨1, k, l, rfl, rfl, by omega, by omega, by omega, by omega, rfl, (by rw [hst, if_pos heq, hcm]), fun _ _ => rfl, H.sel [0] rfl rfl⟩
    · repeat (first | exact trivial | refine Le.cons rfl ?_)
    clear F
    clear H
    intro m ups a w hI F
    obtain ⟨q, kk, arr, rfl, rfl, hq1, hqn, hkk1, hkk, har, htl, hup, H⟩ := hI
    refine cSeq (fun K14 hK14 => ?_);refine cSR fun K15 hK15=>sMv F rfl rfl rfl (qMv rfl rfl rfl (qLen underlying30 rfl rfl rfl (qBin rfl rfl rfl rfl bLss (qNK hK15 ?_))));clear hK15;clear F a;intro a F
    refine cIf F rfl (fun h32 => ?_) (fun h32 => ?_)
    ·
     replace h32 := of_decide_eq_true h32
     have hql : k + q < l.length := by omega
     obtain ⟨x, hx⟩ : ∃ x, l[k + q]? = some x := ⟨_, List.getElem?_eq_getElem hql⟩
     obtain ⟨y, hy⟩ : ∃ y, l[k + q - 1]? = some y := ⟨_, List.getElem?_eq_getElem (by omega)⟩
     have hst2 := tl_step (by omega) hy hx
     have hx2 : arr[k + q]? = some x := by rw [hup _ (by omega)]; exact hx
     have hy2 : arr[k + q - 1]? = some y := by rw [hup _ (by omega)]; exact hy
     refine wp_skip (hK14 _ _ ?_);clear hK14;refine cSeq (fun K16 hK16 => ?_);refine wp_block ?_;refine cSeq (fun K17 hK17 => ?_);refine cRegDO (by kernel_rfl) H ?_;replace H := H.drew;refine dTake (by kernel_rfl) (by kernel_rfl) F rfl rfl rfl (fun w H=>rMv F rfl) H qq0 (qDT (by kernel_rfl) (by kernel_rfl) rfl rfl rfl (fun a F w H=>rMv F rfl) H qq0 ?_);clear F a;intro a F
     refine dTake (k := 2) (by kernel_rfl) (by kernel_rfl) F rfl rfl rfl (fun w H => rIx underlying30 sizeOf47 F rfl rfl ?_) H (fun _ _ _ h => h) ?_
     focus omega
     clear F a; intro a F;refine dTake (by kernel_rfl) (by kernel_rfl) F rfl rfl rfl (fun w H=>rLrB underlying47 rfl sizeOf47 F rfl (rowAt H 0 rfl hx2 (by omega))) H qq0 (qDT (by kernel_rfl) (by kernel_rfl) rfl rfl rfl (fun a F w H=>rMv F rfl) H qq0 (qDT (by kernel_rfl) (by kernel_rfl) rfl rfl rfl (fun a F w H=>rMv F rfl) H qq0 ?_));clear F a;intro a F
     refine dTake (k := 6) (by kernel_rfl) (by kernel_rfl) F rfl rfl rfl (fun w H => rBin F rfl rfl (bSubN (j := 1) ?_ ?_)) H (fun _ _ _ h => h) ?_
     focus omega
     focus omega
     clear F a; intro a F
     refine dTake (k := 7) (by kernel_rfl) (by kernel_rfl) F rfl rfl rfl (fun w H => rIx underlying30 sizeOf47 F rfl rfl ?_) H (fun _ _ _ h => h) ?_
     focus omega
     clear F a; intro a F;refine dTake (by kernel_rfl) (by kernel_rfl) F rfl rfl rfl (fun w H=>rLrB underlying47 rfl sizeOf47 F rfl (rowAt H 0 rfl hy2 (by omega))) H qq0 (qDT (by kernel_rfl) (by kernel_rfl) rfl rfl rfl (fun a F w H=>rBin F rfl rfl (bNeY eT47 gT47 rfl)) H qq0 ?_);clear F a;intro a F
     refine dNil (k := 10) ?_ rfl
     refine hK17 _ _ ?_;clear hK17
     refine cIf F rfl (fun h44 => ?_) (fun h44 => ?_)
     ·
      replace h44 := notT h44;refine cSR fun K18 hK18=>sMv F rfl rfl rfl (qMv rfl rfl rfl (qMv rfl rfl rfl (qMv rfl rfl rfl ?_)));clear F a;intro a F
      refine sIx underlying30 sizeOf47 F rfl rfl rfl rfl ?_ ?_
      focus omega
      clear F a; intro a F;refine sLrB underlying47 rfl sizeOf47 F rfl rfl rfl (rowAt H 0 rfl hx2 (by omega)) ?_;clear F a;intro a F
      refine sIx underlying30 sizeOf47 F rfl rfl rfl rfl ?_ ?_
      focus omega
      clear F a; intro a F;refine sStR H 0 sizeOf47 F rfl rfl rfl rfl ((show _ = kk * 38 by omega)) ((by rw [List.length_map]; omega)) (bs38_len arr) (bs_length _ _) (bs38_one [x] (bs 38 x) (by simp)) ?_;clear H; intro w H;rw [← List.map_set] at H;refine nK hK18 (cReg (sMv F rfl rfl rfl ?_));clear hK18;clear F a;intro a F
      refine sBin F rfl rfl rfl rfl (bAddN (j := 1) ?_) ?_
      focus omega
      clear F a; intro a F;refine sAs F rfl rfl rfl (qNK hK16 (qReg (qMv rfl rfl rfl ?_)));clear hK16;clear F a;intro a F
      refine sBin F rfl rfl rfl rfl (bAddN (j := 1) ?_) ?_
      focus omega
      clear F a; intro a F;refine sAs F rfl rfl rfl ?_;clear F a;intro a F;refine sNil ?_
      first
      | (have hne : ¬ toL 38 y = toL 38 x := fun he => by
          rw [toL_eq, same_comm] at he
          exact absurd he (by simpa using h44)
         exact ⟨_, by omega, _, ⟨q + 1, kk + 1, arr.set kk x, rfl, rfl, by omega, by omega, by omega, by omega, (by rw [List.length_set]; exact har), (by
          rw [show k + (q + 1) = k + q + 1 by omega, hst2, if_neg hne, ← htl]
          rw [tl_snoc (u := x) (by rw [List.getElem?_set, if_pos rfl, if_pos (by omega)]), List.take_set_of_le (Nat.le_refl _)]), fun t ht => (by rw [List.getElem?_set, if_neg (by omega)]; exact hup t (by omega)), H.sel [0] rfl rfl⟩, F.to (by repeat (first | exact trivial | refine Le.cons rfl ?_))⟩)
      | (have heq2 : toL 38 y = toL 38 x := by
          rw [toL_eq, same_comm]; simpa using h44
         exact ⟨_, by omega, _, ⟨q + 1, kk, arr, rfl, rfl, by omega, by omega, by omega, by omega, har, (by rw [show k + (q + 1) = k + q + 1 by omega, hst2, if_pos heq2]; exact htl), hup, H.sel [0] rfl rfl⟩, F.to (by repeat (first | exact trivial | refine Le.cons rfl ?_))⟩)
     replace h44 := notF h44;refine wp_skip (hK16 _ _ (cReg (sMv F rfl rfl rfl ?_)));clear hK16;clear F a;intro a F
     refine sBin F rfl rfl rfl rfl (bAddN (j := 1) ?_) ?_
     focus omega
     clear F a; intro a F;refine sAs F rfl rfl rfl ?_;clear F a;intro a F;refine sNil ?_
     first
     | (have hne : ¬ toL 38 y = toL 38 x := fun he => by
         rw [toL_eq, same_comm] at he
         exact absurd he (by simpa using h44)
        exact ⟨_, by omega, _, ⟨q + 1, kk + 1, arr.set kk x, rfl, rfl, by omega, by omega, by omega, by omega, (by rw [List.length_set]; exact har), (by
         rw [show k + (q + 1) = k + q + 1 by omega, hst2, if_neg hne, ← htl]
         rw [tl_snoc (u := x) (by rw [List.getElem?_set, if_pos rfl, if_pos (by omega)]), List.take_set_of_le (Nat.le_refl _)]), fun t ht => (by rw [List.getElem?_set, if_neg (by omega)]; exact hup t (by omega)), H.sel [0] rfl rfl⟩, F.to (by repeat (first | exact trivial | refine Le.cons rfl ?_))⟩)
     | (have heq2 : toL 38 y = toL 38 x := by
         rw [toL_eq, same_comm]; simpa using h44
        exact ⟨_, by omega, _, ⟨q + 1, kk, arr, rfl, rfl, by omega, by omega, by omega, by omega, har, (by rw [show k + (q + 1) = k + q + 1 by omega, hst2, if_pos heq2]; exact htl), hup, H.sel [0] rfl rfl⟩, F.to (by repeat (first | exact trivial | refine Le.cons rfl ?_))⟩)
    replace h32 := of_decide_eq_false h32
    have hqe : k + q = l.length := by omega
    refine wp_exit ?_;refine hK12 _ _ (cSR fun K19 hK19=>sMv F rfl rfl rfl (qMv rfl rfl rfl ?_));clear hK12;clear F a;intro a F
    refine sSlL underlying30 sizeOf47 F rfl rfl rfl rfl ?_ ?_ ?_
    focus (first | omega | decide | (simp; omega))
    focus (first | omega | decide | (simp; omega))
    clear F a; intro a F;refine sClr H 0 underlying30 zeroValue47 rfl rfl F rfl rfl rfl ((show _ = kk * 38 by omega)) ((by omega)) (bs38_len arr) ?_;clear H; intro w H;refine nK hK19 (cSR fun K20 hK20=>sMv F rfl rfl rfl (qMv rfl rfl rfl ?_));clear hK19;clear F a;intro a F
    refine sSlH underlying30 (fun w => ⟨_, sizeOf47 w⟩) F rfl rfl rfl rfl ?_ ?_
    focus (first | omega | decide | (simp; omega))
    clear F a; intro a F;refine sAs F rfl rfl rfl (qNK hK20 ?_);clear hK20;clear F a;intro a F;refine wp_ret ?_;simp only [Exit.inBlock, Exit.then];refine bRet results100 F rfl ?_
    first
    | (rw [← List.map_take] at H
       have el : (arr.take kk).length = kk := by rw [List.length_take]; omega
       have et : l.take (k + q) = l := List.take_of_length_le (by omega)
       rw [et] at htl
       exact ⟨arr.take kk, htl, by rw [el], by rw [el]; exact H.pick 0 rfl⟩)
    | (obtain rfl : k = l.length := by omega
       rw [List.take_length] at hcm
       exact ⟨l, hcm.symm, rfl, H.pick 0 rfl⟩)
    | exact ⟨l, tl_short (by omega), rfl, H.pick 0 rfl⟩
   refine wp_skip (hK9 _ _ (cReg (sMv F rfl rfl rfl ?_)));clear hK9;clear F a;intro a F
   refine sBin F rfl rfl rfl rfl (bAddN (j := 1) ?_) ?_
   focus omega
   clear F a; intro a F;refine sAs F rfl rfl rfl ?_;clear F a;intro a F;refine sNil ?_
   (have hne : ¬ toL 38 v = toL 38 u := fun he => by
     rw [toL_eq, same_comm] at he
     rw [h25] at he; cases he
    exact ⟨_, by omega, _, ⟨k + 1, rfl, rfl, by omega, by omega, (by rw [hst, if_neg hne, hcm, tl_snoc hu]), H.sel [0] rfl rfl⟩, F.to (by repeat (first | exact trivial | refine Le.cons rfl ?_))⟩)
  replace h13 := of_decide_eq_false h13;refine wp_exit ?_;refine hK5 _ _ (cSR fun K21 hK21=>sMv F rfl rfl rfl (qAs rfl rfl rfl (qNK hK21 ?_)));clear hK5 hK21;clear F a;intro a F;refine wp_ret ?_;refine bRet results100 F rfl ?_
  first
  | (rw [← List.map_take] at H
     have el : (arr.take kk).length = kk := by rw [List.length_take]; omega
     have et : l.take (k + q) = l := List.take_of_length_le (by omega)
     rw [et] at htl
     exact ⟨arr.take kk, htl, by rw [el], by rw [el]; exact H.pick 0 rfl⟩)
  | (obtain rfl : k = l.length := by omega
     rw [List.take_length] at hcm
     exact ⟨l, hcm.symm, rfl, H.pick 0 rfl⟩)
  | exact ⟨l, tl_short (by omega), rfl, H.pick 0 rfl⟩
theorem tl_len (l : List By) : (tl l).length = l.length := List.length_map _
theorem compact_len : ∀ l : List (List UInt8), (compactL l).length ≤ l.length
  | [] => Nat.le_refl _
  | [_] => Nat.le_refl _
  | a :: b :: r => by
    have := compact_len (b :: r)
    rw [compactL]
    split
    · simp only [List.length_cons] at this ⊢; omega
    · simp only [List.length_cons] at this ⊢; omega
theorem compact_own {w0 w : World} {row : Option Nat} {rs : List Res} {A : Option Addr} {c : Nat} {l : List By} (H : Own w0 row w rs) (i : Nat) (hi : rs[i]? = some (.rws 47 38 (.slice A l.length c) (l.map (bs 38)))) (hn : l.length ≤ 65536) (h0 : l ≠ []) :
    Calls Tryz.prog 100 #[.slice A l.length c] w fun e w' => ∃ l2 : List By, tl l2 = compactL (tl l) ∧ e = .returned (.slice A l2.length c) ∧ Own w0 row w' (rs.set i (.rws 47 38 (.slice A l2.length c) (l2.map (bs 38)))) := by
  have hw : w.ownsRow 0 47 38 (.slice A l.length c) (l.map (bs 38)).length (l.map (bs 38)).flatten := H.pred i _ hi
  have hw2 := hw
  rw [List.length_map] at hw2
  obtain ⟨_, ⟨h1, h2⟩ | ⟨g, cap, cur, h1, _, hg, _⟩⟩ := hw2
  · exact absurd (List.eq_nil_of_length_eq_zero h2) h0
  · have hA : A = some ⟨g, 0, none⟩ := by simp only [Value.slice.injEq] at h1; exact h1.1
    subst hA;refine (compact_any g c l hn w hw).mono ?_;rintro e w' ⟨l2, h3, rfl, H2⟩
    exact ⟨l2, h3, rfl, turnedRow H i hi H2.grown (H2.pred 0 _ rfl)⟩
theorem sort_any (A : Option Addr) (C : Nat) (l : List By) (w0 : World) (hR : RowsAt w0 A 38 (l.map (bs 38))) (hl : l.length ≤ 65536) (h0 : l ≠ []) :
    Calls Tryz.prog 47 #[.slice A l.length C] w0 fun e w' => ∃ (A2 : Option Addr) (c2 : Nat) (l2 : List By), e = .returned (.slice A2 l2.length c2) ∧ l2.length ≤ l.length ∧ Rising (tl l2) ∧ (∀ x, x ∈ tl l2 ↔ x ∈ tl l) ∧ Own w0 none w' [.rws 47 38 (.slice A2 l2.length c2) (l2.map (bs 38))] := by
  have H := Own.start w0 none
  refine enterF func47 rfl ntmps47 rfl (fun a F => ?_);refine cSR fun K1 hK1=>sAs F rfl rfl rfl (qNK hK1 (qSR fun K2 hK2=>qMv rfl rfl rfl ?_));clear hK1;clear F a;intro a F;refine sBs H underlying200 sizeOf30 zeroValue30 rfl F rfl rfl rfl rfl rfl ?_;clear F a H; intro b5 a w F H;refine sCall call97 F rfl rfl rfl (concat_any b5 0 1 A C l _ (H.whole 0 rfl) (hR.own H) hl) ?_;rintro e w ⟨A1, c1, rfl, H2⟩;replace H := H.join H2; clear H2;refine ⟨_, rfl, ?_⟩;clear F a; intro a F;refine sAs F rfl rfl rfl (qNK hK2 (qSR fun K3 hK3=>qMv rfl rfl rfl ?_));clear hK2;clear F a;intro a F;refine sCall call98 F rfl rfl rfl (sort_own H 0 rfl hl h0) ?_;rintro e w ⟨rfl, l', hl', hm', hp', H2⟩
  replace H := H2; clear H2; rw [hl'] at H
  refine ⟨_, rfl, ?_⟩;clear F a; intro a F;refine nK hK3 (cSR fun K4 hK4=>sMv F rfl rfl rfl ?_);clear hK3;clear F a;intro a F;refine sCall call100 F rfl rfl rfl ((by have := compact_own (l := l') H 0 (by rw [hl']; rfl) (by omega) (by intro e; rw [e] at hl'; exact h0 (List.eq_nil_of_length_eq_zero hl'.symm)); rw [hl'] at this; exact this)) ?_;rintro e w ⟨l2, h2, rfl, H2⟩
  replace H := H2; clear H2
  refine ⟨_, rfl, ?_⟩;clear F a; intro a F;refine sAs F rfl rfl rfl (qNK hK4 ?_);clear hK4;clear F a;intro a F;refine wp_ret ?_;refine bRet results47 F rfl ?_
  have hris : Rising (tl l2) := by
   rw [h2]
   exact compact_rising (by unfold tl; rw [List.pairwise_map]; exact hp')
  have hmem : ∀ x, x ∈ tl l2 ↔ x ∈ tl l := fun x => by
   rw [h2, compact_mem]
   unfold tl
   rw [List.mem_map, List.mem_map]
   exact ⟨fun ⟨y, hy, e⟩ => ⟨y, (hm' y).1 hy, e⟩, fun ⟨y, hy, e⟩ => ⟨y, (hm' y).2 hy, e⟩⟩
  have hle : l2.length ≤ l.length := by
   have := compact_len (tl l')
   rw [← h2, tl_len, tl_len] at this
   omega
  exact ⟨A1, c1, l2, rfl, hle, hris, hmem, H.pick 0 rfl⟩
end Go.Proofs.YtbgnapmaimkpkaaGreatDoor
