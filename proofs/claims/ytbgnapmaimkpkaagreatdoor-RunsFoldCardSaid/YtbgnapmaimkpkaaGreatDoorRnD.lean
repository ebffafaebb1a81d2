/-
  WALK2. Package runs: the way to a state. Conditions: the search has come to its end.
-/
import Derived.Test.YtbgnapmaimkpkaaGreatDoorRnC
import Derived.Test.YtbgnapmaimkpkaaGreatDoorRnS1
import Derived.Test.YtbgnapmaimkpkaaGreatDoorRnG
import Derived.Test.YtbgnapmaimkpkaaGreatDoorRnZ
set_option linter.unusedSimpArgs false
set_option linter.unusedVariables false
namespace Go.Proofs.YtbgnapmaimkpkaaGreatDoor
open Go.RowKit Go.Sort
set_option maxRecDepth 100000
instance : Inhabited Pss := ⟨⟨0, false, 0⟩⟩
theorem back_len (q : List (Int × Pss)) : ∀ f k, (backR q f k).length ≤ f
  | 0, _ => Nat.le_refl _
  | f + 1, k => by
    rw [backR]
    split
    · exact Nat.zero_le _
    · split
      · have := back_len q f
        rw [List.length_append]
        exact Nat.succ_le_succ (this _)
      · exact Nat.zero_le _
theorem link_cells {w : World} {b o : Nat} {g : Int} {x : Pss} (h : w.rangeAt b o (lkC (g, x))) : w.cell? ⟨b, o, none⟩ = some (.int .i64 g) ∧ w.rangeAt b (o + 1) x.cells := by
  refine ⟨by simpa using h 0 _ rfl, fun j v hv => ?_⟩
  have := h (j + 1) v (by unfold lkC; exact hv)
  rwa [show o + (j + 1) = o + 1 + j by omega] at this
theorem rev_any (b c : Nat) (l : List Pss) (w : World) (hw : w.ownsRow 0 86 3 (.slice (some ⟨b, 0, none⟩) l.length c) l.length (l.map Pss.cells).flatten) (hn : l.length ≤ 9223372036854775807) :
    Calls Tryz.prog 101 #[.slice (some ⟨b, 0, none⟩) l.length c] w fun e w' => e = .returned (.tuple #[]) ∧ w.grownBy w' (some b) ∧ w'.ownsRow 0 86 3 (.slice (some ⟨b, 0, none⟩) l.length c) l.reverse.length (l.reverse.map Pss.cells).flatten := by
  have hk : ∀ x : Pss, x.cells.length = 3 := fun _ => rfl
  have hH := holdsOf (enc := Pss.cells) hk (d := l.toArray) (by simpa using hw)
  have hcon := AnyQ.slices_Reverse revPass 3 Tryz.isAgg86 Tryz.sizeOf86 Pss.cells hk (fun x v hv => by simp [Pss.cells] at hv; rcases hv with rfl | rfl | rfl <;> rfl) b 0 c l.toArray w hH (by simpa using hn)
  change Calls Tryz.prog 101 _ _ _ at hcon
  rw [List.size_toArray] at hcon;refine hcon.mono ?_;rintro e w' ⟨rfl, n, rfl⟩
  have hp := putOf (enc := Pss.cells) hk (d := l.toArray) (d' := l.toArray.reverse) (by simpa using hw) (by simp) n #[]
  have hg := sort_grown Pss.cells 3 w b n l.toArray.reverse #[]
  unfold sortWorldK at hp hg
  rw [grow_empty] at hp hg
  exact ⟨rfl, hg, by simpa using hp⟩
theorem rev_own {w0 w : World} {row : Option Nat} {rs : List Res} {A : Option Addr} {c : Nat} {l : List Pss} (H : Own w0 row w rs) (i : Nat) (hi : rs[i]? = some (.rws 86 3 (.slice A l.length c) (l.map Pss.cells))) (hn : l.length ≤ 9223372036854775807) :
    Calls Tryz.prog 101 #[.slice A l.length c] w fun e w' => e = .returned (.tuple #[]) ∧ Own w0 row w' (rs.set i (.rws 86 3 (.slice A l.length c) (l.reverse.map Pss.cells))) := by
  have hw : w.ownsRow 0 86 3 (.slice A l.length c) (l.map Pss.cells).length (l.map Pss.cells).flatten := H.pred i _ hi
  rw [List.length_map] at hw
  have hw2 := hw
  obtain ⟨_, ⟨h1, h2⟩ | ⟨g, cap, cur, h1, _⟩⟩ := hw2
  · have hA : A = none := by simp only [Value.slice.injEq] at h1; exact h1.1
    have hl : l = [] := List.eq_nil_of_length_eq_zero h2
    subst hA;subst hl;refine (AnyQ.slices_Reverse_empty revPass none c w).mono ?_;rintro e w' ⟨rfl, rfl⟩
    refine ⟨rfl, ?_⟩
    have e : rs.set i (.rws 86 3 (.slice none ([] : List Pss).length c) (([] : List Pss).reverse.map Pss.cells)) = rs := by
      apply List.ext_getElem?
      intro j
      rw [List.getElem?_set]
      split
      · rename_i hj
        subst hj
        rw [if_pos (List.getElem?_eq_some_iff.1 hi).1, hi]; rfl
      · rfl
    rw [e]; exact H
  · have hA : A = some ⟨g, 0, none⟩ := by simp only [Value.slice.injEq] at h1; exact h1.1
    subst hA;refine (rev_any g c l w hw hn).mono ?_;rintro e w' ⟨rfl, hg, hp⟩
    exact ⟨rfl, turnedRow H i hi hg (by simpa using hp)⟩
theorem way_len (fd : Fnd) (k : Nat) : (wayR fd k).length ≤ k := back_len _ _ _
theorem run_any (p : Prg) (mc : UInt8) (most : Nat) (fd : Fnd) (hF : FndI p mc most fd.list.length fd) (hm : most ≤ 65536) (k : Nat) (hk : k < fd.list.length) (A1 : Option Addr) (C1 : Nat) (A2 : Option Addr) (C2 : Nat) (A3 : Option Addr) (C3 : Nat) (w0 : World) (hA : RowsAt w0 A2 4 (fd.links.map lkC)) :
    Calls Tryz.prog 48 #[.agg #[.slice A1 fd.list.length C1, .slice A2 fd.links.length C2, .slice A3 fd.ends.length C3], .int .i64 (k : Int)] w0 fun e w' => ∃ A c, e = .returned (.slice A (wayR fd k).length c) ∧ Own w0 none w' [.rws 86 3 (.slice A (wayR fd k).length c) ((wayR fd k).map Pss.cells)] := by
  have H := Own.start w0 none
  have hlen := hF.len
  have hmany := hF.many
  have hwl := way_len fd k
  refine enterF Tryz.func48 rfl Tryz.ntmps48 rfl (fun a F => ?_);refine cSR fun K1 hK1=>?_;refine sBx H F rfl rfl rfl ?_;clear F a H; intro b2 a w F H;refine sAs F rfl rfl rfl (qNK hK1 (qSR fun K2 hK2=>qAs rfl rfl rfl ?_));clear hK1;clear F a;intro a F
  replace H := H.nilRws 86 3
  refine nK hK2 ?_;clear hK2;refine cSeq (fun K3 hK3 => ?_);refine wp_block ?_
  refine cLoopR [2] (fun m ups w => ∃ (j : Nat) (A : Option Addr) (c : Nat) (o : List Pss), m = j + 1 ∧ ups = [(1, .int .i64 ((j : Nat) : Int)), (5, .slice A o.length c)] ∧ j ≤ k ∧ wayR fd k = wayR fd j ++ o.reverse ∧ Own w0 none w [.rws 86 3 (.slice A o.length c) (o.map Pss.cells), .blk b2 [.slice A1 fd.list.length C1, .slice A2 fd.links.length C2, .slice A3 fd.ends.length C3] 113]) F (k + 1) [(1, .int .i64 ((k : Nat) : Int)), (5, .slice none 0 0)] (by repeat (first | exact SubR.nil | (apply SubR.cons; · rfl))) ?_ ?_ ?_
  · exact ⟨k, none, 0, [], rfl, rfl, Nat.le_refl _, by simp, H.sel [0, 1] rfl rfl⟩
  · repeat (first | exact trivial | refine Le.cons rfl ?_)
  clear F
  clear H
  intro m ups a w hI F
  obtain ⟨j, A, c, o, rfl, rfl, hj, hway, H⟩ := hI
  refine cSeq (fun K4 hK4 => ?_);refine cSR fun K5 hK5=>sMv F rfl rfl rfl (qBin rfl rfl rfl rfl bGtr (qNK hK5 ?_));clear hK5;clear F a;intro a F
  refine cIf F rfl (fun h7 => ?_) (fun h7 => ?_)
  ·
   replace h7 := of_decide_eq_true h7
   have hj0 : 0 < j := by omega
   obtain ⟨⟨g, x⟩, hq⟩ : ∃ q, fd.links[j]? = some q := ⟨_, List.getElem?_eq_getElem (by omega)⟩
   obtain ⟨i, rfl, hij, _⟩ := hF.link j g x hj0 hq
   obtain ⟨bL, oL, rfl, hL⟩ := hA j (lkC ((i : Int), x)) (by rw [List.getElem?_map, hq]; rfl)
   have hL2 := link_cells hL
   have hol : o.length ≤ k := by have := congrArg List.length hway; simp at this; omega
   have hws := way_succ hF hj0 hq
   refine wp_skip (hK4 _ _ ?_);clear hK4;refine cSeq (fun K6 hK6 => ?_);refine wp_block ?_;refine cReg (sMv F rfl rfl rfl (qFa (f := 1) (k := 1) Tryz.underlying113 rfl Tryz.sizeOf111 rfl rfl rfl rfl rfl (qLd Tryz.isAgg111 rfl rfl rfl (H.cell 1 rfl rfl) (qMv rfl rfl rfl ?_))));clear F a;intro a F
   refine sIx Tryz.underlying111 Tryz.sizeOf162 F rfl rfl rfl rfl ?_ ?_
   focus omega
   clear F a; intro a F;refine sFa (f := 1) Tryz.underlying162 rfl Tryz.sizeOf86 rfl rfl F rfl rfl rfl ?_;clear F a;intro a F
   refine sLr Tryz.underlying86 rfl ?si F rfl rfl rfl (H.argR hL2.2) ?_
   case si => exact info_size Tryz.sizeOf86
   clear F a; intro a F;refine sBsA H Tryz.underlying58 Tryz.sizeOf86 Tryz.zeroValue86 rfl F rfl rfl rfl rfl rfl ?_;clear F a H; intro b21 a w F H
   refine sApp1 (bytes := 3) H 1 Tryz.underlying58 Tryz.typeInfo86 rfl rfl rfl rfl rfl rfl F rfl rfl rfl rfl rfl (H.whole 0 rfl) rfl ?s1 ?s2 ?_
   case s1 => first | rfl | (repeat (first | exact one_nil | (apply one_cons; · first | rfl | assumption | exact one_bif rfl rfl)))
   case s2 => (rw [List.length_map]; omega)
   clear F a H; intro A22 c22 a w F H;refine sAs F rfl rfl rfl (qNK hK6 (qReg (qFa (f := 1) (k := 1) Tryz.underlying113 rfl Tryz.sizeOf111 rfl rfl rfl rfl rfl (qLd Tryz.isAgg111 rfl rfl rfl (H.cell 2 rfl rfl) (qMv rfl rfl rfl ?_)))));clear hK6;clear F a;intro a F
   refine sIx Tryz.underlying111 Tryz.sizeOf162 F rfl rfl rfl rfl ?_ ?_
   focus omega
   clear F a; intro a F;refine sFa (f := 0) Tryz.underlying162 rfl Tryz.sizeOf3 rfl rfl F rfl rfl rfl (qLd Tryz.isAgg3 rfl rfl rfl (H.arg hL2.1) (qAs rfl rfl rfl ?_));clear F a;intro a F;refine sNil ?_
   have e2 : o.map Pss.cells ++ [x.cells] = (o ++ [x]).map Pss.cells := by rw [List.map_append]; rfl
   have e3 : (o.map Pss.cells ++ [x.cells]).length = (o ++ [x]).length := by rw [e2, List.length_map]
   rw [e3] at F H;rw [e2] at H
   exact ⟨_, by omega, _, ⟨i, A22, c22, o ++ [x], rfl, rfl, by omega, (by rw [hway, hws]; simp), H.sel [1, 2] rfl rfl⟩, F.to (by repeat (first | exact trivial | refine Le.cons rfl ?_))⟩
  replace h7 := of_decide_eq_false h7
  obtain rfl : j = 0 := by omega
  rw [way_zero, List.nil_append] at hway;refine wp_exit ?_;refine hK3 _ _ (cSR fun K7 hK7=>sMv F rfl rfl rfl ?_);clear hK3;clear F a;intro a F;refine sCall Tryz.call101 F rfl rfl rfl (rev_own H 0 rfl (by have := congrArg List.length hway; simp at this; omega)) ?_;rintro e w ⟨rfl, H2⟩
  replace H := H2; clear H2
  refine ⟨_, rfl, ?_⟩;clear F a; intro a F;refine nK hK7 (cSR fun K8 hK8=>sMv F rfl rfl rfl (qAs rfl rfl rfl (qNK hK8 ?_)));clear hK7 hK8;clear F a;intro a F;refine wp_ret ?_;refine bRet Tryz.results48 F rfl ?_
  have ew : o.reverse = wayR fd k := hway.symm
  have el : o.length = (wayR fd k).length := by rw [← ew, List.length_reverse]
  rw [ew, el] at H
  exact ⟨A, c, by rw [el], H.pick 0 rfl⟩
end Go.Proofs.YtbgnapmaimkpkaaGreatDoor
