/-
  The law LexTypes. Conditions: the slice holds tokens, each with a kind that fits a byte and a text of at most 2^47 bytes.
-/
import Derived.Test.YtckpkgnnbnfoeaaCopy
import Derived.Test.YtckpkgnnbnfoeaaLawBack
import Derived.Laws.AppendOwnNone
namespace Go.Proofs.Ytckpkgnnbnfoeaa
open Go.RowKit

/-- The bytes of all texts. -/
def sumT : List AT → Nat
  | [] => 0
  | t :: r => t.text.size + sumT r
theorem sumT_append (a b : List AT) : sumT (a ++ b) = sumT a + sumT b := by
  induction a with
  | nil => simp [sumT]
  | cons t r ih => rw [List.cons_append, sumT, sumT, ih]; omega
theorem sumT_take {ts : List AT} {j : Nat} {t : AT} (h : ts[j]? = some t) : sumT (ts.take (j + 1)) = sumT (ts.take j) + t.text.size := by
  rw [take_snoc h, sumT_append]; rfl
theorem typeG_sum : ∀ (ts : List AT) (wi : Bool), (typeG wi ts).length ≤ sumT ts + 2 * ts.length
  | [], _ => by simp [typeG]
  | t :: r, wi => by
    have h1 := typeG_sum r false
    have h2 := typeG_sum r true
    have hz : t.text.data.toList.length = t.text.size := Array.length_toList
    rw [typeG, sumT, List.length_cons]
    split
    · rw [List.length_cons]; omega
    · rw [List.length_append, List.length_append, hz]
      split
      · simp; omega
      · simp; omega

theorem flat3_len {α : Type} (f : α → List Value) (hf : ∀ t, (f t).length = 3) : ∀ ts : List α, (ts.flatMap f).length = ts.length * 3
  | [] => rfl
  | t :: r => by rw [List.flatMap_cons, List.length_append, hf, flat3_len f hf r, List.length_cons]; omega
theorem cells_one (ts : List AT) : ∀ u ∈ ts.flatMap AT.cells, u.oneCell' = true := by
  intro u hu
  obtain ⟨t, _, h⟩ := List.mem_flatMap.1 hu
  simp only [AT.cells, List.mem_cons, List.not_mem_nil, or_false] at h
  rcases h with rfl | rfl | rfl <;> rfl
theorem cells_have {w : World} {a : Addr} {n : Nat} {ts : List AT} (h : TokGen w (some a) n ts) : ∀ j u, (ts.flatMap AT.cells)[j]? = some u → w.cell? (a.add j) = some u := by
  intro j u hj
  have hl : j < ts.length * 3 := by rw [← flat3_len AT.cells (fun _ => rfl)]; exact (List.getElem?_eq_some_iff.1 hj).1
  obtain ⟨t, ht⟩ : ∃ t, ts[j / 3]? = some t := ⟨_, List.getElem?_eq_getElem (by omega)⟩
  obtain ⟨b, o, he, _, c0, c1, c2⟩ := h.2 (j / 3) t ht
  cases he
  have hf := flat3_get AT.cells (fun _ => rfl) ts (j / 3) t ht (j % 3) (by omega)
  rw [show j / 3 * 3 + j % 3 = j from by omega, hj] at hf
  have hadd : (⟨b, o, none⟩ : Addr).add j = ⟨b, o + j / 3 * 3 + j % 3, none⟩ := by
    rw [Nat.add_assoc, show j / 3 * 3 + j % 3 = j from by omega]; simp [Addr.add]
  rw [hadd]
  rcases (by omega : j % 3 = 0 ∨ j % 3 = 1 ∨ j % 3 = 2) with h3 | h3 | h3
  · rw [h3] at hf ⊢; rw [Nat.add_zero, c0]; exact hf.symm
  · rw [h3] at hf ⊢; rw [c1]; exact hf.symm
  · rw [h3] at hf ⊢; rw [c2]; exact hf.symm
theorem has_owns {w : World} {base n : Nat} {sv : Value} {ts : List AT} {xs : List Value} (hn : ts.length = n) (h : w.ownsRow base 27 3 sv n xs) (hx : xs = ts.flatMap AT.cells) : ∃ A' n' C', sv = .slice A' n' C' ∧ Has w A' n' C' ts := by
  subst hn hx
  rcases owns_split h with ⟨h0, a, c, hv⟩ | ⟨g, cap, hv⟩
  · subst hv
    exact ⟨a, 0, c, rfl, .inl ⟨List.length_eq_zero_iff.1 h0, a, c, rfl⟩, fun k hk => (h.lt k hk).2⟩
  · subst hv
    refine ⟨_, _, cap, rfl, .inr ⟨g, 0, cap, rfl, ?_⟩, fun k hk => (h.lt k hk).2⟩
    intro j t ht
    have hj : j < ts.length := (List.getElem?_eq_some_iff.1 ht).1
    have c := fun i (hi : i < 3) => (h.cellAt (j * 3 + i) (by omega)).trans (flat3_get AT.cells (fun _ => rfl) ts j t ht i hi)
    simp only [Nat.zero_add]
    exact ⟨c 0 (by omega), c 1 (by omega), c 2 (by omega)⟩
theorem theirs_read {w : World} {base : Nat} {sv : Value} {ts : List AT} (h : w.ownsRow base 59 3 sv ts.length (ts.flatMap AT.rcells)) :
    ∃ ra rn rc, sv = .slice ra rn rc ∧ RTokRead w (.slice ra rn rc) ts ∧ ∀ k, (Value.slice ra rn rc).ownBlock = some k → k < w.heap.size := by
  have hr := rtokRead_owns rfl h
  rcases owns_split h with ⟨_, a, c, hv⟩ | ⟨g, cap, hv⟩
  · subst hv; exact ⟨a, 0, c, rfl, hr, fun k hk => (h.lt k hk).2⟩
  · subst hv; exact ⟨_, _, cap, rfl, hr, fun k hk => (h.lt k hk).2⟩
/-- Behind an append to a block that lies above the tokens' one. -/
theorem TokGen.grown {w w1 : World} {A : Option Addr} {n : Nat} {ts : List AT} {X : Obj} (h : TokGen w A n ts) (g : Nat) (hg : (w.alloc X).grownBy w1 (some g)) (hgw : g = w.heap.size) : TokGen w1 A n ts := by
  subst hgw
  exact h.below (((Below.refl _ _).alloc (Nat.le_refl _) X).grown hg (by simp) (fun k hk => by cases hk; exact Nat.le_refl _))

set_option maxRecDepth 100000 in
set_option maxHeartbeats 4000000 in
theorem lexTypes_any (A : Option Addr) (n C : Nat) (ts : List AT) (w : World) (hgen : TokGen w A n ts) (hk : KindsOk ts) (hsz : ∀ t ∈ ts, t.text.size ≤ 140737488355328) (hn63 : n ≤ maxLen) (hnil : A = none → C = 0) :
    Calls Try.prog 5 #[.slice A n C] w fun e w' => e = .returned (.bool true) ∧ Below w.heap.size w w' := by
  unfold maxLen at hn63
  have Hn := Lib.hid hgen.1
  have HG := Lib.hid hgen
  have Hk := Lib.hid hk
  have Hsz := Lib.hid hsz
  have hbw := Below.refl w.heap.size w
  clear hgen hk hsz
  go_enter Try.func5, Try.ntmps5
  go_wp2
  go_loopg [3, 4] n (fun m u i wr => ∃ (j S : Nat), Hid (m = n - j) ∧ u = .int .i64 S ∧ i = .int .i64 j ∧ j ≤ n ∧ Hid (S = sumT (ts.take j)) ∧ S ≤ 140737488360328 ∧ Below w.heap.size w wr)
  case atStart => exact ⟨0, 0, Lib.hid rfl, rfl, rfl, Nat.zero_le _, Lib.hid rfl, by omega, hbw⟩
  case round =>
    clear hbw
    obtain ⟨j, S, hm, rfl, rfl, hj, HS, hS, hbw⟩ := hrel
    by_cases hlt : j < n
    · by_cases h5 : S ≤ 5000
      · obtain ⟨⟨kd, tx, ps⟩, ht⟩ : ∃ t, ts[j]? = some t := ⟨_, List.getElem?_eq_getElem (by rw [← Hn.out]; exact hlt)⟩
        obtain ⟨b, o, rfl, l1, c0, c1, c2⟩ := (HG.out.below hbw).2 j _ ht
        have hx := Hsz.out _ (List.mem_of_getElem? ht)
        have hs1 := sumT_take ht
        rw [← HS.out] at hs1
        have Hs1 := Lib.hid hs1
        clear hs1 ht
        simp only at c0 c1 c2 hx
        go_wp2
        go_roundg (n - (j + 1))
        case measure => rw [hm.out]; omega
        case rel => exact ⟨j + 1, S + tx.size, Lib.hid rfl, by go_num, by go_num, by omega, Lib.hid Hs1.out.symm, by omega, hbw⟩
      · go_wp2_with (go_at_call 11; go_must (refine (awake_any _).mono ?_; rintro e wx ⟨rfl, hbx⟩; replace hbw := below_step (by first | exact hbw | exact below_drewN hbw _) hbx; clear hbx))
        all_goals
          go_returns
          exact ⟨rfl, hbw⟩
    · by_cases h5 : 500 < n
      · go_wp2_with (go_at_call 11; go_must (refine (awake_any _).mono ?_; rintro e wx ⟨rfl, hbx⟩; replace hbw := below_step (by first | exact hbw | exact below_drewN hbw _) hbx; clear hbx))
        go_returns
        exact ⟨rfl, hbw⟩
      · by_cases h6 : 5000 < S
        · go_wp2_with (go_at_call 11; go_must (refine (awake_any _).mono ?_; rintro e wx ⟨rfl, hbx⟩; replace hbw := below_step (by first | exact hbw | exact below_drewN hbw _) hbx; clear hbx))
          go_returns
          exact ⟨rfl, hbw⟩
        · have hjn : n = j := by omega
          subst hjn
          have hl6 : ts.length ≤ 1000000 := by have := Hn.out; omega
          have htg : (typeG false ts).length ≤ 70368744177664 := by
            have h1 := typeG_sum ts false
            have h2 := HS.out
            rw [List.take_of_length_le (by rw [← Hn.out]; exact Nat.le_refl _)] at h2
            omega
          obtain ⟨x, hx⟩ : ∃ x, (⟨(typeG false ts).toArray⟩ : ByteArray) = x := ⟨_, rfl⟩
          have Hhl6 := Lib.hid hl6; clear hl6; have Hhtg := Lib.hid htg; clear htg; have Hhx := Lib.hid hx; clear hx
          have Hl6 := Hhl6; have Htg := Hhtg; have Hx := Hhx
          clear Hhl6 Hhtg Hhx
          replace HG := Lib.hid (TokGen.below HG.out hbw)
          have hbz := hbw.size
          obtain ⟨i0, hi, hz0, hz1, hz2⟩ := info_parts tok_info
          have How : Hid ((wr.alloc (.cells #[] 27)).ownsRow w.heap.size 27 3 (.slice (some ⟨wr.heap.size, 0, none⟩) 0 0) 0 []) := Lib.hid (World.ownsRow_lit wr #[] 0 hbz (Nat.zero_le _) rfl)
          have hal : Below w.heap.size w (wr.alloc (.cells #[] 27)) := hbw.alloc hbz _
          have HG1 := Lib.hid (TokGen.below (w1 := wr.alloc (.cells #[] 27)) HG.out ((Below.refl _ _).alloc (Nat.le_refl _) _))
          cases A with
          | none =>
            have hc := hnil rfl
            subst hc
            have hn0 : n = 0 := by
              rcases Nat.eq_zero_or_pos n with h | h
              · exact h
              · obtain ⟨b, o, h2, _⟩ := HG.out.2 0 (ts[0]'(by have := Hn.out; omega)) (List.getElem?_eq_getElem (by have := Hn.out; omega)); cases h2
            subst hn0
            go_wp2_with (at_builtin; go_must (refine wpList_append_own_none rfl _ _ 24 rfl w.heap.size 27 i0 3 Try.underlying24 hi _ 0 [] (by rfl) How.out (by rfl) ?_))
            replace HG := HG1
            clear HG1
            replace hbw := hal
            clear hal
            obtain ⟨A', n', C', hv, hI⟩ : ∃ A' n' C', (Value.slice (some ⟨wr.heap.size, 0, none⟩) 0 0) = .slice A' n' C' ∧ Has (wr.alloc (.cells #[] 27)) A' n' C' ts := has_owns (by have := Hn.out; omega) How.out (by rw [List.length_eq_zero_iff.1 (by have := Hn.out; omega : ts.length = 0)]; rfl)
            rw [hv]
            have HI := Lib.hid hI
            clear hI hv How
            generalize wr.alloc (.cells #[] 27) = wa at *
            go_wp2_with (first
            | (go_at_call 14; go_must (refine (type_any A' n' C' ts _ HI.out.1 HI.out.2 Hl6.out Htg.out).mono ?_; rintro e wx ⟨rfl, hbx⟩; replace hbw := below_step (by first | exact hbw | exact below_drewN hbw _) hbx; replace HG := Lib.hid (TokGen.below HG.out hbx); replace HI := Lib.hid (Has.below HI.out hbx); clear hbx; rw [Hx.out]))
            | (go_at_call 16; go_must (refine (theirs_any _ _ _ ts _ HG.out Hk.out Hl6.out).mono ?_; rintro e wx ⟨hbx, sv, rfl, hrow⟩; obtain ⟨ra, rn, rc, rfl, hR, hRl⟩ := theirs_read hrow; replace hbw := below_step (by first | exact hbw | exact below_drewN hbw _) hbx; replace HG := Lib.hid (TokGen.below HG.out hbx); replace HI := Lib.hid (Has.below HI.out hbx); clear hbx hrow; have HR := Lib.hid (And.intro hR hRl); clear hR hRl))
            | (go_at_call 15; go_must (refine (rtype_b ra rn rc ts _ HR.out.1 Hl6.out Htg.out).mono ?_; rintro e wx ⟨rfl, hbx⟩; replace hbw := below_step (by first | exact hbw | exact below_drewN hbw _) hbx; replace HG := Lib.hid (TokGen.below HG.out hbx); replace HI := Lib.hid (Has.below HI.out hbx); replace HR := Lib.hid (And.intro (RTokRead.below HR.out.1 HR.out.2 hbx) (fun k hk => Nat.lt_of_lt_of_le (HR.out.2 k hk) hbx.size)); clear hbx; rw [Hx.out]))
            | (go_at_call 17; go_must (refine (same_b A' n' C' ra rn rc ts _ HI.out.1 HR.out.1 Hk.out Hl6.out).mono ?_; rintro e wx ⟨rfl, hbx⟩; replace hbw := below_step (by first | exact hbw | exact below_drewN hbw _) hbx; clear hbx))
            | (go_at_call 11; go_must (refine (awake_any _).mono ?_; rintro e wx ⟨rfl, hbx⟩; replace hbw := below_step (by first | exact hbw | exact below_drewN hbw _) hbx; clear hbx)))
            go_returns
            exact ⟨rfl, hbw⟩
          | some a =>
            go_wp2_with (at_builtin; go_must (refine wpList_append_own _ rfl _ _ 24 rfl w.heap.size 27 i0 (.agg #[.int .u8 0, .string ⟨#[]⟩, .int .i64 0]) 3 32 Try.underlying24 hi hz0 hz1 hz2 rfl (by decide) _ 0 [] (by rfl) How.out a n C (ts.flatMap AT.cells) (by rfl) (by rw [flat3_len AT.cells (fun _ => rfl), Hn.out]) (cells_have HG1.out) (cells_one ts) (by unfold maxLen; omega) (by omega) (by simp; omega) ?_; intro v' w1 hown1 hgrow _))
            rw [Nat.zero_add, List.nil_append] at hown1
            have hgb := ((Below.refl (wr.alloc (.cells #[] 27)).heap.size (wr.alloc (.cells #[] 27))))
            replace HG := Lib.hid (TokGen.grown HG.out wr.heap.size hgrow rfl)
            replace hbw := hal.grown hgrow (by simp; omega) (fun k hk => by cases hk; omega)
            clear HG1 hal hgb
            obtain ⟨A', n', C', rfl, hI⟩ := has_owns Hn.out.symm hown1 rfl
            have HI := Lib.hid hI
            clear hI hown1 How hgrow
            go_wp2_with (first
            | (go_at_call 14; go_must (refine (type_any A' n' C' ts _ HI.out.1 HI.out.2 Hl6.out Htg.out).mono ?_; rintro e wx ⟨rfl, hbx⟩; replace hbw := below_step (by first | exact hbw | exact below_drewN hbw _) hbx; replace HG := Lib.hid (TokGen.below HG.out hbx); replace HI := Lib.hid (Has.below HI.out hbx); clear hbx; rw [Hx.out]))
            | (go_at_call 16; go_must (refine (theirs_any _ _ _ ts _ HG.out Hk.out Hl6.out).mono ?_; rintro e wx ⟨hbx, sv, rfl, hrow⟩; obtain ⟨ra, rn, rc, rfl, hR, hRl⟩ := theirs_read hrow; replace hbw := below_step (by first | exact hbw | exact below_drewN hbw _) hbx; replace HG := Lib.hid (TokGen.below HG.out hbx); replace HI := Lib.hid (Has.below HI.out hbx); clear hbx hrow; have HR := Lib.hid (And.intro hR hRl); clear hR hRl))
            | (go_at_call 15; go_must (refine (rtype_b ra rn rc ts _ HR.out.1 Hl6.out Htg.out).mono ?_; rintro e wx ⟨rfl, hbx⟩; replace hbw := below_step (by first | exact hbw | exact below_drewN hbw _) hbx; replace HG := Lib.hid (TokGen.below HG.out hbx); replace HI := Lib.hid (Has.below HI.out hbx); replace HR := Lib.hid (And.intro (RTokRead.below HR.out.1 HR.out.2 hbx) (fun k hk => Nat.lt_of_lt_of_le (HR.out.2 k hk) hbx.size)); clear hbx; rw [Hx.out]))
            | (go_at_call 17; go_must (refine (same_b A' n' C' ra rn rc ts _ HI.out.1 HR.out.1 Hk.out Hl6.out).mono ?_; rintro e wx ⟨rfl, hbx⟩; replace hbw := below_step (by first | exact hbw | exact below_drewN hbw _) hbx; clear hbx))
            | (go_at_call 11; go_must (refine (awake_any _).mono ?_; rintro e wx ⟨rfl, hbx⟩; replace hbw := below_step (by first | exact hbw | exact below_drewN hbw _) hbx; clear hbx)))
            go_returns
            exact ⟨rfl, hbw⟩
end Go.Proofs.Ytckpkgnnbnfoeaa
