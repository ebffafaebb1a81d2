/-
  The law LexNames. Conditions: the string's size at most maxLen.
-/
import Derived.Test.YtckpkgnnbnfoeaaNamesP
import Derived.Test.YtckpkgnnbnfoeaaAwake
namespace Go.Proofs.Ytckpkgnnbnfoeaa
open Go.RowKit

theorem two_read {w : World} {b cap : Nat} {t u : Tok} (h : TokRead w (.slice (some ⟨b, 0, none⟩) 2 cap) (ups [t, u])) :
    w.cell? ⟨b, 0, none⟩ = some (.int .u8 t.kind) ∧ w.cell? ⟨b, 1, none⟩ = some (.string t.text) ∧ w.cell? ⟨b, 2, none⟩ = some (.int .i64 t.pos) := by
  rcases h with ⟨h, _⟩ | ⟨b', off, cap', hv, hc⟩
  · cases h
  · cases hv
    exact hc 0 _ rfl
theorem below_step {w wx w1 : World} (h : Below w.heap.size w wx) (hb : Below wx.heap.size wx w1) : Below w.heap.size w w1 := h.trans (hb.mono h.size)

theorem names_lex (s : ByteArray) (w : World) (hs : s.size ≤ maxLen) {t u : Tok} (hb : lexBad s = none) (ht : toks s = [t, u]) :
    Calls Try.prog 19 #[.string s] w fun e w' => Below w.heap.size w w' ∧ ∃ b cap, e = .returned (.tuple #[.slice (some ⟨b, 0, none⟩) 2 cap, .int .i64 0, .int .i64 0]) ∧
      w'.cell? ⟨b, 0, none⟩ = some (.int .u8 t.kind) ∧ w'.cell? ⟨b, 1, none⟩ = some (.string t.text) ∧ w'.cell? ⟨b, 2, none⟩ = some (.int .i64 t.pos) :=
  (lex_any s w hs).mono fun _ _ h => by
    obtain ⟨h1, b, cap, he, hlt, hR⟩ := lexPost_some h hb ht rfl
    exact ⟨h1, b, cap, he, two_read hR⟩

set_option maxHeartbeats 4000000 in
theorem names_one (s : ByteArray) (w : World) (hs : s.size ≤ 5000) (k : Nat) (c1 c2 c3 c4 : Bool) (h1 : regOk s = c1) (h2 : numOk s = c2) (h3 : kept s = c3) (h4 : nameOk s = c4) (hb : lexBad s = none)
    (ht : toks s = [⟨k, s, 0⟩, ⟨4, ByteArray.empty, s.size⟩])
    (H : (k = 1 ∧ c1 = true ∧ c2 = false ∧ c3 = false ∧ c4 = false) ∨ (k = 2 ∧ c1 = false ∧ c2 = true ∧ c3 = false ∧ c4 = false) ∨ (k = 1 ∧ c1 = false ∧ c2 = false ∧ c3 = true ∧ c4 = false) ∨ (k = 1 ∧ c1 = false ∧ c2 = false ∧ c3 = false ∧ c4 = true)) :
    Calls Try.prog 10 #[.string s] w fun e w' => e = .returned (.bool true) ∧ Below w.heap.size w w' := by
  have hm : s.size ≤ maxLen := by unfold maxLen; omega
  have hbw := Below.refl w.heap.size w
  rcases H with ⟨rfl, rfl, rfl, rfl, rfl⟩ | ⟨rfl, rfl, rfl, rfl, rfl⟩ | ⟨rfl, rfl, rfl, rfl, rfl⟩ | ⟨rfl, rfl, rfl, rfl, rfl⟩
  all_goals
    have Hb := Lib.hid hb
    have Ht := Lib.hid ht
    have Hh1 := Lib.hid h1; clear h1; have Hh2 := Lib.hid h2; clear h2; have Hh3 := Lib.hid h3; clear h3; have Hh4 := Lib.hid h4; clear h4
    clear hb ht
    go_enter Try.func10, Try.ntmps10
    go_wp2_with (first
      | (go_at_call 11; go_must (refine (awake_any _).mono ?_; rintro e wx ⟨rfl, hbx⟩; replace hbw := below_step (by first | exact hbw | exact below_drewN hbw _) hbx; clear hbx))
      | (go_at_call 19; go_must (refine (names_lex s _ hm Hb.out Ht.out).mono ?_; rintro e wx ⟨hbx, b, cap, rfl, r0, r1, r2⟩; replace hbw := below_step (by first | exact hbw | exact below_drewN hbw _) hbx; clear hbx))
      | (go_at_call 23; refine (reg_any _ _ _ Hh1.out).mono ?_; rintro e w' ⟨rfl, rfl⟩)
      | (go_at_call 24; refine (num_any _ _ hm _ Hh2.out).mono ?_; rintro e w' ⟨rfl, rfl⟩)
      | (go_at_call 26; refine (kept_any _ _ _ Hh3.out).mono ?_; rintro e w' ⟨rfl, rfl⟩)
      | (go_at_call 25; refine (name_any _ _ hm _ Hh4.out).mono ?_; rintro e w' ⟨rfl, rfl⟩))
    go_returns
    exact ⟨rfl, hbw⟩

theorem names_other (s : ByteArray) (w : World) (hs : s.size ≤ maxLen) (hb : lexBad s = none) (hn : (toks s).length ≠ 2) :
    Calls Try.prog 19 #[.string s] w fun e w' => Below w.heap.size w w' ∧ ∃ a n c, n ≠ 2 ∧ e = .returned (.tuple #[.slice a n c, .int .i64 0, .int .i64 0]) :=
  (lex_any s w hs).mono fun _ _ h => by
    obtain ⟨h1, h2 | h2⟩ := h
    · obtain ⟨p, f, h3, _⟩ := h2; rw [hb] at h3; cases h3
    · obtain ⟨_, sv, he, ho, _⟩ := h2
      rcases ho.2 with ⟨h2, h3⟩ | ⟨g, cap, cur, h2, _⟩
      · exact ⟨h1, none, 0, 0, by omega, by rw [he, h2]⟩
      · exact ⟨h1, _, _, _, hn, by rw [he, h2]⟩

theorem fault_ne {ts : List Tok} {t : Tok} (h : firstBad ts = some t) : faultOf t ≠ 0 := by
  induction ts with
  | nil => cases h
  | cons a r ih =>
    rw [firstBad] at h
    split at h
    · exact ih h
    · cases h; assumption
theorem lexBad_ne {s : ByteArray} {p : Nat} {f : Int} (h : lexBad s = some (p, f)) : f ≠ 0 := by
  unfold lexBad at h
  split at h
  · cases h; omega
  · obtain ⟨t, ht, he⟩ := Option.map_eq_some_iff.1 h
    cases he; exact fault_ne ht

set_option maxHeartbeats 4000000 in
theorem names_none (s : ByteArray) (w : World) (hs : s.size ≤ 5000) (h1 : regOk s = false) (h2 : numOk s = false) (h3 : kept s = false) (h4 : nameOk s = false) :
    Calls Try.prog 10 #[.string s] w fun e w' => e = .returned (.bool true) ∧ Below w.heap.size w w' := by
  have hm : s.size ≤ maxLen := by unfold maxLen; omega
  have hbw := Below.refl w.heap.size w
  have Hh1 := Lib.hid h1; clear h1; have Hh2 := Lib.hid h2; clear h2; have Hh3 := Lib.hid h3; clear h3; have Hh4 := Lib.hid h4; clear h4
  cases hb : lexBad s with
  | some pf =>
    obtain ⟨p, f⟩ := pf
    have hf := lexBad_ne hb
    have Hb := Lib.hid hb
    clear hb
    go_enter Try.func10, Try.ntmps10
    go_wp2_with (first
      | (go_at_call 11; go_must (refine (awake_any _).mono ?_; rintro e wx ⟨rfl, hbx⟩; replace hbw := below_step (by first | exact hbw | exact below_drewN hbw _) hbx; clear hbx))
      | (go_at_call 19; go_must (refine (lex_any s _ hm).mono ?_; intro e wx hx; obtain ⟨rfl, hbx⟩ := lexPost_bad hx Hb.out; clear hx; replace hbw := below_step (by first | exact hbw | exact below_drewN hbw _) hbx; clear hbx))
      | (go_at_call 23; refine (reg_any _ _ _ Hh1.out).mono ?_; rintro e w' ⟨rfl, rfl⟩)
      | (go_at_call 24; refine (num_any _ _ hm _ Hh2.out).mono ?_; rintro e w' ⟨rfl, rfl⟩)
      | (go_at_call 26; refine (kept_any _ _ _ Hh3.out).mono ?_; rintro e w' ⟨rfl, rfl⟩)
      | (go_at_call 25; refine (name_any _ _ hm _ Hh4.out).mono ?_; rintro e w' ⟨rfl, rfl⟩))
    go_returns
    exact ⟨rfl, hbw⟩
  | none =>
    by_cases hn : (toks s).length = 2
    · obtain ⟨t, u, ht⟩ : ∃ t u, toks s = [t, u] := by
        rcases hl : toks s with _ | ⟨t, _ | ⟨u, _ | ⟨v, r⟩⟩⟩
        · rw [hl] at hn; cases hn
        · rw [hl] at hn; cases hn
        · exact ⟨t, u, rfl⟩
        · rw [hl] at hn; simp at hn
      obtain ⟨tk, tt, tp⟩ := t
      have Hb := Lib.hid hb
      have Ht := Lib.hid ht
      clear hb ht hn
      go_enter Try.func10, Try.ntmps10
      go_wp2_with (first
        | (go_at_call 11; go_must (refine (awake_any _).mono ?_; rintro e wx ⟨rfl, hbx⟩; replace hbw := below_step (by first | exact hbw | exact below_drewN hbw _) hbx; clear hbx))
        | (go_at_call 19; go_must (refine (names_lex s _ hm Hb.out Ht.out).mono ?_; rintro e wx ⟨hbx, b, cap, rfl, r0, r1, r2⟩; replace hbw := below_step (by first | exact hbw | exact below_drewN hbw _) hbx; clear hbx))
        | (go_at_call 23; refine (reg_any _ _ _ Hh1.out).mono ?_; rintro e w' ⟨rfl, rfl⟩)
        | (go_at_call 24; refine (num_any _ _ hm _ Hh2.out).mono ?_; rintro e w' ⟨rfl, rfl⟩)
        | (go_at_call 26; refine (kept_any _ _ _ Hh3.out).mono ?_; rintro e w' ⟨rfl, rfl⟩)
        | (go_at_call 25; refine (name_any _ _ hm _ Hh4.out).mono ?_; rintro e w' ⟨rfl, rfl⟩))
      all_goals
        go_returns
        exact ⟨rfl, hbw⟩
    · have Hb := Lib.hid hb
      have Hn := Lib.hid hn
      clear hb hn
      go_enter Try.func10, Try.ntmps10
      go_wp2_with (first
        | (go_at_call 11; go_must (refine (awake_any _).mono ?_; rintro e wx ⟨rfl, hbx⟩; replace hbw := below_step (by first | exact hbw | exact below_drewN hbw _) hbx; clear hbx))
        | (go_at_call 19; go_must (refine (names_other s _ hm Hb.out Hn.out).mono ?_; rintro e wx ⟨hbx, a, n, c, hn2, rfl⟩; replace hbw := below_step (by first | exact hbw | exact below_drewN hbw _) hbx; clear hbx; have hn3 : (n : Int) ≠ 2 := by omega))
        | (go_at_call 23; refine (reg_any _ _ _ Hh1.out).mono ?_; rintro e w' ⟨rfl, rfl⟩)
        | (go_at_call 24; refine (num_any _ _ hm _ Hh2.out).mono ?_; rintro e w' ⟨rfl, rfl⟩)
        | (go_at_call 26; refine (kept_any _ _ _ Hh3.out).mono ?_; rintro e w' ⟨rfl, rfl⟩)
        | (go_at_call 25; refine (name_any _ _ hm _ Hh4.out).mono ?_; rintro e w' ⟨rfl, rfl⟩))
      go_returns
      exact ⟨rfl, hbw⟩

set_option maxHeartbeats 4000000 in
theorem lexNames_any (s : ByteArray) (w : World) (_ : s.size ≤ maxLen) : Calls Try.prog 10 #[.string s] w fun e w' => e = .returned (.bool true) ∧ Below w.heap.size w w' := by
  by_cases h : 5000 < s.size
  · have hbw := Below.refl w.heap.size w
    go_enter Try.func10, Try.ntmps10
    go_wp2_with (go_at_call 11; go_must (refine (awake_any _).mono ?_; rintro e wx ⟨rfl, hbx⟩; replace hbw := below_step (by first | exact hbw | exact below_drewN hbw _) hbx; clear hbx))
    go_returns
    exact ⟨rfl, hbw⟩
  · have hz : s.size ≤ 5000 := by omega
    cases h1 : regOk s with
    | true =>
      obtain ⟨ht, hb⟩ := wordy_toks (reg_wordy h1)
      refine names_one s w hz 1 true false false false h1 (wordy_num (reg_wordy h1)) (reg_kept h1) ?_ hb ht (.inl ⟨rfl, rfl, rfl, rfl, rfl⟩)
      cases h4 : nameOk s with
      | false => rfl
      | true => rw [name_reg h4] at h1; cases h1
    | false =>
    cases h2 : numOk s with
    | true =>
      obtain ⟨ht, hb⟩ := num_toks h2
      refine names_one s w hz 2 false true false false h1 h2 ?_ ?_ hb ht (.inr (.inl ⟨rfl, rfl, rfl, rfl, rfl⟩))
      · cases h3 : kept s with
        | false => rfl
        | true => rw [(kept_chk h3).2.2] at h2; cases h2
      · cases h4 : nameOk s with
        | false => rfl
        | true => rw [wordy_num (name_wordy h4)] at h2; cases h2
    | false =>
    cases h3 : kept s with
    | true =>
      obtain ⟨ht, hb⟩ := wordy_toks (kept_chk h3).1
      refine names_one s w hz 1 false false true false h1 h2 h3 ?_ hb ht (.inr (.inr (.inl ⟨rfl, rfl, rfl, rfl, rfl⟩)))
      cases h4 : nameOk s with
      | false => rfl
      | true => rw [name_kept h4] at h3; cases h3
    | false =>
    cases h4 : nameOk s with
    | true =>
      obtain ⟨ht, hb⟩ := wordy_toks (name_wordy h4)
      exact names_one s w hz 1 false false false true h1 h2 h3 h4 hb ht (.inr (.inr (.inr ⟨rfl, rfl, rfl, rfl, rfl⟩)))
    | false => exact names_none s w hz h1 h2 h3 h4
end Go.Proofs.Ytckpkgnnbnfoeaa
