/-
  The law of layer 4: lexes. Conditions: the string's size at most maxLen.
-/
import Derived.Test.YtckpkgnnbnfoeaaSame
namespace Go.Proofs.Ytckpkgnnbnfoeaa
open Go.RowKit

theorem nextT_tok {s : ByteArray} : ∀ {f k o t k' o'}, nextT s f k o = (some t, k', o') → t.text.size ≤ s.size ∧ t.kind ≤ 4 := by
  intro f
  induction f with
  | zero => intro k o t k' o' h; simp [nextT] at h
  | succ f ih =>
    intro k o t k' o' h
    unfold nextT at h
    split at h
    · injection h with h _
      cases h
      refine ⟨?_, ?_⟩
      · unfold tokAt; rw [ByteArray.size_extract]; omega
      · unfold tokAt tokKind; simp only; repeat' split
        all_goals omega
    · split at h
      · injection h with h _
        cases h
        exact ⟨Nat.zero_le _, Nat.le_refl _⟩
      · split at h
        · injection h with h _; cases h
        · exact ih h
theorem toksF_tok {s : ByteArray} : ∀ {f k o}, ∀ t ∈ toksF s f k o, t.text.size ≤ s.size ∧ t.kind ≤ 4 := by
  intro f
  induction f with
  | zero => intro k o t h; simp [toksF] at h
  | succ f ih =>
    intro k o t h
    rw [toksF] at h
    split at h
    · rename_i t' k' o' hn
      rcases List.mem_cons.1 h with rfl | h
      · exact nextT_tok hn
      · exact ih t h
    · simp at h
theorem toks_ok (s : ByteArray) : ∀ t ∈ toks s, t.text.size ≤ s.size ∧ t.kind ≤ 4 := fun t h => toksF_tok t h
theorem typeG_most {B : Nat} : ∀ (ts : List AT) (wi : Bool), (∀ t ∈ ts, t.text.size ≤ B) → (typeG wi ts).length ≤ ts.length * (B + 1)
  | [], _, _ => by simp [typeG]
  | t :: r, wi, h => by
    have h1 := h t (by simp)
    have ih1 := typeG_most r false (fun u hu => h u (by simp [hu]))
    have ih2 := typeG_most r true (fun u hu => h u (by simp [hu]))
    have hz : t.text.data.toList.length = t.text.size := Array.length_toList
    rw [typeG, List.length_cons, Nat.succ_mul]
    split
    · rw [List.length_cons]; omega
    · rw [List.length_append, List.length_append, hz]
      split
      · simp; omega
      · simp; omega
theorem toks_kinds (s : ByteArray) : KindsOk (ups (toks s)) := by
  intro t ht
  unfold ups at ht
  obtain ⟨u, hu, rfl⟩ := List.mem_map.1 ht
  have := (toks_ok s u hu).2
  simp only [Tok.up]
  omega
theorem toks_bound {s : ByteArray} (hs : s.size ≤ 16384) : (ups (toks s)).length ≤ 1000000 ∧ (typeG false (ups (toks s))).length ≤ 70368744177664 := by
  have h1 := toks_len s
  have h2 : (ups (toks s)).length = (toks s).length := by simp [ups]
  have h3 := typeG_most (B := s.size) (ups (toks s)) false (by
    intro t ht
    unfold ups at ht
    obtain ⟨u, hu, rfl⟩ := List.mem_map.1 ht
    exact (toks_ok s u hu).1)
  refine ⟨by omega, Nat.le_trans h3 (Nat.le_trans (Nat.mul_le_mul (show _ ≤ 32769 by omega) (show _ ≤ 16385 by omega)) (by decide))⟩
theorem lexBad_size {s : ByteArray} (h : lexBad s = none) : s.size ≤ 16384 := by
  unfold lexBad at h; split at h
  · cases h
  · omega

/-- The slices that the two Lex answer where there is no error. -/
theorem lex_none (s : ByteArray) (w : World) (hs : s.size ≤ maxLen) (hb : lexBad s = none) : Calls Try.prog 19 #[.string s] w fun e w' => Below w.heap.size w w' ∧ ∃ a n c, e = .returned (.tuple #[.slice a n c, .int .i64 0, .int .i64 0]) ∧ TokRead w' (.slice a n c) (ups (toks s)) ∧ (∀ k, (Value.slice a n c).ownBlock = some k → k < w'.heap.size) :=
  (lex_any s w hs).mono fun e w' h => by
    obtain ⟨h1, h2 | h2⟩ := h
    · obtain ⟨p, f, h3, _⟩ := h2; rw [hb] at h3; cases h3
    · obtain ⟨_, sv, he, ho, hn⟩ := h2
      rcases owns_split ho with ⟨_, a, c, rfl⟩ | ⟨g, cap, rfl⟩
      · exact ⟨h1, a, 0, c, he, tokRead_owns ho, fun k hk => (ho.lt k hk).2⟩
      · exact ⟨h1, _, _, cap, he, tokRead_owns ho, fun k hk => (ho.lt k hk).2⟩
theorem rlex_none (s : ByteArray) (w : World) (hs : s.size ≤ maxLen) (hb : lexBad s = none) : Calls Try.prog 27 #[.string s] w fun e w' => Below w.heap.size w w' ∧ ∃ a n c, e = .returned (.tuple #[.slice a n c, .int .i64 0, .int .i64 0]) ∧ RTokRead w' (.slice a n c) (ups (toks s)) ∧ (∀ k, (Value.slice a n c).ownBlock = some k → k < w'.heap.size) :=
  (rlex_any s w hs).mono fun e w' h => by
    obtain ⟨h1, h2 | h2⟩ := h
    · obtain ⟨p, f, h3, _⟩ := h2; rw [hb] at h3; cases h3
    · obtain ⟨_, sv, he, ho, hn⟩ := h2
      have hr : RTokRead w' sv (ups (toks s)) := rtokRead_owns (n := (toks s).length) (by simp [ups]) (by rw [← rcells_ups]; exact ho)
      rcases owns_split ho with ⟨_, a, c, rfl⟩ | ⟨g, cap, rfl⟩
      · exact ⟨h1, a, 0, c, he, hr, fun k hk => (ho.lt k hk).2⟩
      · exact ⟨h1, _, _, cap, he, hr, fun k hk => (ho.lt k hk).2⟩
theorem lex_some (s : ByteArray) (w : World) (hs : s.size ≤ maxLen) {p : Nat} {f : Int} (hb : lexBad s = some (p, f)) : Calls Try.prog 19 #[.string s] w fun e w' => e = .returned (.tuple #[.slice none 0 0, .int .i64 (p : Nat), .int .i64 f]) ∧ Below w.heap.size w w' :=
  (lex_any s w hs).mono fun _ _ h => lexPost_bad h hb
theorem rlex_some (s : ByteArray) (w : World) (hs : s.size ≤ maxLen) {p : Nat} {f : Int} (hb : lexBad s = some (p, f)) : Calls Try.prog 27 #[.string s] w fun e w' => e = .returned (.tuple #[.slice none 0 0, .int .i64 (p : Nat), .int .i64 f]) ∧ Below w.heap.size w w' :=
  (rlex_any s w hs).mono fun e w' h => by
    obtain ⟨h1, h2 | h2⟩ := h
    · obtain ⟨p', f', h3, h4⟩ := h2; rw [hb] at h3; cases h3; exact ⟨h4, h1⟩
    · rw [h2.1] at hb; cases hb

theorem RTokRead.below {w w' : World} {sv : Value} {ts : List AT} (h : RTokRead w sv ts) (hlt : ∀ k, sv.ownBlock = some k → k < w.heap.size) (hb : Below w.heap.size w w') : RTokRead w' sv ts := by
  rcases h with h | ⟨b, off, cap, rfl, hc⟩
  · exact .inl h
  · refine .inr ⟨b, off, cap, rfl, fun j t ht => ?_⟩
    have hbl : b < w.heap.size := hlt b rfl
    obtain ⟨c0, c1, c2⟩ := hc j t ht
    exact ⟨(hb.cell (p := ⟨b, off + j * 3, none⟩) hbl).trans c0, (hb.cell (p := ⟨b, off + j * 3 + 1, none⟩) hbl).trans c1, (hb.cell (p := ⟨b, off + j * 3 + 2, none⟩) hbl).trans c2⟩
theorem tokRead_nil (w : World) : TokRead w (.slice none 0 0) [] := .inl ⟨rfl, none, 0, rfl⟩
theorem rtokRead_nil (w : World) : RTokRead w (.slice none 0 0) [] := .inl ⟨rfl, none, 0, rfl⟩

theorem same_b (sa : Option Addr) (sn sc : Nat) (ra : Option Addr) (rn rc : Nat) (ts : List AT) (w : World) (hA : TokRead w (.slice sa sn sc) ts) (hB : RTokRead w (.slice ra rn rc) ts) (hk : KindsOk ts) (hlen : ts.length ≤ 1000000) :
    Calls Try.prog 17 #[.slice sa sn sc, .slice ra rn rc] w fun e w' => e = .returned (.bool true) ∧ Below w.heap.size w w' :=
  (same_any sa sn sc ra rn rc ts w hA hB hk hlen).mono fun _ _ ⟨he, d, hw⟩ => ⟨he, hw ▸ below_drewN (Below.refl _ _) d⟩
theorem rtype_b (sa : Option Addr) (sn sc : Nat) (ts : List AT) (w : World) (hR : RTokRead w (.slice sa sn sc) ts) (hlen : ts.length ≤ 1000000) (hbd : (typeG false ts).length ≤ 70368744177664) :
    Calls Try.prog 15 #[.slice sa sn sc] w fun e w' => e = .returned (.string ⟨(typeG false ts).toArray⟩) ∧ Below w.heap.size w w' :=
  (rtype_any sa sn sc ts w hR hlen hbd).mono fun _ _ ⟨he, d, hw⟩ => ⟨he, hw ▸ below_drewN (Below.refl _ _) d⟩

set_option maxHeartbeats 4000000 in
theorem lexes_any (s : ByteArray) (w : World) (hs : s.size ≤ maxLen) : Calls Try.prog 12 #[.string s] w fun e w' => e = .returned (.bool true) ∧ Below w.heap.size w w' := by
  cases hb : lexBad s with
  | some pf =>
    obtain ⟨p, f⟩ := pf
    have Hb := Lib.hid hb
    clear hb
    go_enter Try.func12, Try.ntmps12
    go_wp2_with (first
      | (go_at_call 19; go_must (refine (lex_some s _ hs Hb.out).mono ?_; rintro e w1 ⟨rfl, hb1⟩))
      | (go_at_call 27; go_must (refine (rlex_some s _ hs Hb.out).mono ?_; rintro e w2 ⟨rfl, hb2⟩))
      | (go_at_call 17; go_must (refine (same_b none 0 0 none 0 0 [] _ (tokRead_nil _) (rtokRead_nil _) (by intro t ht; cases ht) (by simp)).mono ?_; rintro e w3 ⟨rfl, hb3⟩))
      | (go_at_call 14; go_must (refine (type_any none 0 0 [] _ (tokRead_nil _) (by intro k hk; cases hk) (by simp) (by simp [typeG])).mono ?_; rintro e w4 ⟨rfl, hb4⟩))
      | (go_at_call 15; go_must (refine (rtype_b none 0 0 [] _ (rtokRead_nil _) (by simp) (by simp [typeG])).mono ?_; rintro e w5 ⟨rfl, hb5⟩)))
    go_returns
    exact ⟨ret_bool (by simp), (((hb1.trans (hb2.mono hb1.size)).trans (hb3.mono (Nat.le_trans hb1.size hb2.size))).trans (hb4.mono (Nat.le_trans (Nat.le_trans hb1.size hb2.size) hb3.size))).trans (hb5.mono (Nat.le_trans (Nat.le_trans (Nat.le_trans hb1.size hb2.size) hb3.size) hb4.size))⟩
  | none =>
    have hz := lexBad_size hb
    obtain ⟨hz1, hz2⟩ := toks_bound hz
    have hkk := toks_kinds s
    obtain ⟨x, hx⟩ : ∃ x, (⟨(typeG false (ups (toks s))).toArray⟩ : ByteArray) = x := ⟨_, rfl⟩
    have Hhb := Lib.hid hb; clear hb; have Hhz1 := Lib.hid hz1; clear hz1; have Hhz2 := Lib.hid hz2; clear hz2; have Hhkk := Lib.hid hkk; clear hkk; have Hhx := Lib.hid hx; clear hx
    go_enter Try.func12, Try.ntmps12
    go_wp2_with (first
      | (go_at_call 19; go_must (refine (lex_none s _ hs Hhb.out).mono ?_; rintro e w1 ⟨hb1, a, n, c, rfl, hA, hAl⟩; have HA := Lib.hid hA; have HAl := Lib.hid hAl; clear hA hAl))
      | (go_at_call 27; go_must (refine (rlex_none s _ hs Hhb.out).mono ?_; rintro e w2 ⟨hb2, a', n', c', rfl, hB, hBl⟩; have HB := Lib.hid hB; have HBl := Lib.hid hBl; have HA2 := Lib.hid (HA.out.below HAl.out hb2); clear hB hBl))
      | (go_at_call 17; go_must (refine (same_b a n c a' n' c' (ups (toks s)) _ HA2.out HB.out Hhkk.out Hhz1.out).mono ?_; rintro e w3 ⟨rfl, hb3⟩; have HA3 := Lib.hid (HA2.out.below (fun k hk => Nat.lt_of_lt_of_le (HAl.out k hk) hb2.size) hb3); have HB3 := Lib.hid (HB.out.below HBl.out hb3)))
      | (go_at_call 14; go_must (refine (type_any a n c (ups (toks s)) _ HA3.out (fun k hk => Nat.lt_of_lt_of_le (HAl.out k hk) (Nat.le_trans hb2.size hb3.size)) Hhz1.out Hhz2.out).mono ?_; rintro e w4 ⟨rfl, hb4⟩; rw [Hhx.out]; have HB2 := Lib.hid (HB3.out.below (fun k hk => Nat.lt_of_lt_of_le (HBl.out k hk) hb3.size) hb4)))
      | (go_at_call 15; go_must (refine (rtype_b a' n' c' (ups (toks s)) _ HB2.out Hhz1.out Hhz2.out).mono ?_; rintro e w5 ⟨rfl, hb5⟩; rw [Hhx.out])))
    go_returns
    exact ⟨ret_bool (by simp), (((hb1.trans (hb2.mono hb1.size)).trans (hb3.mono (Nat.le_trans hb1.size hb2.size))).trans (hb4.mono (Nat.le_trans (Nat.le_trans hb1.size hb2.size) hb3.size))).trans (hb5.mono (Nat.le_trans (Nat.le_trans (Nat.le_trans hb1.size hb2.size) hb3.size) hb4.size))⟩
end Go.Proofs.Ytckpkgnnbnfoeaa
