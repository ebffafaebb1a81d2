/-
  The law LexJoins. Conditions: the strings' sizes at most maxLen.
-/
import Derived.Test.YtckpkgnnbnfoeaaJoinsP
import Derived.Test.YtckpkgnnbnfoeaaLexes
import Derived.Test.YtckpkgnnbnfoeaaAwake
namespace Go.Proofs.Ytckpkgnnbnfoeaa
open Go.RowKit

theorem below_step {w wx w1 : World} (h : Below w.heap.size w wx) (hb : Below wx.heap.size wx w1) : Below w.heap.size w w1 := h.trans (hb.mono h.size)
/-- The slice holds the tokens. -/
def TokGen (w : World) (A : Option Addr) (n : Nat) (ts : List AT) : Prop :=
  n = ts.length ∧ ∀ j t, ts[j]? = some t → ∃ b off, A = some ⟨b, off, none⟩ ∧ b < w.heap.size ∧ w.cell? ⟨b, off + j * 3, none⟩ = some (.int .u8 t.kind) ∧ w.cell? ⟨b, off + j * 3 + 1, none⟩ = some (.string t.text) ∧ w.cell? ⟨b, off + j * 3 + 2, none⟩ = some (.int .i64 t.pos)
theorem tokGen_of {w : World} {A : Option Addr} {n C : Nat} {ts : List AT} (h : TokRead w (.slice A n C) ts) (hlt : ∀ k, (Value.slice A n C).ownBlock = some k → k < w.heap.size) : TokGen w A n ts := by
  rcases h with ⟨rfl, a, c, h⟩ | ⟨b, off, cap, h, hc⟩
  · cases h
    exact ⟨rfl, fun j t ht => by simp at ht⟩
  · cases h
    exact ⟨rfl, fun j t ht => ⟨b, off, rfl, hlt b rfl, hc j t ht⟩⟩
theorem TokGen.below {w w1 : World} {A : Option Addr} {n : Nat} {ts : List AT} (h : TokGen w A n ts) (hb : Below w.heap.size w w1) : TokGen w1 A n ts :=
  ⟨h.1, fun j t ht => by
    obtain ⟨b, off, rfl, hlt, c0, c1, c2⟩ := h.2 j t ht
    exact ⟨b, off, rfl, Nat.lt_of_lt_of_le hlt hb.size, (hb.cell (p := ⟨b, off + j * 3, none⟩) hlt).trans c0, (hb.cell (p := ⟨b, off + j * 3 + 1, none⟩) hlt).trans c1, (hb.cell (p := ⟨b, off + j * 3 + 2, none⟩) hlt).trans c2⟩⟩
theorem lex_gen (s : ByteArray) (w : World) (hs : s.size ≤ maxLen) (hb : lexBad s = none) : Calls Try.prog 19 #[.string s] w fun e w' => Below w.heap.size w w' ∧ ∃ A n C, e = .returned (.tuple #[.slice A n C, .int .i64 0, .int .i64 0]) ∧ TokGen w' A n (ups (toks s)) :=
  (lex_none s w hs hb).mono fun _ _ ⟨h1, a, n, c, he, hr, hl⟩ => ⟨h1, a, n, c, he, tokGen_of hr hl⟩
theorem lex_free (s : ByteArray) (w : World) (hs : s.size ≤ maxLen) : Calls Try.prog 19 #[.string s] w fun e w' => Below w.heap.size w w' ∧ ∃ A n C p f, e = .returned (.tuple #[.slice A n C, .int .i64 p, .int .i64 f]) :=
  (lex_any s w hs).mono fun _ _ h => by
    obtain ⟨h1, h2 | h2⟩ := h
    · obtain ⟨p, f, _, he⟩ := h2; exact ⟨h1, _, _, _, _, _, he⟩
    · obtain ⟨_, sv, he, ho, _⟩ := h2
      rcases ho.2 with ⟨rfl, _⟩ | ⟨g, cap, cur, rfl, _⟩ <;> exact ⟨h1, _, _, _, _, _, he⟩
theorem fault_ne {ts : List Tok} {t : Tok} (h : firstBad ts = some t) : faultOf t ≠ 0 ∧ t ∈ ts := by
  induction ts with
  | nil => cases h
  | cons a r ih =>
    rw [firstBad] at h
    split at h
    · exact ⟨(ih h).1, List.mem_cons_of_mem _ (ih h).2⟩
    · cases h; exact ⟨by assumption, List.mem_cons_self⟩
theorem nextT_pos {s : ByteArray} : ∀ {f k o t k' o'}, nextT s f k o = (some t, k', o') → k ≤ s.size → t.pos ≤ s.size
  | 0, k, o, t, k', o', h, hk => by simp [nextT] at h
  | f + 1, k, o, t, k', o', h, hk => by
    have h2 := passTo_le s k hk
    rw [nextT] at h
    split at h
    · simp only [Prod.mk.injEq, Option.some.injEq] at h
      obtain ⟨rfl, _, _⟩ := h
      exact h2
    · split at h
      · simp only [Prod.mk.injEq, Option.some.injEq] at h
        obtain ⟨rfl, _, _⟩ := h
        exact h2
      · split at h
        · simp at h
        · exact nextT_pos h (by omega)
theorem toksF_pos {s : ByteArray} : ∀ {f k o}, k ≤ s.size → ∀ t ∈ toksF s f k o, t.pos ≤ s.size
  | 0, k, o, _, t, h => by simp [toksF] at h
  | f + 1, k, o, hk, t, h => by
    rw [toksF] at h
    split at h
    · rename_i t' k' o' hn
      rcases List.mem_cons.1 h with rfl | h
      · exact nextT_pos hn hk
      · exact toksF_pos (nextT_le hn hk).1 t h
    · simp at h
theorem lexBad_ne {s : ByteArray} {p : Nat} {f : Int} (h : lexBad s = some (p, f)) : f ≠ 0 ∧ p ≤ s.size := by
  unfold lexBad at h
  split at h
  · cases h; omega
  · obtain ⟨t, ht, he⟩ := Option.map_eq_some_iff.1 h
    cases he
    obtain ⟨h1, h2⟩ := fault_ne ht
    exact ⟨h1, toksF_pos (Nat.zero_le _) t h2⟩

set_option maxHeartbeats 4000000 in
theorem joins_bad1 (a b : ByteArray) (w : World) (ha : a.size ≤ 2000) (hb : b.size ≤ 2000) (p : Nat) (f : Int) (h1 : lexBad a = some (p, f)) :
    Calls Try.prog 9 #[.string a, .string b] w fun e w' => e = .returned (.bool true) ∧ Below w.heap.size w w' := by
  have hbw := Below.refl w.heap.size w
  have h3 := joined_first ha hb h1
  have hm : a.size ≤ maxLen := by unfold maxLen; omega
  have hmb : b.size ≤ maxLen := by unfold maxLen; omega
  have hmj : (joined a b).size ≤ maxLen := by rw [joined_size]; unfold maxLen; omega
  obtain ⟨hf, hp⟩ := lexBad_ne h1
  unfold joined at h3 hmj
  have Hh1 := Lib.hid h1; clear h1; have Hh3 := Lib.hid h3; clear h3
  go_enter Try.func9, Try.ntmps9
  go_wp2_with (first
    | (go_at_call 11; go_must (refine (awake_any _).mono ?_; rintro e wx ⟨rfl, hbx⟩; replace hbw := below_step (by first | exact hbw | exact below_drewN hbw _) hbx; clear hbx))
    | (go_at_call 19; first
      | ((with_reducible refine (lex_any a _ hm).mono ?_); intro e wx hx; obtain ⟨rfl, hbx⟩ := lexPost_bad hx Hh1.out; clear hx; replace hbw := below_step (by first | exact hbw | exact below_drewN hbw _) hbx; clear hbx)
      | ((with_reducible refine (lex_free b _ hmb).mono ?_); rintro e wx ⟨hbx, A, n, C, p2, f2, rfl⟩; replace hbw := below_step (by first | exact hbw | exact below_drewN hbw _) hbx; clear hbx)
      | (go_must ((with_reducible refine (lex_any _ _ hmj).mono ?_); intro e wx hx; obtain ⟨rfl, hbx⟩ := lexPost_bad hx Hh3.out; clear hx; replace hbw := below_step (by first | exact hbw | exact below_drewN hbw _) hbx; clear hbx))))
  go_returns
  exact ⟨rfl, hbw⟩

theorem joins_len {a b : ByteArray} {n1 n2 n3 : Nat} (ha : a.size ≤ 2000) (hb : b.size ≤ 2000) (h1 : n1 = (ups (toks a)).length) (h2 : n2 = (ups (toks b)).length) (h3 : n3 = (ups (toks (a ++ ⟨#[10]⟩ ++ b))).length) : n3 = n1 + n2 ∧ n1 ≤ 4001 ∧ n2 ≤ 4001 := by
  have e1 := toks_len a
  have e2 := toks_len b
  have e3 := joined_toks a b
  unfold joined at e3
  rw [e3] at h3
  simp only [ups, List.length_map, List.length_append] at h1 h2 h3
  omega

theorem joins_get1 {a b : ByteArray} {j : Nat} {t : AT} (h : (ups (toks a))[j]? = some t) : (ups (toks (a ++ ⟨#[10]⟩ ++ b)))[j]? = some t := by
  have e3 := joined_toks a b
  unfold joined at e3
  rw [e3]
  unfold ups at h ⊢
  rw [List.map_append, List.getElem?_append_left (List.getElem?_eq_some_iff.1 h).1, h]
theorem joins_get2 {a b : ByteArray} {n j : Nat} {t : AT} (hn : n = (ups (toks a)).length) (h : (ups (toks b))[j]? = some t) : (ups (toks (a ++ ⟨#[10]⟩ ++ b)))[n + j]? = some ⟨t.kind, t.text, t.pos + (a.size + 1)⟩ := by
  have e3 := joined_toks a b
  unfold joined at e3
  rw [e3]
  unfold ups at h hn ⊢
  rw [List.map_append, List.getElem?_append_right (by omega), hn]
  rw [List.getElem?_map] at h
  obtain ⟨u, hu, he⟩ := Option.map_eq_some_iff.1 h
  rw [Nat.add_sub_cancel_left, List.map_map, List.getElem?_map, hu, ← he]
  simp [Tok.up, Tok.shift]
theorem joins_pos {b : ByteArray} {j : Nat} {t : AT} (h : (ups (toks b))[j]? = some t) : 0 ≤ t.pos ∧ t.pos ≤ b.size ∧ 0 ≤ t.kind ∧ t.kind ≤ 255 := by
  unfold ups at h
  rw [List.getElem?_map] at h
  obtain ⟨u, hu, he⟩ := Option.map_eq_some_iff.1 h
  have h1 := toksF_pos (f := 2 * b.size + 1) (o := false) (Nat.zero_le _) u (List.mem_of_getElem? hu)
  have h2 := (toks_ok b u (List.mem_of_getElem? hu)).2
  rw [← he]
  simp only [Tok.up]
  omega

set_option maxHeartbeats 4000000 in
theorem joins_none (a b : ByteArray) (w : World) (ha : a.size ≤ 2000) (hb : b.size ≤ 2000) (h1 : lexBad a = none) (h2 : lexBad b = none) :
    Calls Try.prog 9 #[.string a, .string b] w fun e w' => e = .returned (.bool true) ∧ Below w.heap.size w w' := by
  have hbw := Below.refl w.heap.size w
  have h3 := joined_none ha hb h1 h2
  have hm : a.size ≤ maxLen := by unfold maxLen; omega
  have hmb : b.size ≤ maxLen := by unfold maxLen; omega
  have hmj : (joined a b).size ≤ maxLen := by rw [joined_size]; unfold maxLen; omega
  unfold joined at h3 hmj
  have Hh1 := Lib.hid h1; clear h1; have Hh2 := Lib.hid h2; clear h2; have Hh3 := Lib.hid h3; clear h3
  go_enter Try.func9, Try.ntmps9
  go_wp2_with (first
    | (go_at_call 11; go_must (refine (awake_any _).mono ?_; rintro e wx ⟨rfl, hbx⟩; replace hbw := below_step (by first | exact hbw | exact below_drewN hbw _) hbx; clear hbx))
    | (go_at_call 19; first
      | ((with_reducible refine (lex_gen a _ hm Hh1.out).mono ?_); rintro e wx ⟨hbx, A1, n1, C1, rfl, hA1⟩; replace hbw := below_step (by first | exact hbw | exact below_drewN hbw _) hbx; clear hbx)
      | ((with_reducible refine (lex_gen b _ hmb Hh2.out).mono ?_); rintro e wx ⟨hbx, A2, n2, C2, rfl, hA2⟩; replace hbw := below_step (by first | exact hbw | exact below_drewN hbw _) hbx; replace hA1 := hA1.below hbx; clear hbx)
      | (go_must ((with_reducible refine (lex_gen _ _ hmj Hh3.out).mono ?_); rintro e wx ⟨hbx, A3, n3, C3, rfl, hA3⟩; replace hbw := below_step (by first | exact hbw | exact below_drewN hbw _) hbx; replace hA1 := hA1.below hbx; replace hA2 := hA2.below hbx; clear hbx; have hl := joins_len ha hb hA1.1 hA2.1 hA3.1; obtain ⟨rfl, b1, b2⟩ := hl))))
  have HA1 := Lib.hid hA1.2
  have HA2 := Lib.hid hA2.2
  have HA3 := Lib.hid hA3.2
  have L1 := Lib.hid hA1.1
  have L2 := Lib.hid hA2.1
  have L3 := Lib.hid hA3.1
  clear hA1 hA2 hA3
  go_loopg [14] n1 (fun m i wr => ∃ j : Nat, Hid (m = n1 - j) ∧ i = .int .i64 j ∧ j ≤ n1 ∧ ∃ d, wr = wx.drewN d)
  case atStart => exact ⟨0, Lib.hid rfl, rfl, Nat.zero_le _, 0, rfl⟩
  case round =>
    obtain ⟨j, hm, rfl, hj, d, rfl⟩ := hrel
    by_cases hlt : j < n1
    · obtain ⟨⟨kd, tx, ps⟩, ht⟩ : ∃ t, (ups (toks a))[j]? = some t := ⟨_, List.getElem?_eq_getElem (by rw [← L1.out]; exact hlt)⟩
      obtain ⟨p1, o1, rfl, _, c0, c1, c2⟩ := HA1.out j _ ht
      obtain ⟨p3, o3, rfl, _, d0, d1, d2⟩ := HA3.out j _ (joins_get1 ht)
      clear ht
      simp only at c0 c1 c2 d0 d1 d2
      go_wp2
      go_region
      go_wp2
      go_roundg (n1 - (j + 1))
      case measure => rw [hm.out]; omega
      case rel => exact ⟨j + 1, Lib.hid rfl, by go_num, by omega, _, rfl⟩
    · go_wp2
      replace hbw := below_drewN hbw d
      have HB2 := Lib.hid (TokGen.below (w1 := wx.drewN d) (show TokGen wx A2 n2 _ from ⟨L2.out, HA2.out⟩) (below_drewN (Below.refl _ _) d))
      have HB3 := Lib.hid (TokGen.below (w1 := wx.drewN d) (show TokGen wx A3 (n1 + n2) _ from ⟨L3.out, HA3.out⟩) (below_drewN (Below.refl _ _) d))
      generalize wx.drewN d = wy at *
      go_loopg [15] n2 (fun m i wr => ∃ j : Nat, Hid (m = n2 - j) ∧ i = .int .i64 j ∧ j ≤ n2 ∧ Below w.heap.size w wr ∧ Hid (TokGen wr A2 n2 (ups (toks b)) ∧ TokGen wr A3 (n1 + n2) (ups (toks (a ++ ⟨#[10]⟩ ++ b)))))
      case atStart => exact ⟨0, Lib.hid rfl, rfl, Nat.zero_le _, hbw, Lib.hid ⟨HB2.out, HB3.out⟩⟩
      case round =>
        clear hbw
        obtain ⟨i, hm2, rfl, hi, hbw, HT⟩ := hrel
        by_cases hlt2 : i < n2
        · obtain ⟨⟨kd, tx, ps⟩, ht⟩ : ∃ t, (ups (toks b))[i]? = some t := ⟨_, List.getElem?_eq_getElem (by rw [← L2.out]; exact hlt2)⟩
          obtain ⟨p1, o1, rfl, l1, c0, c1, c2⟩ := HT.out.1.2 i _ ht
          obtain ⟨p3, o3, rfl, l3, d0, d1, d2⟩ := HT.out.2.2 (n1 + i) _ (joins_get2 L1.out ht)
          obtain ⟨q1, q2, q3, q4⟩ := joins_pos ht
          clear ht
          simp only at c0 c1 c2 d0 d1 d2 q1 q2 q3 q4
          have a1 : (n1 : Int) + i < n1 + n2 := by omega
          have a2 : IntKind.i64.wrap ((n1 : Int) + i) = n1 + i := by rw [IntKind.wrap_i64]; omega
          go_wp2
          have hal : Below wr.heap.size wr (wr.alloc (.cells #[.int .u8 kd, .string tx, .int .i64 (ps + a.size + 1)] 27)) := (Below.refl _ _).alloc (Nat.le_refl _) _
          have hnew := Blk.new wr #[.int .u8 kd, .string tx, .int .i64 (ps + a.size + 1)] 27
          have e0 := hnew.cell 0 rfl
          have e1 := hnew.cell 1 rfl
          have e2 := hnew.cell 2 rfl
          replace d0 := (hal.cell (p := ⟨p3, o3 + (n1 + i) * 3, none⟩) l3).trans d0
          replace d1 := (hal.cell (p := ⟨p3, o3 + (n1 + i) * 3 + 1, none⟩) l3).trans d1
          replace d2 := (hal.cell (p := ⟨p3, o3 + (n1 + i) * 3 + 2, none⟩) l3).trans d2
          rw [← Int.add_assoc] at d2
          replace HT := Lib.hid (And.intro (HT.out.1.below hal) (HT.out.2.below hal))
          replace hbw := below_step hbw hal
          clear c0 c1 c2 hnew hal
          generalize wr.alloc (.cells #[.int .u8 kd, .string tx, .int .i64 (ps + a.size + 1)] 27) = wz at *
          generalize wr.heap.size = Q at *
          go_region
          go_wp2
          go_roundg (n2 - (i + 1))
          case measure => rw [hm2.out]; omega
          case rel => exact ⟨i + 1, Lib.hid rfl, by go_num, by omega, below_drewN hbw 1, Lib.hid ⟨HT.out.1.below (below_drewN (Below.refl _ _) 1), HT.out.2.below (below_drewN (Below.refl _ _) 1)⟩⟩
        · go_wp2
          go_returns
          exact ⟨rfl, hbw⟩

set_option maxHeartbeats 4000000 in
theorem joins_bad2 (a b : ByteArray) (w : World) (ha : a.size ≤ 2000) (hb : b.size ≤ 2000) (p : Nat) (f : Int) (h1 : lexBad a = none) (h2 : lexBad b = some (p, f)) :
    Calls Try.prog 9 #[.string a, .string b] w fun e w' => e = .returned (.bool true) ∧ Below w.heap.size w w' := by
  have hbw := Below.refl w.heap.size w
  have h3 := joined_second ha hb h1 h2
  have hm : a.size ≤ maxLen := by unfold maxLen; omega
  have hmb : b.size ≤ maxLen := by unfold maxLen; omega
  have hmj : (joined a b).size ≤ maxLen := by rw [joined_size]; unfold maxLen; omega
  obtain ⟨hf, hp⟩ := lexBad_ne h2
  unfold joined at h3 hmj
  have hpc : ((p + (a.size + 1) : Nat) : Int) = p + a.size + 1 := by omega
  have Hh1 := Lib.hid h1; clear h1; have Hh2 := Lib.hid h2; clear h2; have Hh3 := Lib.hid h3; clear h3; have Hhpc := Lib.hid hpc; clear hpc
  go_enter Try.func9, Try.ntmps9
  go_wp2_with (first
    | (go_at_call 11; go_must (refine (awake_any _).mono ?_; rintro e wx ⟨rfl, hbx⟩; replace hbw := below_step (by first | exact hbw | exact below_drewN hbw _) hbx; clear hbx))
    | (go_at_call 19; first
      | ((with_reducible refine (lex_gen a _ hm Hh1.out).mono ?_); rintro e wx ⟨hbx, A1, n1, C1, rfl, hA1⟩; clear hA1; replace hbw := below_step (by first | exact hbw | exact below_drewN hbw _) hbx; clear hbx)
      | ((with_reducible refine (lex_any b _ hmb).mono ?_); intro e wx hx; obtain ⟨rfl, hbx⟩ := lexPost_bad hx Hh2.out; clear hx; replace hbw := below_step (by first | exact hbw | exact below_drewN hbw _) hbx; clear hbx)
      | (go_must ((with_reducible refine (lex_any _ _ hmj).mono ?_); intro e wx hx; obtain ⟨rfl, hbx⟩ := lexPost_bad hx Hh3.out; rw [Hhpc.out]; clear hx; replace hbw := below_step (by first | exact hbw | exact below_drewN hbw _) hbx; clear hbx))))
  go_returns
  exact ⟨rfl, hbw⟩

theorem lexJoins_any (a b : ByteArray) (w : World) (_ : a.size ≤ maxLen) (_ : b.size ≤ maxLen) :
    Calls Try.prog 9 #[.string a, .string b] w fun e w' => e = .returned (.bool true) ∧ Below w.heap.size w w' := by
  by_cases hl : 2000 < a.size ∨ 2000 < b.size
  · have hbw := Below.refl w.heap.size w
    by_cases hla : 2000 < a.size
    all_goals
      go_enter Try.func9, Try.ntmps9
      go_wp2_with (go_at_call 11; go_must (refine (awake_any _).mono ?_; rintro e wx ⟨rfl, hbx⟩; replace hbw := below_step (by first | exact hbw | exact below_drewN hbw _) hbx; clear hbx))
      go_returns
      exact ⟨rfl, hbw⟩
  · cases h1 : lexBad a with
    | some pf => obtain ⟨p, f⟩ := pf; exact joins_bad1 a b w (by omega) (by omega) p f h1
    | none =>
      cases h2 : lexBad b with
      | some pf => obtain ⟨p, f⟩ := pf; exact joins_bad2 a b w (by omega) (by omega) p f h1 h2
      | none => exact joins_none a b w (by omega) (by omega) h1 h2
end Go.Proofs.Ytckpkgnnbnfoeaa
