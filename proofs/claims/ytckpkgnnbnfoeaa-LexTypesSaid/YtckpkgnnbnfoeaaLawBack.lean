/-
  The law LexBack. Conditions: the string's size at most maxLen.
-/
import Derived.Test.YtckpkgnnbnfoeaaAlike
namespace Go.Proofs.Ytckpkgnnbnfoeaa
open Go.RowKit

/-- The slice holds the tokens. -/
def Has (w : World) (A : Option Addr) (n C : Nat) (ts : List AT) : Prop := TokRead w (.slice A n C) ts ∧ ∀ k, (Value.slice A n C).ownBlock = some k → k < w.heap.size
theorem Has.gen {w : World} {A : Option Addr} {n C : Nat} {ts : List AT} (h : Has w A n C ts) : TokGen w A n ts := tokGen_of h.1 h.2
theorem Has.below {w w1 : World} {A : Option Addr} {n C : Nat} {ts : List AT} (h : Has w A n C ts) (hb : Below w.heap.size w w1) : Has w1 A n C ts :=
  ⟨h.1.below h.2 hb, fun k hk => Nat.lt_of_lt_of_le (h.2 k hk) hb.size⟩
theorem Has.drewN {w : World} {A : Option Addr} {n C : Nat} {ts : List AT} (h : Has w A n C ts) (d : Nat) : Has (w.drewN d) A n C ts := h.below (below_drewN (Below.refl _ _) d)
theorem lex_has (s : ByteArray) (w : World) (hs : s.size ≤ maxLen) (hb : lexBad s = none) : Calls Try.prog 19 #[.string s] w fun e w' => Below w.heap.size w w' ∧ ∃ A n C, e = .returned (.tuple #[.slice A n C, .int .i64 0, .int .i64 0]) ∧ Has w' A n C (ups (toks s)) :=
  (lex_none s w hs hb).mono fun _ _ ⟨h1, a, n, c, he, hr, hl⟩ => ⟨h1, a, n, c, he, hr, hl⟩
theorem type_has (s : ByteArray) (hs : s.size ≤ 16384) (A : Option Addr) (n C : Nat) (w : World) (h : Has w A n C (ups (toks s))) :
    Calls Try.prog 14 #[.slice A n C] w fun e w' => e = .returned (.string (typed s)) ∧ Below w.heap.size w w' :=
  type_any A n C _ w h.1 h.2 (toks_bound hs).1 (toks_bound hs).2
theorem alike_b (A : Option Addr) (n C : Nat) (B : Option Addr) (m D : Nat) (s : ByteArray) (hs : s.size ≤ 5000) (w : World) (hA : Has w A n C (ups (toks s))) (hB : Has w B m D (ups (toks (typed s)))) :
    Calls Try.prog 20 #[.slice A n C, .slice B m D] w fun e w' => e = .returned (.bool true) ∧ Below w.heap.size w w' := by
  have hk := typed_kt s
  have hl : (toks (typed s)).length = (toks s).length := by have := congrArg List.length hk; simpa using this
  have hz := toks_len s
  refine (alike_any A n C B m D _ _ w hA.gen hB.gen (by simp [ups, hl]) (by simp [ups]; omega) ?_).mono fun _ _ ⟨he, d, hw⟩ => ⟨he, hw ▸ below_drewN (Below.refl _ _) d⟩
  intro j t u ht hu
  unfold ups at ht hu
  rw [List.getElem?_map] at ht hu
  obtain ⟨t', ht', rfl⟩ := Option.map_eq_some_iff.1 ht
  obtain ⟨u', hu', rfl⟩ := Option.map_eq_some_iff.1 hu
  have h1 : ((toks (typed s)).map kt)[j]? = some (kt u') := by rw [List.getElem?_map, hu']; rfl
  rw [hk, List.getElem?_map, ht'] at h1
  simp only [Option.map_some, Option.some.injEq, kt, Prod.mk.injEq] at h1
  simp only [Tok.up, h1.1, h1.2, and_self]
theorem empty_b (x : ByteArray) (w : World) (hs : x.size ≤ 5000) (h : emp false x.data.toList ≠ none) : Calls Try.prog 21 #[.string x] w fun e w' => e = .returned (.bool true) ∧ Below w.heap.size w w' :=
  (empty_any x w hs h).mono fun _ _ ⟨he, d, hw⟩ => ⟨he, hw ▸ below_drewN (Below.refl _ _) d⟩

set_option maxHeartbeats 4000000 in
theorem back_bad (s : ByteArray) (w : World) (hs : s.size ≤ 5000) (p : Nat) (f : Int) (hb : lexBad s = some (p, f)) : Calls Try.prog 7 #[.string s] w fun e w' => e = .returned (.bool true) ∧ Below w.heap.size w w' := by
  have hbw := Below.refl w.heap.size w
  have hm : s.size ≤ maxLen := by unfold maxLen; omega
  obtain ⟨hf, _⟩ := lexBad_ne hb
  have Hhb := Lib.hid hb; clear hb
  go_enter Try.func7, Try.ntmps7
  go_wp2_with (first
    | (go_at_call 11; go_must (refine (awake_any _).mono ?_; rintro e wx ⟨rfl, hbx⟩; replace hbw := below_step (by first | exact hbw | exact below_drewN hbw _) hbx; clear hbx))
    | (go_at_call 19; go_must (refine (lex_any _ _ hm).mono ?_; intro e wx hx; obtain ⟨rfl, hbx⟩ := lexPost_bad hx Hhb.out; clear hx; replace hbw := below_step (by first | exact hbw | exact below_drewN hbw _) hbx; clear hbx)))
  go_returns
  exact ⟨rfl, hbw⟩

set_option maxRecDepth 100000 in
set_option maxHeartbeats 4000000 in
theorem back_none (s : ByteArray) (w : World) (hs : s.size ≤ 5000) (hb : lexBad s = none) : Calls Try.prog 7 #[.string s] w fun e w' => e = .returned (.bool true) ∧ Below w.heap.size w w' := by
  have hbw := Below.refl w.heap.size w
  have hm : s.size ≤ maxLen := by unfold maxLen; omega
  have hz := typed_size s
  have hz1 : (typed s).size ≤ 16384 := by omega
  have hz2 : (typed s).size ≤ maxLen := by unfold maxLen; omega
  have hz3 : s.size ≤ 16384 := by omega
  have hb2 := typed_none hs hb
  have htt := typed_typed s
  obtain ⟨x, hx⟩ : ∃ x, typed s = x := ⟨_, rfl⟩
  have Hlen := Lib.hid (toks_len s)
  have Hhb := Lib.hid hb; clear hb; have Hhb2 := Lib.hid hb2; clear hb2; have Hhz1 := Lib.hid hz1; clear hz1; have Hhz2 := Lib.hid hz2; clear hz2; have Hhz3 := Lib.hid hz3; clear hz3; have Hhx := Lib.hid hx; clear hx; have Hhtt := Lib.hid htt; clear htt
  clear hz
  go_enter Try.func7, Try.ntmps7
  go_wp2_with (first
    | (go_at_call 11; go_must (refine (awake_any _).mono ?_; rintro e wx ⟨rfl, hbx⟩; replace hbw := below_step (by first | exact hbw | exact below_drewN hbw _) hbx; clear hbx))
    | (go_at_call 19; first
      | ((with_reducible refine (lex_has s _ hm Hhb.out).mono ?_); rintro e wx ⟨hbx, A1, n1, C1, rfl, hA⟩; have HA := Lib.hid hA; clear hA; replace hbw := below_step (by first | exact hbw | exact below_drewN hbw _) hbx; clear hbx)
      | (go_must (rw [← Hhx.out]; (with_reducible refine (lex_has (typed s) _ Hhz2.out Hhb2.out).mono ?_); rintro e wx ⟨hbx, A2, n2, C2, rfl, hB⟩; replace HA := Lib.hid (Has.below HA.out hbx); have HB := Lib.hid hB; clear hB; replace hbw := below_step (by first | exact hbw | exact below_drewN hbw _) hbx; clear hbx; rw [Hhx.out])))
    | (go_at_call 20; go_must (refine (alike_b A1 n1 C1 A2 n2 C2 s hs _ HA.out HB.out).mono ?_; rintro e wx ⟨rfl, hbx⟩; replace HA := Lib.hid (Has.below HA.out hbx); replace HB := Lib.hid (Has.below HB.out hbx); replace hbw := below_step (by first | exact hbw | exact below_drewN hbw _) hbx; clear hbx))
    | (go_at_call 14; first
      | ((with_reducible refine (type_has s Hhz3.out A1 n1 C1 _ HA.out).mono ?_); rintro e wx ⟨rfl, hbx⟩; replace HA := Lib.hid (Has.below HA.out hbx); replace hbw := below_step (by first | exact hbw | exact below_drewN hbw _) hbx; clear hbx; rw [Hhx.out])
      | (go_must ((with_reducible refine (type_has (typed s) Hhz1.out A2 n2 C2 _ HB.out).mono ?_); rintro e wx ⟨rfl, hbx⟩; replace HA := Lib.hid (Has.below HA.out hbx); clear HB; replace hbw := below_step (by first | exact hbw | exact below_drewN hbw _) hbx; clear hbx; rw [Hhtt.out, Hhx.out]))))
  have hn1 : n1 = (toks s).length := by have := HA.out.gen.1; simpa [ups] using this
  have hn2 : n1 ≤ 10001 := by have := Hlen.out; omega
  have Hn1 := Lib.hid hn1
  clear hn1
  go_loopg [10, 11] n1 (fun m u i wr => ∃ j a : Nat, Hid (m = n1 - j) ∧ u = .int .i64 a ∧ i = .int .i64 j ∧ j ≤ n1 ∧ a ≤ s.size ∧ Hid (Chain s a ((toks s).drop j)) ∧ Hid (Has wr A1 n1 C1 (ups (toks s))) ∧ Below w.heap.size w wr)
  case atStart => exact ⟨0, 0, Lib.hid rfl, rfl, rfl, Nat.zero_le _, Nat.zero_le _, Lib.hid (chain_toks s), HA, hbw⟩
  case round =>
    clear hbw HA
    obtain ⟨j, a, hm1, rfl, rfl, hj, ha, Hc, HA, hbw⟩ := hrel
    by_cases hlt : j < n1
    · obtain ⟨⟨kd, tx, ps⟩, ht⟩ : ∃ t, (toks s)[j]? = some t := ⟨_, List.getElem?_eq_getElem (by rw [← Hn1.out]; exact hlt)⟩
      have hd : (toks s).drop j = ⟨kd, tx, ps⟩ :: (toks s).drop (j + 1) := by
        obtain ⟨h1, h2⟩ := List.getElem?_eq_some_iff.1 ht
        rw [List.drop_eq_getElem_cons h1, h2]
      have hc := Hc.out
      rw [hd] at hc
      obtain ⟨g1, g2, g3, g4, g5, g6, g7⟩ := hc
      simp only at g1 g2 g3 g4 g5 g6 g7
      have G7 := Lib.hid g7
      have G6 := Lib.hid g6
      have hu : (ups (toks s))[j]? = some ⟨kd, tx, ps⟩ := by unfold ups; rw [List.getElem?_map, ht]; rfl
      obtain ⟨p1, o1, rfl, l1, c0, c1, c2⟩ := HA.out.gen.2 j _ hu
      clear ht hd hu Hc g6 g7
      simp only at c0 c1 c2
      go_wp2
      have hal : Below wr.heap.size wr (wr.alloc (.cells #[.int .u8 kd, .string tx, .int .i64 ps] 27)) := (Below.refl _ _).alloc (Nat.le_refl _) _
      have hnew := Blk.new wr #[.int .u8 kd, .string tx, .int .i64 ps] 27
      have e0 := hnew.cell 0 rfl
      have e1 := hnew.cell 1 rfl
      have e2 := hnew.cell 2 rfl
      replace HA := Lib.hid (Has.below HA.out hal)
      replace hbw := below_step hbw hal
      clear c0 c1 c2 hnew hal l1
      generalize wr.alloc (.cells #[.int .u8 kd, .string tx, .int .i64 ps] 27) = wz at *
      generalize wr.heap.size = Q at *
      have i1 : (a : Int) ≤ ps := (by omega); have i2 : (ps : Int) ≤ s.size := (by omega); have i3 : (ps : Int) + tx.size ≤ s.size := (by omega)
      have i4 : (0 : Int) ≤ (ps : Int) + tx.size := (by omega); have i5 : (ps : Int) ≤ (ps : Int) + tx.size := (by omega); have i6 : (0 : Int) ≤ ps := (by omega)
      have i7 : IntKind.i64.wrap ((ps : Int) + tx.size) = ps + tx.size := by rw [IntKind.wrap_i64]; omega
      have i8 : min (ps + tx.size) s.size = ps + tx.size := by omega
      have i9 : min ps s.size = ps := by omega
      have m2 : ps ≤ s.size := by omega
      have g3' : s.extract ps ((ps : Int) + tx.size).toNat = tx := by rw [show ((ps : Int) + tx.size).toNat = ps + tx.size from by omega]; exact g3
      have m3 : ps ≤ ps + tx.size := by omega
      have h5 : (s.extract a ps).size ≤ 5000 := by rw [ByteArray.size_extract]; omega
      have G6' : Hid (emp false (s.extract a ps).data.toList ≠ none) := G6
      clear G6
      by_cases hk : kd = 4
      · subst hk
        have hz0 := g4.2 rfl
        have hte := toList_nil hz0
        clear g4 g5 hz0
        go_quiet ((first | (go_at_call 21; first | with_reducible exact quiet_add (empty_any _ _ h5 G6'.out) | with_reducible exact Calls.quiet_of (empty_any _ _ h5 G6'.out) | with_reducible exact quiet_add_left (empty_any _ _ h5 G6'.out) | with_reducible exact quiet_left (empty_any _ _ h5 G6'.out))))
        go_wp2
        go_roundg (n1 - (j + 1))
        case measure => rw [hm1.out]; omega
        case rel => exact ⟨j + 1, ps + tx.size, Lib.hid rfl, by go_num, by go_num, by omega, by omega, G7, Lib.hid (HA.out.drewN _), below_drewN hbw _⟩
      · have hz0 : 0 < tx.size := by
          apply Nat.pos_of_ne_zero; intro h; exact hk (g4.1 h)
        have htx := toList_ne hz0
        have htx2 := toList_isEmpty hz0
        have hk2 : ((kd : Int) == 4) = false := by simpa using (by omega : ¬ (kd : Int) = 4)
        clear g4 g5 hk
        go_quiet ((first | (go_at_call 21; first | with_reducible exact quiet_add (empty_any _ _ h5 G6'.out) | with_reducible exact Calls.quiet_of (empty_any _ _ h5 G6'.out) | with_reducible exact quiet_add_left (empty_any _ _ h5 G6'.out) | with_reducible exact quiet_left (empty_any _ _ h5 G6'.out))))
        go_wp2
        go_roundg (n1 - (j + 1))
        case measure => rw [hm1.out]; omega
        case rel => exact ⟨j + 1, ps + tx.size, Lib.hid rfl, by go_num, by go_num, by omega, by omega, G7, Lib.hid (HA.out.drewN _), below_drewN hbw _⟩
    · have hd : Hid (emp false (s.extract a s.size).data.toList ≠ none) := by
        have h := Hc.out
        rw [List.drop_eq_nil_of_le (by have := Hn1.out; omega)] at h
        exact Lib.hid h.2
      have h5 : (s.extract a s.size).size ≤ 5000 := by rw [ByteArray.size_extract]; omega
      go_wp2_with (first
        | (go_at_call 21; go_must (refine (empty_b _ _ h5 hd.out).mono ?_; rintro e wx ⟨rfl, hbx⟩; replace hbw := below_step (by first | exact hbw | exact below_drewN hbw _) hbx; clear hbx)))
      go_returns
      exact ⟨rfl, hbw⟩

theorem lexBack_any (s : ByteArray) (w : World) (_ : s.size ≤ maxLen) : Calls Try.prog 7 #[.string s] w fun e w' => e = .returned (.bool true) ∧ Below w.heap.size w w' := by
  by_cases hl : 5000 < s.size
  · have hbw := Below.refl w.heap.size w
    go_enter Try.func7, Try.ntmps7
    go_wp2_with (go_at_call 11; go_must (refine (awake_any _).mono ?_; rintro e wx ⟨rfl, hbx⟩; replace hbw := below_step (by first | exact hbw | exact below_drewN hbw _) hbx; clear hbx))
    go_returns
    exact ⟨rfl, hbw⟩
  · cases hb : lexBad s with
    | some pf => obtain ⟨p, f⟩ := pf; exact back_bad s w (by omega) p f hb
    | none => exact back_none s w (by omega) hb
end Go.Proofs.Ytckpkgnnbnfoeaa
