/-
  The law LexBlanks. Conditions: the strings' sizes at most maxLen, the number is an int64.
-/
import Derived.Test.YtckpkgnnbnfoeaaBlanksP
import Derived.Test.YtckpkgnnbnfoeaaCopy
import Derived.Test.YtckpkgnnbnfoeaaAlike
namespace Go.Proofs.Ytckpkgnnbnfoeaa
open Go.RowKit

/-- No byte is a newline. -/
def Clean (r : ByteArray) : Prop := ∀ i (h : i < r.size), cls r[i].toNat ≠ 2
theorem clean_empty : Clean ByteArray.empty := fun i h => absurd h (by show ¬ i < 0; omega)
theorem clean_snoc {r rm : ByteArray} {i : Nat} (h : Clean r) (hi : i < rm.size) (hc : (rm[i].toNat : Int) ≠ 10) : Clean (r ++ rm.extract i (i + 1)) := by
  intro j hj
  have hz : (rm.extract i (i + 1)).size = 1 := by rw [ByteArray.size_extract]; omega
  by_cases hlt : j < r.size
  · obtain ⟨h3, h4⟩ := app_left (c := rm.extract i (i + 1)) hlt
    rw [h4]; exact h j hlt
  · have hjr : j = r.size := by rw [ByteArray.size_append, hz] at hj; omega
    subst hjr
    obtain ⟨h3, h4⟩ := app_right (a := r) (c := rm.extract i (i + 1)) (i := 0) (by omega)
    have h5 : (r ++ rm.extract i (i + 1))[r.size] = rm[i] := by
      refine Eq.trans h4 ?_
      rw [ByteArray.getElem_extract]; rfl
    rw [h5]
    intro h6
    exact hc (by have := cls_nl h6; omega)

/-- What holds of the text when k tokens are written. -/
def Inv (s : ByteArray) (k : Nat) (x : ByteArray) : Prop := ∃ o, G o (((toks s).drop k).map kt) ∧ ∀ c, K (x ++ c) false = ((toks s).take k).map kt ++ K c o
theorem inv_start (s : ByteArray) : Inv s 0 ⟨#[10, 32, 9]⟩ := by
  refine ⟨false, G_toks s, fun c => ?_⟩
  have h1 : (⟨#[10, 32, 9]⟩ : ByteArray) ++ c = b1 10 ++ (b1 32 ++ (b1 9 ++ c)) := by
    rw [← ByteArray.append_assoc, ← ByteArray.append_assoc]; rfl
  rw [h1]
  refine (K_nl _ false).trans ?_
  refine Eq.trans (b := K (b1 32 ++ (b1 9 ++ c)) false) rfl ?_
  refine (K_blank 32 (by rfl) _ false).trans ?_
  exact (K_blank 9 (by rfl) _ false)
theorem inv_blank {s : ByteArray} {k : Nat} {x : ByteArray} (h : Inv s k x) : Inv s k (x ++ ⟨#[9, 32]⟩) := by
  obtain ⟨o, hg, h⟩ := h
  refine ⟨o, hg, fun c => ?_⟩
  have h1 : (⟨#[9, 32]⟩ : ByteArray) ++ c = b1 9 ++ (b1 32 ++ c) := by rw [← ByteArray.append_assoc]; rfl
  have h2 : K (b1 9 ++ (b1 32 ++ c)) o = K c o := (K_blank 9 (by rfl) _ o).trans (K_blank 32 (by rfl) _ o)
  rw [ByteArray.append_assoc, h1, h, h2]
theorem inv_next {s : ByteArray} {k : Nat} {t : AT} (h : (ups (toks s))[k]? = some t) : ∃ u : Tok, t = u.up ∧ (toks s).drop k = u :: (toks s).drop (k + 1) ∧ (toks s).take (k + 1) = (toks s).take k ++ [u] := by
  unfold ups at h
  rw [List.getElem?_map] at h
  obtain ⟨u, hu, he⟩ := Option.map_eq_some_iff.1 h
  obtain ⟨h1, h2⟩ := List.getElem?_eq_some_iff.1 hu
  exact ⟨u, he.symm, by rw [List.drop_eq_getElem_cons h1, h2], take_snoc hu⟩
theorem inv_tok {s : ByteArray} {k : Nat} {x tx : ByteArray} {kd ps : Int} (h : Inv s k x) (ht : (ups (toks s))[k]? = some ⟨kd, tx, ps⟩) (h4 : ¬ kd = 4) : Inv s (k + 1) (x ++ tx ++ ⟨#[32]⟩) := by
  obtain ⟨o, hg, h⟩ := h
  obtain ⟨u, hu, hd, htk⟩ := inv_next ht
  simp only [Tok.up, AT.mk.injEq] at hu
  obtain ⟨rfl, rfl, _⟩ := hu
  rw [hd, List.map_cons, G, if_neg (show ¬ (kt u).1 = 4 from fun e => h4 (by have : u.kind = 4 := e; omega))] at hg
  refine ⟨true, hg.2, fun c => ?_⟩
  have h1 : K (u.text ++ (b1 32 ++ c)) o = kt u :: K c true := by
    refine (K_tok (kd := u.kind) (tx := u.text) o hg.1 (st_32 _)).trans ?_
    rw [show K (b1 32 ++ c) true = K c true from K_blank 32 (by rfl) _ true]; rfl
  have h2 : x ++ u.text ++ ⟨#[32]⟩ ++ c = x ++ (u.text ++ (b1 32 ++ c)) := by simp only [ByteArray.append_assoc]; rfl
  rw [h2, h, h1, htk, List.map_append, List.append_assoc]; rfl
theorem inv_end {s : ByteArray} {k : Nat} {x tx r : ByteArray} {ps : Int} (h : Inv s k x) (ht : (ups (toks s))[k]? = some ⟨4, tx, ps⟩) (hr : Clean r) : Inv s (k + 1) (x ++ tx ++ ⟨#[32]⟩ ++ ⟨#[9, 35]⟩ ++ r ++ ⟨#[10, 10]⟩) := by
  obtain ⟨o, hg, h⟩ := h
  obtain ⟨u, hu, hd, htk⟩ := inv_next ht
  simp only [Tok.up, AT.mk.injEq] at hu
  obtain ⟨hk4, rfl, _⟩ := hu
  have hk : u.kind = 4 := by omega
  rw [hd, List.map_cons, G, if_pos (show (kt u).1 = 4 from hk)] at hg
  obtain ⟨rfl, h2, h3⟩ := hg
  have h2' : u.text = ByteArray.empty := h2
  refine ⟨false, h3, fun c => ?_⟩
  have e : kt u = (4, ByteArray.empty) := by unfold kt; rw [hk, h2']
  have h1 : K (b1 32 ++ (b1 9 ++ (b1 35 ++ (r ++ (b1 10 ++ (b1 10 ++ c)))))) true = kt u :: K c false := by
    refine (K_blank 32 (by rfl) _ true).trans ?_
    refine (K_blank 9 (by rfl) _ true).trans ?_
    refine (K_remark r _ true hr).trans ?_
    refine (K_nl _ true).trans ?_
    rw [e]
    refine congrArg (List.cons (4, ByteArray.empty)) ?_
    exact K_nl _ false
  have h5 : x ++ u.text ++ ⟨#[32]⟩ ++ ⟨#[9, 35]⟩ ++ r ++ ⟨#[10, 10]⟩ ++ c = x ++ (b1 32 ++ (b1 9 ++ (b1 35 ++ (r ++ (b1 10 ++ (b1 10 ++ c)))))) := by
    rw [h2', app_empty, show (⟨#[9, 35]⟩ : ByteArray) = b1 9 ++ b1 35 from rfl, show (⟨#[10, 10]⟩ : ByteArray) = b1 10 ++ b1 10 from rfl]
    simp only [ByteArray.append_assoc]; rfl
  rw [h5, h, h1, htk, List.map_append, List.append_assoc]; rfl
theorem inv_done {s x : ByteArray} {k : Nat} (hk : k = (toks s).length) (h : Inv s k x) : (toks x).map kt = (toks s).map kt := by
  subst hk
  obtain ⟨o, hg, h⟩ := h
  rw [List.drop_length] at hg
  have ho : o = false := hg
  subst ho
  have := h ByteArray.empty
  rw [app_empty, K_empty, List.take_length] at this
  rw [toks_rest]
  have h2 : (restT x 0 false).map kt = (toks s).map kt ++ (if false = true then [(4, ByteArray.empty)] else []) := this
  simpa using h2
theorem inv_bad {s x : ByteArray} (h : (toks x).map kt = (toks s).map kt) (hb : lexBad s = none) (hz : ¬ 16384 < x.size) : lexBad x = none := by
  unfold lexBad at hb ⊢
  split at hb
  · cases hb
  · rw [if_neg hz]
    rw [Option.map_eq_none_iff] at hb ⊢
    exact firstBad_kt _ _ h hb
/-- A token without its place. -/
def bareT (t : AT) : AT := ⟨t.kind, t.text, 0⟩
theorem bare_eq {s x : ByteArray} (h : (toks x).map kt = (toks s).map kt) : (ups (toks x)).map bareT = (ups (toks s)).map bareT := by
  have hf : ∀ l : List Tok, (ups l).map bareT = (l.map kt).map fun p => ⟨p.1, p.2, 0⟩ := fun l => by
    unfold ups; rw [List.map_map, List.map_map]; rfl
  rw [hf, hf, h]
theorem kinds_has (A : Option Addr) (n C : Nat) (ts : List AT) (w : World) (hA : TokGen w A n ts) (hk : KindsOk ts) (hlen : ts.length ≤ 1000000) :
    Calls Try.prog 22 #[.slice A n C] w fun e w' => Below w.heap.size w w' ∧ ∃ A' C', e = .returned (.slice A' ts.length C') ∧ TokGen w' A' ts.length (ts.map bareT) :=
  (kinds_any A n C ts w hA hk hlen).mono fun _ _ ⟨h1, sv, he, hr⟩ => by
    obtain ⟨A', C', hv, hg⟩ := tokGen_owns rfl hr
    exact ⟨h1, A', C', by rw [he, hv], hg⟩
theorem alike_bare (A : Option Addr) (n C : Nat) (B : Option Addr) (m D : Nat) (ts : List AT) (w : World) (hA : TokGen w A n ts) (hB : TokGen w B m ts) (hlen : ts.length ≤ 1000000) :
    Calls Try.prog 20 #[.slice A n C, .slice B m D] w fun e w' => e = .returned (.bool true) ∧ Below w.heap.size w w' :=
  (alike_any A n C B m D ts ts w hA hB rfl hlen (fun j t u h1 h2 => by rw [h1] at h2; cases h2; exact ⟨rfl, rfl⟩)).mono fun _ _ ⟨he, d, hw⟩ => ⟨he, hw ▸ below_drewN (Below.refl _ _) d⟩
theorem lit_size (a : Array UInt8) : (⟨a⟩ : ByteArray).size = a.size := rfl

theorem tok_text {s : ByteArray} (hz : s.size ≤ 16384) {k : Nat} {t : AT} (h : (ups (toks s))[k]? = some t) : t.text.size ≤ 16384 := by
  unfold ups at h
  rw [List.getElem?_map] at h
  obtain ⟨u, hu, he⟩ := Option.map_eq_some_iff.1 h
  have := (toks_ok s u (List.mem_of_getElem? hu)).1
  rw [← he]
  exact Nat.le_trans this hz

set_option maxHeartbeats 4000000 in
theorem blanks_bad (s rm : ByteArray) (n : Int) (w : World) (hm : s.size ≤ maxLen) (p : Nat) (f : Int) (hb : lexBad s = some (p, f)) : Calls Try.prog 8 #[.string s, .string rm, .int .i64 n] w fun e w' => e = .returned (.bool true) ∧ Below w.heap.size w w' := by
  have hbw := Below.refl w.heap.size w
  obtain ⟨hf, _⟩ := lexBad_ne hb
  have Hhb := Lib.hid hb; clear hb
  go_enter Try.func8, Try.ntmps8
  go_wp2_with (first
    | (go_at_call 11; go_must (refine (awake_any _).mono ?_; rintro e wx ⟨rfl, hbx⟩; replace hbw := below_step (by first | exact hbw | exact below_drewN hbw _) hbx; clear hbx))
    | (go_at_call 19; go_must (refine (lex_any _ _ hm).mono ?_; intro e wx hx; obtain ⟨rfl, hbx⟩ := lexPost_bad hx Hhb.out; clear hx; replace hbw := below_step (by first | exact hbw | exact below_drewN hbw _) hbx; clear hbx)))
  go_returns
  exact ⟨rfl, hbw⟩

set_option maxRecDepth 100000 in
set_option maxHeartbeats 4000000 in
theorem blanks_none (s rm : ByteArray) (n : Int) (w : World) (hm : s.size ≤ maxLen) (hmr : rm.size ≤ maxLen) (hb : lexBad s = none) : Calls Try.prog 8 #[.string s, .string rm, .int .i64 n] w fun e w' => e = .returned (.bool true) ∧ Below w.heap.size w w' := by
  have hbw := Below.refl w.heap.size w
  have hz := lexBad_size hb
  have hmr' := hmr
  unfold maxLen at hmr'
  have Hlen := Lib.hid (toks_len s)
  have Hkk := Lib.hid (toks_kinds s)
  have Hhb := Lib.hid hb; clear hb
  go_enter Try.func8, Try.ntmps8
  go_wp2_with (first
    | (go_at_call 11; go_must (refine (awake_any _).mono ?_; rintro e wx ⟨rfl, hbx⟩; replace hbw := below_step (by first | exact hbw | exact below_drewN hbw _) hbx; clear hbx))
    | (go_at_call 19; (go_must ((with_reducible refine (lex_gen s _ hm Hhb.out).mono ?_); rintro e wx ⟨hbx, A1, n1, C1, rfl, hA⟩; have HA := Lib.hid hA; have hl1 : n1 ≤ 32769 := (by have h1 := HA.out.1; have h2 := Hlen.out; simp only [ups, List.length_map] at h1; omega); clear hA; replace hbw := below_step (by first | exact hbw | exact below_drewN hbw _) hbx; clear hbx; by_cases h500 : 500 < n1; all_goals by_cases h20 : 20 < rm.size))))
  all_goals
    first
      | (go_returns; exact ⟨rfl, hbw⟩)
      | skip
  have hr20 : rm.size ≤ 20 := by omega
  have hn500 : n1 ≤ 500 := by omega
  clear h20 h500
  go_loopg [10, 11] rm.size (fun m u i wr => ∃ (j : Nat) (r : ByteArray), Hid (m = rm.size - j) ∧ u = .string r ∧ i = .int .i64 j ∧ j ≤ rm.size ∧ r.size ≤ j ∧ Hid (Clean r) ∧ Below w.heap.size w wr ∧ Hid (TokGen wr A1 n1 (ups (toks s))))
  case atStart => exact ⟨0, ByteArray.empty, Lib.hid rfl, rfl, rfl, Nat.zero_le _, Nat.le_refl _, Lib.hid clean_empty, hbw, HA⟩
  case round =>
    clear hbw HA
    obtain ⟨j, r, hm1, rfl, rfl, hj, hrj, Hc, hbw, HA⟩ := hrel
    by_cases hlt : j < rm.size
    · by_cases h10 : (rm[j].toNat : Int) = 10
      · go_wp2
        go_roundg (rm.size - (j + 1))
        case measure => rw [hm1.out]; omega
        case rel => exact ⟨j + 1, r, Lib.hid rfl, rfl, by go_num, by omega, by omega, Hc, hbw, HA⟩
      · have Hc2 := Lib.hid (clean_snoc Hc.out hlt h10)
        have h10b : ((rm[j].toNat : Int) == 10) = false := by simpa using h10
        have wi : IntKind.i64.wrap ((j : Int) + 1) = (j : Int) + 1 := by rw [IntKind.wrap_i64]; omega
        have li : (j : Int) + 1 ≤ rm.size := (by omega); have zi : (0 : Int) ≤ (j : Int) + 1 := (by omega); have si : (j : Int) ≤ (j : Int) + 1 := (by omega)
        have mi : min (j + 1) rm.size = j + 1 := by omega
        have di : j + 1 - j = 1 := by omega
        have hxz : (rm.extract j (j + 1)).size = 1 := by rw [ByteArray.size_extract]; omega
        go_wp2
        go_roundg (rm.size - (j + 1))
        case measure => rw [hm1.out]; omega
        case rel => exact ⟨j + 1, _, Lib.hid rfl, rfl, by go_num, by omega, by rw [ByteArray.size_append, hxz]; omega, Hc2, hbw, HA⟩
    · go_wp2
      go_loopg [12, 13] n1 (fun m u i wr => ∃ (k : Nat) (x : ByteArray), Hid (m = n1 - k) ∧ u = .string x ∧ i = .int .i64 k ∧ k ≤ n1 ∧ x.size ≤ 3 + k * 16411 ∧ Below w.heap.size w wr ∧ Hid (TokGen wr A1 n1 (ups (toks s))) ∧ Hid (Inv s k x))
      case atStart => exact ⟨0, _, Lib.hid rfl, rfl, rfl, Nat.zero_le _, Nat.le_refl _, hbw, HA, Lib.hid (inv_start s)⟩
      case round =>
        clear hbw HA
        obtain ⟨k, x, hm2, rfl, rfl, hk, hx, hbw, HA, HV⟩ := hrel
        by_cases hlt2 : k < n1
        · obtain ⟨⟨kd, tx, ps⟩, ht⟩ : ∃ t, (ups (toks s))[k]? = some t := ⟨_, List.getElem?_eq_getElem (by rw [← HA.out.1]; exact hlt2)⟩
          obtain ⟨p1, o1, rfl, l1, c0, c1, c2⟩ := HA.out.2 k _ ht
          obtain ⟨q1, q2⟩ := Hkk.out _ (List.mem_of_getElem? ht)
          have htz : tx.size ≤ 16384 := tok_text hz ht
          have Ht := Lib.hid ht
          clear ht
          simp only at c0 c1 c2 q1 q2
          by_cases h4 : kd = 4
          · subst h4
            go_wp2
            all_goals
              go_roundg (n1 - (k + 1))
              case measure => rw [hm2.out]; omega
              case rel => exact ⟨k + 1, _, Lib.hid rfl, rfl, by go_num, by omega, by (simp only [ByteArray.size_append, lit_size, List.size_toArray, List.length_cons, List.length_nil]; omega), hbw, HA, by first | with_reducible exact Lib.hid (inv_end HV.out Ht.out Hc.out) | with_reducible exact Lib.hid (inv_blank (inv_end HV.out Ht.out Hc.out))⟩
          · have h4b : (kd == 4) = false := by simpa using h4
            go_wp2
            all_goals
              go_roundg (n1 - (k + 1))
              case measure => rw [hm2.out]; omega
              case rel => exact ⟨k + 1, _, Lib.hid rfl, rfl, by go_num, by omega, by (simp only [ByteArray.size_append, lit_size, List.size_toArray, List.length_cons, List.length_nil]; omega), hbw, HA, by first | with_reducible exact Lib.hid (inv_tok HV.out Ht.out h4) | with_reducible exact Lib.hid (inv_blank (inv_tok HV.out Ht.out h4))⟩
        · have hkn : n1 = k := by omega
          have hn1 : n1 = (toks s).length := by have := HA.out.1; simpa [ups] using this
          have hkt := inv_done (hkn.symm.trans hn1) HV.out
          have hxm : x.size ≤ maxLen := by unfold maxLen; omega
          have Hkt := Lib.hid hkt
          have Hn1 := Lib.hid hn1
          clear hkt hn1 hkn
          by_cases hL : 16384 < x.size
          · have Hbx : Hid (lexBad x = some (0, 3)) := Lib.hid (by unfold lexBad; rw [if_pos hL])
            go_wp2_with (go_at_call 19; go_must (refine (lex_any _ _ hxm).mono ?_; intro e wx hx; obtain ⟨rfl, hbx⟩ := lexPost_bad hx Hbx.out; clear hx; replace hbw := below_step (by first | exact hbw | exact below_drewN hbw _) hbx; clear hbx))
            go_returns
            exact ⟨rfl, hbw⟩
          · have Hbx := Lib.hid (inv_bad Hkt.out Hhb.out hL)
            have hl1 : (ups (toks s)).length ≤ 1000000 := by have := Hn1.out; simp only [ups, List.length_map]; omega
            have hl2 : (ups (toks x)).length ≤ 1000000 := by have h1 := congrArg List.length Hkt.out; simp only [List.length_map] at h1; have := Hn1.out; simp only [ups, List.length_map]; omega
            have Hl1 := Lib.hid hl1
            have Hl2 := Lib.hid hl2
            have Hl3 : Hid (((ups (toks s)).map bareT).length ≤ 1000000) := Lib.hid (by rw [List.length_map]; exact hl1)
            have Hk2 := Lib.hid (toks_kinds x)
            clear hl1 hl2
            go_wp2_with (first
              | (go_at_call 19; go_must (refine (lex_gen x _ hxm Hbx.out).mono ?_; rintro e wx ⟨hbx, A2, n2, C2, rfl, hB⟩; replace HA := Lib.hid (TokGen.below HA.out hbx); have HB := Lib.hid hB; clear hB; replace hbw := below_step (by first | exact hbw | exact below_drewN hbw _) hbx; clear hbx))
              | (go_at_call 22; first
                | ((with_reducible refine (kinds_has A1 n1 C1 (ups (toks s)) _ HA.out Hkk.out Hl1.out).mono ?_); rintro e wx ⟨hbx, A3, C3, rfl, hD⟩; replace HB := Lib.hid (TokGen.below HB.out hbx); have HD := Lib.hid hD; clear hD; replace hbw := below_step (by first | exact hbw | exact below_drewN hbw _) hbx; clear hbx)
                | (go_must ((with_reducible refine (kinds_has A2 n2 C2 (ups (toks x)) _ HB.out Hk2.out Hl2.out).mono ?_); rintro e wx ⟨hbx, A4, C4, rfl, hE⟩; replace HD := Lib.hid (TokGen.below HD.out hbx); have HE : Hid (TokGen wx A4 (ups (toks x)).length ((ups (toks s)).map bareT)) := Lib.hid (bare_eq Hkt.out ▸ hE); clear hE; replace hbw := below_step (by first | exact hbw | exact below_drewN hbw _) hbx; clear hbx)))
              | (go_at_call 20; go_must (refine (alike_bare _ _ _ _ _ _ ((ups (toks s)).map bareT) _ HD.out HE.out Hl3.out).mono ?_; rintro e wx ⟨rfl, hbx⟩; replace hbw := below_step (by first | exact hbw | exact below_drewN hbw _) hbx; clear hbx)))
            go_returns
            exact ⟨rfl, hbw⟩

theorem lexBlanks_any (s rm : ByteArray) (n : Int) (w : World) (hm : s.size ≤ maxLen) (hmr : rm.size ≤ maxLen) : Calls Try.prog 8 #[.string s, .string rm, .int .i64 n] w fun e w' => e = .returned (.bool true) ∧ Below w.heap.size w w' := by
  cases hb : lexBad s with
  | some pf => obtain ⟨p, f⟩ := pf; exact blanks_bad s rm n w hm p f hb
  | none => exact blanks_none s rm n w hm hmr hb
end Go.Proofs.Ytckpkgnnbnfoeaa
