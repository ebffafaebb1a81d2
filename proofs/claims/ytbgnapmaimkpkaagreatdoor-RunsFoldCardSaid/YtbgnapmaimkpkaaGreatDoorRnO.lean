/-
  Package verdict: the order of outcomes, and what it calls. Conditions: the lists are as long as each other.
-/
import Derived.Test.YtbgnapmaimkpkaaGreatDoorRnS1
import Derived.BigQuiet
import Derived.Sort.Grow
set_option linter.unusedSimpArgs false
set_option linter.unusedVariables false
namespace Go.Proofs.YtbgnapmaimkpkaaGreatDoor
open Go.RowKit
set_option maxRecDepth 100000
def c8 (x y : UInt8) : Int := if x < y then -1 else if y < x then 1 else 0
theorem isNaN8 (x : UInt8) (w : World) : Calls Tryz.prog 192 #[b8 x] w fun e w' => e = .returned (.bool false) ∧ w' = w := by
  unfold Go.Proofs.YtbgnapmaimkpkaaGreatDoor.b8
  go_enter Tryz.func192, Tryz.ntmps192
  go_wp2
  go_ret
  exact ⟨by simp, rfl⟩
theorem cmp8_any (x y : UInt8) (w : World) : Calls Tryz.prog 181 #[b8 x, b8 y] w fun e w' => e = .returned (.int .i64 (c8 x y)) ∧ w' = w := by
  have n1 := isNaN8 x
  have n2 := isNaN8 y
  unfold Go.Proofs.YtbgnapmaimkpkaaGreatDoor.b8 at *
  go_enter Tryz.func181, Tryz.ntmps181
  go_wp2_with (go_at_call 192; first | (refine (n1 _).mono ?_; rintro e w' ⟨rfl, rfl⟩) | (refine (n2 _).mono ?_; rintro e w' ⟨rfl, rfl⟩))
  all_goals (go_ret; refine ⟨?_, rfl⟩; unfold c8; simp only [UInt8.lt_iff_toNat_lt]; (repeat' split) <;> first | rfl | (exfalso; omega))
theorem lex_step {xs ys : List UInt8} {i : Nat} {x y : UInt8} (hx : xs[i]? = some x) (hy : ys[i]? = some y) : lexC (xs.drop i) (ys.drop i) = if c8 x y = 0 then lexC (xs.drop (i + 1)) (ys.drop (i + 1)) else c8 x y := by
  obtain ⟨h1, rfl⟩ := List.getElem?_eq_some_iff.1 hx
  obtain ⟨h2, rfl⟩ := List.getElem?_eq_some_iff.1 hy
  rw [List.drop_eq_getElem_cons h1, List.drop_eq_getElem_cons h2, lexC]
  unfold c8
  by_cases h3 : xs[i] < ys[i]
  · rw [if_pos h3, if_pos h3, if_neg (by decide)]
  · rw [if_neg h3, if_neg h3]
    by_cases h4 : ys[i] < xs[i]
    · rw [if_pos h4, if_pos h4, if_neg (by decide)]
    · rw [if_neg h4, if_neg h4, if_pos rfl]
theorem cmpS_any (b1 o1 C1 b2 o2 C2 n : Nat) (xs ys : List UInt8) (w : World) (hx : xs.length = n) (hy : ys.length = n) (hn : n ≤ 1000) (h1 : w.rangeAt b1 o1 (xs.map b8)) (h2 : w.rangeAt b2 o2 (ys.map b8)) :
    Calls Tryz.prog 139 #[.slice (some ⟨b1, o1, none⟩) n C1, .slice (some ⟨b2, o2, none⟩) n C2] w fun e w' => e = .returned (.int .i64 (lexC xs ys)) ∧ w' = w := by
  go_enter Tryz.func139, Tryz.ntmps139
  go_wp2
  go_loopg [11] n (fun m v wr => ∃ i : Nat, Hid (m = n - i) ∧ v = .int .i64 i ∧ i ≤ n ∧ wr = w ∧ Hid (lexC xs ys = lexC (xs.drop i) (ys.drop i)))
  case atStart => exact ⟨0, Lib.hid rfl, rfl, Nat.zero_le _, rfl, Lib.hid rfl⟩
  case round =>
    obtain ⟨i, hm, rfl, hi, rfl, he⟩ := hrel
    by_cases hlt : i < n
    · obtain ⟨x, ex⟩ : ∃ x, xs[i]? = some x := ⟨_, List.getElem?_eq_getElem (by omega)⟩
      obtain ⟨y, ey⟩ : ∃ x, ys[i]? = some x := ⟨_, List.getElem?_eq_getElem (by omega)⟩
      have c1 := h1 i (b8 x) (by rw [List.getElem?_map, ex]; rfl)
      have c2 := h2 i (b8 y) (by rw [List.getElem?_map, ey]; rfl)
      have c3 : wr.cell? ⟨b1, o1 + i * 1, none⟩ = some (b8 x) := by rw [Nat.mul_one]; exact c1
      have c4 : wr.cell? ⟨b2, o2 + i * 1, none⟩ = some (b8 y) := by rw [Nat.mul_one]; exact c2
      have st := lex_step ex ey
      have hcon := cmp8_any x y
      unfold Go.Proofs.YtbgnapmaimkpkaaGreatDoor.b8 at c1 c2 c3 c4 hcon
      generalize c8 x y = c at st hcon
      have Hst := Lib.hid st
      clear st h1 h2 ex ey hx hy
      by_cases h0 : c = 0
      · subst h0
        go_wp2_with (go_at_call 181; refine (hcon _).mono ?_; rintro e w' ⟨rfl, rfl⟩)
        go_roundg (n - (i + 1))
        case measure => rw [hm.out]; omega
        case rel => exact ⟨i + 1, Lib.hid rfl, by simp, by omega, rfl, Lib.hid (he.out.trans (by rw [Hst.out]; simp))⟩
      · have Hc := Lib.hid h0
        go_wp2_with (go_at_call 181; refine (hcon _).mono ?_; rintro e w' ⟨rfl, rfl⟩)
        go_returns
        exact ⟨ret_int (by rw [he.out, Hst.out, if_neg Hc.out]), rfl⟩
    · have hl : lexC (xs.drop i) (ys.drop i) = 0 := by rw [List.drop_eq_nil_of_le (by omega), List.drop_eq_nil_of_le (by omega)]; rfl
      have Hl := Lib.hid hl
      clear hl h1 h2 hx hy
      go_wp2
      go_returns
      exact ⟨ret_int (by rw [he.out, Hl.out]), rfl⟩
def cutL (o n : Nat) (f : By) : List UInt8 := ((toL 38 f).drop o).take n
theorem cut_len {o n : Nat} (f : By) (h : o + n ≤ 38) : (cutL o n f).length = n := by
  unfold cutL
  rw [List.length_take, List.length_drop, toL_len]; omega
theorem cut_range {w : World} {b o n : Nat} {f : By} (h : w.rangeAt b 0 (bs 38 f)) (hn : o + n ≤ 38) : w.rangeAt b o ((cutL o n f).map b8) := fun j v hv => by
  have hj := (List.getElem?_eq_some_iff.1 hv).1
  rw [List.length_map, cut_len f hn] at hj
  have := h (o + j) v (by
    rw [List.getElem?_map] at hv
    unfold cutL at hv
    rw [List.getElem?_take_of_lt hj, List.getElem?_drop, toL_at (by omega)] at hv;rw [bs_map];rw [List.getElem?_map, List.getElem?_map, List.getElem?_range (by omega)]
    exact hv)
  rwa [Nat.zero_add] at this
theorem lex_cut {f g : By} {o n : Nat} (h : o + n ≤ 38) : lexC ((toL 38 f).drop o) ((toL 38 g).drop o) = if lexC (cutL o n f) (cutL o n g) = 0 then lexC ((toL 38 f).drop (o + n)) ((toL 38 g).drop (o + n)) else lexC (cutL o n f) (cutL o n g) := by
  have e : ∀ f : By, (toL 38 f).drop o = cutL o n f ++ (toL 38 f).drop (o + n) := fun f => by
    unfold cutL
    rw [← List.drop_drop, List.take_append_drop]
  rw [e f, e g, lex_append _ _ (by rw [cut_len f h, cut_len g h])]
theorem grow_more {w wr : World} (n : Nat) (h : ∃ q os, wr = Go.Sort.grow (w.drewN q) os) : ∃ q os, wr.drewN n = Go.Sort.grow (w.drewN q) os := by
  obtain ⟨q, os, rfl⟩ := h
  exact ⟨q + n, os, by rw [← World.drewN_drewN]; rfl⟩
theorem lex_rest (f g : By) : lexC ((toL 38 f).drop (32 + 6)) ((toL 38 g).drop (32 + 6)) = 0 := by
  rw [List.drop_eq_nil_of_le (by rw [toL_len]; omega), List.drop_eq_nil_of_le (by rw [toL_len]; omega)]; rfl
theorem order_any (x y : By) (w : World) :
    Calls Tryz.prog 99 #[.agg (bs 38 x).toArray, .agg (bs 38 y).toArray] w fun e w' => e = .returned (.int .i64 (lexC (toL 38 x) (toL 38 y))) ∧ ∃ q os, w' = Go.Sort.grow (w.drewN q) os := by
  go_enter Tryz.func99, Tryz.ntmps99
  go_wp2
  go_loopg [7] 4 (fun m v wr => ∃ i : Nat, Hid (m = 4 - i) ∧ v = .int .i64 i ∧ i ≤ 4 ∧ Hid (Blk wr w.heap.size (bs 38 x) 47 ∧ Blk wr (w.heap.size + 1) (bs 38 y) 47 ∧ ∃ q os, wr = Go.Sort.grow (w.drewN q) os) ∧ Hid (lexC (toL 38 x) (toL 38 y) = lexC ((toL 38 x).drop (i * 8)) ((toL 38 y).drop (i * 8))))
  case atStart =>
    refine ⟨0, Lib.hid rfl, rfl, by omega, Lib.hid ⟨(Blk.new _ _ _).alloc _, Blk.newAt (by simp), 0, #[.cells (bs 38 x).toArray 47, .cells (bs 38 y).toArray 47], ?_⟩, Lib.hid (by simp)⟩
    rw [Go.Sort.alloc_eq_grow, Go.Sort.alloc_eq_grow, Go.Sort.grow_grow]
    rfl
  case round =>
    obtain ⟨i, hm, rfl, hi, hw, he⟩ := hrel
    have r1 := hw.out.1
    have r2 := hw.out.2.1
    by_cases hlt : i < 4
    · have g : i * 8 + 8 ≤ 38 := by omega
      have hcon := fun q => cmpS_any w.heap.size (i * 8) 8 (w.heap.size + 1) (i * 8) 8 8 _ _ (wr.drewN q) (cut_len x g) (cut_len y g) (by omega) (cut_range (r1.range 0 38) g) (cut_range (r2.range 0 38) g)
      have st := lex_cut (f := x) (g := y) g
      generalize lexC (cutL (i * 8) 8 x) (cutL (i * 8) 8 y) = c at st hcon
      have Hst := Lib.hid st
      clear st
      by_cases h0 : c = 0
      · subst h0
        go_wp2
        go_quiet ((go_at_call 139; exact Calls.quiet_of_same (hcon _)))
        go_wp2
        go_roundg (4 - (i + 1))
        case measure => rw [hm.out]; omega
        case rel => exact ⟨i + 1, Lib.hid rfl, by simp, by omega, Lib.hid ⟨r1, r2, grow_more _ hw.out.2.2⟩, Lib.hid (he.out.trans (by rw [Hst.out]; simp [Nat.add_mul]))⟩
      · have Hc := Lib.hid h0
        go_wp2
        go_quiet ((go_at_call 139; exact Calls.quiet_of_same (hcon _)))
        go_wp2
        go_returns
        exact ⟨ret_int (by rw [he.out, Hst.out, if_neg Hc.out]), grow_more _ hw.out.2.2⟩
    · obtain rfl : i = 4 := by omega
      have hcon := fun q => cmpS_any w.heap.size 32 6 (w.heap.size + 1) 32 6 6 _ _ (wr.drewN q) (cut_len x (by omega)) (cut_len y (by omega)) (by omega) (cut_range (r1.range 0 38) (by omega)) (cut_range (r2.range 0 38) (by omega))
      have st := lex_cut (f := x) (g := y) (o := 32) (n := 6) (by omega)
      generalize lexC (cutL 32 6 x) (cutL 32 6 y) = c at st hcon
      have Hst := Lib.hid st
      clear st
      go_wp2
      go_quiet ((go_at_call 139; exact Calls.quiet_of_same (hcon _)))
      go_wp2
      go_returns
      exact ⟨ret_int (by rw [he.out]; refine Eq.trans ?_ Hst.out.symm; rw [lex_rest]; split <;> simp_all), grow_more _ hw.out.2.2⟩
end Go.Proofs.YtbgnapmaimkpkaaGreatDoor
