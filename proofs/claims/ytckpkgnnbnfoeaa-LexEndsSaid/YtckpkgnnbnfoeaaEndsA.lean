/-
  The law of layer 4: LexEnds. Conditions: none.
-/
import Derived.Test.YtckpkgnnbnfoeaaSizes
namespace Go.Proofs.Ytckpkgnnbnfoeaa
open Go.RowKit

set_option maxRecDepth 100000 in
set_option maxHeartbeats 4000000 in
theorem ends_any (w : World) : Calls Try.prog 6 #[] w fun e w' => e = .returned (.bool true) ∧ Below w.heap.size w w' := by
  have hsz : (⟨#[97, 48, 61, 33, 32, 35, 10, 95, 114, 9]⟩ : ByteArray).size = 10 := rfl
  have hsz2 : (⟨#[61, 33, 43, 40, 58, 60, 97, 49, 32, 10, 35, 36]⟩ : ByteArray).size = 12 := rfl
  go_enter Try.func6, Try.ntmps6
  go_wp2
  generalize (⟨#[97, 48, 61, 33, 32, 35, 10, 95, 114, 9]⟩ : ByteArray) = y at *
  go_loopg [2] 256 (fun m b wr => ∃ j : Nat, Hid (m = 256 - j) ∧ b = .int .i64 j ∧ j ≤ 256 ∧ Below w.heap.size w wr)
  case atStart => exact ⟨0, Lib.hid rfl, rfl, by omega, Below.refl _ _⟩
  case round =>
    obtain ⟨j, hm, rfl, hj, hbw⟩ := hrel
    by_cases hlt : j < 256
    · go_wp2
      rw [conv1 wr j (by omega) (by omega)]
      obtain ⟨x, hx⟩ : ∃ x : ByteArray, (⟨#[UInt8.ofNat (j : Int).toNat]⟩ : ByteArray) = x := ⟨_, rfl⟩
      have hxs : x.size = 1 := by rw [← hx]; rfl
      rw [hx]
      clear hx
      replace hbw := hbw.alloc hbw.size (.cells #[.int .u8 j] 5)
      generalize wr.alloc (.cells #[.int .u8 j] 5) = wa at *
      go_wp2_with (first
        | (go_at_call 12; go_must (refine (lexes_any _ _ (small_size (by first | decide | omega | (rw [hxs]; omega) | (simp only [size_mk, List.size_toArray, List.length_cons, List.length_nil]; omega) | (simp only [ByteArray.size_append, size_mk, List.size_toArray, List.length_cons, List.length_nil]; omega) | (simp only [ByteArray.size_append, ByteArray.size_extract, size_mk, List.size_toArray, List.length_cons, List.length_nil]; omega)))).mono ?_; rintro e w1 ⟨rfl, hb1⟩; replace hbw := below_step (by first | exact hbw | exact below_drewN hbw _) hb1; clear hb1))
        | (go_at_call 13; go_must (refine (words_any _ _ (small_size (by first | decide | omega | (rw [hxs]; omega) | (simp only [size_mk, List.size_toArray, List.length_cons, List.length_nil]; omega) | (simp only [ByteArray.size_append, size_mk, List.size_toArray, List.length_cons, List.length_nil]; omega) | (simp only [ByteArray.size_append, ByteArray.size_extract, size_mk, List.size_toArray, List.length_cons, List.length_nil]; omega)))).mono ?_; rintro e w1 ⟨rfl, hb1⟩; replace hbw := below_step (by first | exact hbw | exact below_drewN hbw _) hb1; clear hb1)))
      go_loopg [4] 10 (fun m b wr => ∃ i : Nat, Hid (m = 10 - i) ∧ b = .int .i64 i ∧ i ≤ 10 ∧ Below w.heap.size w wr)
      case atStart => exact ⟨0, Lib.hid rfl, rfl, by omega, hbw⟩
      case round =>
        clear hbw
        obtain ⟨i, hm1, rfl, hi, hbw⟩ := hrel
        by_cases hlt1 : i < 10
        · have wi := wrap_inc (i := i) (by omega); have li : (i : Int) + 1 ≤ 10 := (by omega); have zi : (0 : Int) ≤ (i : Int) + 1 := (by omega); have si : (i : Int) ≤ (i : Int) + 1 := (by omega)
          have mi : min (i + 1) 10 = i + 1 := by omega
          have di : i + 1 - i = 1 := by omega
          have ti : ((i : Int) < 10) = True := by simp; omega
          go_wp2
          go_loopg [5] 10 (fun m b wr => ∃ k : Nat, Hid (m = 10 - k) ∧ b = .int .i64 k ∧ k ≤ 10 ∧ Below w.heap.size w wr)
          case atStart => exact ⟨0, Lib.hid rfl, rfl, by omega, hbw⟩
          case round =>
            clear hbw
            obtain ⟨k, hm2, rfl, hk, hbw⟩ := hrel
            by_cases hlt2 : k < 10
            · have wk := wrap_inc (i := k) (by omega); have lk : (k : Int) + 1 ≤ 10 := (by omega); have zk : (0 : Int) ≤ (k : Int) + 1 := (by omega); have sk : (k : Int) ≤ (k : Int) + 1 := (by omega)
              have mk : min (k + 1) 10 = k + 1 := by omega
              have dk : k + 1 - k = 1 := by omega
              go_wp2
              go_still_tail 13, (by kernel_rfl)
              change wpList _ _ _ _ _ wr.drew
              replace hbw := below_drewN hbw 1
              change Below w.heap.size w wr.drew at hbw
              generalize wr.drew = wd at *
              go_wp2_with (first
        | (go_at_call 12; go_must (refine (lexes_any _ _ (small_size (by first | decide | omega | (rw [hxs]; omega) | (simp only [size_mk, List.size_toArray, List.length_cons, List.length_nil]; omega) | (simp only [ByteArray.size_append, size_mk, List.size_toArray, List.length_cons, List.length_nil]; omega) | (simp only [ByteArray.size_append, ByteArray.size_extract, size_mk, List.size_toArray, List.length_cons, List.length_nil]; omega)))).mono ?_; rintro e w1 ⟨rfl, hb1⟩; replace hbw := below_step (by first | exact hbw | exact below_drewN hbw _) hb1; clear hb1))
        | (go_at_call 13; go_must (refine (words_any _ _ (small_size (by first | decide | omega | (rw [hxs]; omega) | (simp only [size_mk, List.size_toArray, List.length_cons, List.length_nil]; omega) | (simp only [ByteArray.size_append, size_mk, List.size_toArray, List.length_cons, List.length_nil]; omega) | (simp only [ByteArray.size_append, ByteArray.size_extract, size_mk, List.size_toArray, List.length_cons, List.length_nil]; omega)))).mono ?_; rintro e w1 ⟨rfl, hb1⟩; replace hbw := below_step (by first | exact hbw | exact below_drewN hbw _) hb1; clear hb1)))
              all_goals
                go_wp2
                go_roundg (10 - (k + 1))
                case measure => rw [hm2.out]; omega
                case rel => exact ⟨k + 1, Lib.hid rfl, by go_num, by omega, by first | exact hbw | exact below_drewN hbw _⟩
            · go_wp2
              go_roundg (10 - (i + 1))
              case measure => rw [hm1.out]; omega
              case rel => exact ⟨i + 1, Lib.hid rfl, by go_num, by omega, hbw⟩
        · go_wp2
          go_roundg (256 - (j + 1))
          case measure => rw [hm.out]; omega
          case rel => exact ⟨j + 1, Lib.hid rfl, by go_num, by omega, hbw⟩
    · go_wp2
      generalize (⟨#[61, 33, 43, 40, 58, 60, 97, 49, 32, 10, 35, 36]⟩ : ByteArray) = z at *
      go_loopg [7] 20736 (fun m b wr => ∃ n : Nat, Hid (m = 20736 - n) ∧ b = .int .i64 n ∧ n ≤ 20736 ∧ Below w.heap.size w wr)
      case atStart => exact ⟨0, Lib.hid rfl, rfl, by omega, hbw⟩
      case round =>
        clear hbw
        obtain ⟨n, hm3, rfl, hn, hbw⟩ := hrel
        by_cases hlt3 : n < 20736
        · have hxs : True := trivial
          have e1 : ((n : Int).tmod 12) = ((n % 12 : Nat) : Int) := by rw [Int.tmod_eq_emod_of_nonneg (by omega)]; omega
          have v2 : IntKind.i64.wrap ((n : Int) / 12) = (n : Int) / 12 := by rw [IntKind.wrap_i64]; omega
          have v3 : IntKind.i64.wrap ((n : Int) / 144) = (n : Int) / 144 := by rw [IntKind.wrap_i64]; omega
          have v4 : IntKind.i64.wrap ((n : Int) / 1728) = ((n / 1728 : Nat) : Int) := by rw [IntKind.wrap_i64]; omega
          have e2 : ((n : Int) / 12).tmod 12 = ((n / 12 % 12 : Nat) : Int) := by rw [Int.tmod_eq_emod_of_nonneg (by omega)]; omega
          have e3 : ((n : Int) / 144).tmod 12 = ((n / 144 % 12 : Nat) : Int) := by rw [Int.tmod_eq_emod_of_nonneg (by omega)]; omega
          obtain ⟨a1, ha1⟩ : ∃ a, n % 12 = a := ⟨_, rfl⟩
          obtain ⟨a2, ha2⟩ : ∃ a, n / 12 % 12 = a := ⟨_, rfl⟩
          obtain ⟨a3, ha3⟩ : ∃ a, n / 144 % 12 = a := ⟨_, rfl⟩
          obtain ⟨a4, ha4⟩ : ∃ a, n / 1728 = a := ⟨_, rfl⟩
          have b1 : a1 < 12 := by omega
          have b2 : a2 < 12 := by omega
          have b3 : a3 < 12 := by omega
          have b4 : a4 < 12 := by omega
          rw [ha1] at e1
          rw [ha2] at e2
          rw [ha3] at e3
          rw [ha4] at v4
          clear ha1 ha2 ha3 ha4
          have wa1 := wrap_inc (i := a1) (by omega); have la1 : (a1 : Int) + 1 ≤ 12 := (by omega); have za1 : (0 : Int) ≤ (a1 : Int) + 1 := (by omega); have sa1 : (a1 : Int) ≤ (a1 : Int) + 1 := (by omega)
          have wa2 := wrap_inc (i := a2) (by omega); have la2 : (a2 : Int) + 1 ≤ 12 := (by omega); have za2 : (0 : Int) ≤ (a2 : Int) + 1 := (by omega); have sa2 : (a2 : Int) ≤ (a2 : Int) + 1 := (by omega)
          have wa3 := wrap_inc (i := a3) (by omega); have la3 : (a3 : Int) + 1 ≤ 12 := (by omega); have za3 : (0 : Int) ≤ (a3 : Int) + 1 := (by omega); have sa3 : (a3 : Int) ≤ (a3 : Int) + 1 := (by omega)
          have wa4 := wrap_inc (i := a4) (by omega); have la4 : (a4 : Int) + 1 ≤ 12 := (by omega); have za4 : (0 : Int) ≤ (a4 : Int) + 1 := (by omega); have sa4 : (a4 : Int) ≤ (a4 : Int) + 1 := (by omega)
          have ma1 : min (a1 + 1) 12 = a1 + 1 := by omega
          have da1 : a1 + 1 - a1 = 1 := by omega
          have ma2 : min (a2 + 1) 12 = a2 + 1 := by omega
          have da2 : a2 + 1 - a2 = 1 := by omega
          have ma3 : min (a3 + 1) 12 = a3 + 1 := by omega
          have da3 : a3 + 1 - a3 = 1 := by omega
          have ma4 : min (a4 + 1) 12 = a4 + 1 := by omega
          have da4 : a4 + 1 - a4 = 1 := by omega
          go_wp2
          go_still_tail 34, (by kernel_rfl)
          change wpList _ _ _ _ _ wr.drew
          replace hbw := below_drewN hbw 1
          change Below w.heap.size w wr.drew at hbw
          generalize wr.drew = wd at *
          go_wp2_with (first
        | (go_at_call 12; go_must (refine (lexes_any _ _ (small_size (by first | decide | omega | (rw [hxs]; omega) | (simp only [size_mk, List.size_toArray, List.length_cons, List.length_nil]; omega) | (simp only [ByteArray.size_append, size_mk, List.size_toArray, List.length_cons, List.length_nil]; omega) | (simp only [ByteArray.size_append, ByteArray.size_extract, size_mk, List.size_toArray, List.length_cons, List.length_nil]; omega)))).mono ?_; rintro e w1 ⟨rfl, hb1⟩; replace hbw := below_step (by first | exact hbw | exact below_drewN hbw _) hb1; clear hb1))
        | (go_at_call 13; go_must (refine (words_any _ _ (small_size (by first | decide | omega | (rw [hxs]; omega) | (simp only [size_mk, List.size_toArray, List.length_cons, List.length_nil]; omega) | (simp only [ByteArray.size_append, size_mk, List.size_toArray, List.length_cons, List.length_nil]; omega) | (simp only [ByteArray.size_append, ByteArray.size_extract, size_mk, List.size_toArray, List.length_cons, List.length_nil]; omega)))).mono ?_; rintro e w1 ⟨rfl, hb1⟩; replace hbw := below_step (by first | exact hbw | exact below_drewN hbw _) hb1; clear hb1)))
          go_roundg (20736 - (n + 1))
          case measure => rw [hm3.out]; omega
          case rel => exact ⟨n + 1, Lib.hid rfl, by go_num, by omega, hbw⟩
        · go_wp2_with (first
            | (go_at_call 18; go_must (refine (sizes_any _).mono ?_; rintro e w1 ⟨rfl, hb1⟩; replace hbw := below_step (by first | exact hbw | exact below_drewN hbw _) hb1; clear hb1))
            | (go_at_call 11; go_must (refine (awake_any _).mono ?_; rintro e w1 ⟨rfl, hb1⟩; replace hbw := below_step (by first | exact hbw | exact below_drewN hbw _) hb1; clear hb1)))
          go_returns
          exact ⟨rfl, hbw⟩
end Go.Proofs.Ytckpkgnnbnfoeaa
