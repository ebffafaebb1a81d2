/-
  The scanner's steps of package lex: passing blanks and comments, and the ends of words, numbers and signs. Conditions: those of each theorem.
-/
import Derived.Test.YtckpkgnnbnfoeaaLexA
namespace Go.Proofs.Ytckpkgnnbnfoeaa
open Go.RowKit

theorem passTo_eq {s : ByteArray} {k j : Nat} (h : runTo (fun n => cls n == 1) s k = j) :
    passTo s k = if h : j < s.size then (if cls s[j].toNat == 7 then runTo (fun n => cls n != 2) s j else j) else j := by
  subst h; rfl

set_option maxHeartbeats 1000000 in
theorem pass_any (b : Nat) (s : ByteArray) (k : Nat) (o : Bool) (w : World) (hS : Scan w b s k o) (hs : s.size ≤ 16384) (hk : k ≤ s.size) :
    Calls Try.prog 49 #[.pointer (some ⟨b, 0, none⟩)] w fun e w' => e = .returned (.tuple #[]) ∧ Scan w' b s (passTo s k) o ∧ w.grownBy w' (some b) := by
  go_enter Try.func49, Try.ntmps49
  go_wp2
  go_loopg [] (s.size - k) (fun m wr => ∃ j, Hid (m = s.size - j) ∧ k ≤ j ∧ j ≤ s.size ∧ Scan wr b s j o ∧ w.grownBy wr (some b) ∧ Hid (runTo (fun n => cls n == 1) s k = runTo (fun n => cls n == 1) s j))
  case atStart => exact ⟨k, Lib.hid rfl, Nat.le_refl _, hk, hS, only_refl _ _, Lib.hid rfl⟩
  case round =>
    obtain ⟨j, hm, hj1, hj2, hSj, hg, he⟩ := hrel
    have c0 := hSj.cell 0 rfl
    have c1 := hSj.cell 1 rfl
    have f1 := hSj.frozen 1
    clear hS
    by_cases hj : j < s.size
    · have hd : decide (s.size ≤ j) = false := by simp; omega
      by_cases h1 : cls s[j].toNat = 1
      · have h1' : (cls ↑s[j].toNat == 1) = true := by simpa using h1
        have H1 := Lib.hid h1
        clear h1
        go_wp2
        go_quiet ((first | (go_at_call 52; first | with_reducible exact quiet_add (over_any b s j o _ (hSj.drewN _) false hd) | with_reducible exact Calls.quiet_of (over_any b s j o _ (hSj.drewN _) false hd) | with_reducible exact quiet_add_left (over_any b s j o _ (hSj.drewN _) false hd) | with_reducible exact quiet_left (over_any b s j o _ (hSj.drewN _) false hd)) | (go_at_call 37; first | with_reducible exact quiet_add (classOf_any _ _) | with_reducible exact Calls.quiet_of (classOf_any _ _) | with_reducible exact quiet_add_left (classOf_any _ _) | with_reducible exact quiet_left (classOf_any _ _))))
        go_wp2
        go_roundg (s.size - (j + 1))
        case measure => rw [hm.out]; omega
        case rel => exact ⟨j + 1, Lib.hid rfl, by omega, by omega, Scan.at' (hSj.drewN _), only_setCell (only_drewN hg _) (.inl rfl) _, Lib.hid (he.out.trans (runTo_step hj h1'))⟩
      · have h1' : (cls ↑s[j].toNat == 1) = false := by simpa using h1
        have hp := passTo_eq (he.out.trans (runTo_stop hj h1'))
        rw [dif_pos hj] at hp
        by_cases h7 : cls s[j].toNat = 7
        · have h7' : (cls ↑s[j].toNat == 7) = true := by simpa using h7
          have h7n : (cls ↑s[j].toNat != 7) = false := by simpa using h7
          rw [if_pos h7'] at hp
          have Hp := Lib.hid hp
          clear h1 h7 hp
          go_wp2
          go_quiet ((first | (go_at_call 52; first | with_reducible exact quiet_add (over_any b s j o _ (hSj.drewN _) false hd) | with_reducible exact Calls.quiet_of (over_any b s j o _ (hSj.drewN _) false hd) | with_reducible exact quiet_add_left (over_any b s j o _ (hSj.drewN _) false hd) | with_reducible exact quiet_left (over_any b s j o _ (hSj.drewN _) false hd)) | (go_at_call 37; first | with_reducible exact quiet_add (classOf_any _ _) | with_reducible exact Calls.quiet_of (classOf_any _ _) | with_reducible exact quiet_add_left (classOf_any _ _) | with_reducible exact quiet_left (classOf_any _ _))))
          go_wp2
          go_quiet ((first | (go_at_call 52; first | with_reducible exact quiet_add (over_any b s j o _ (hSj.drewN _) false hd) | with_reducible exact Calls.quiet_of (over_any b s j o _ (hSj.drewN _) false hd) | with_reducible exact quiet_add_left (over_any b s j o _ (hSj.drewN _) false hd) | with_reducible exact quiet_left (over_any b s j o _ (hSj.drewN _) false hd)) | (go_at_call 37; first | with_reducible exact quiet_add (classOf_any _ _) | with_reducible exact Calls.quiet_of (classOf_any _ _) | with_reducible exact quiet_add_left (classOf_any _ _) | with_reducible exact quiet_left (classOf_any _ _))))
          go_wp2
          go_loopg [] (s.size - j) (fun m wi => ∃ i, Hid (m = s.size - i) ∧ j ≤ i ∧ i ≤ s.size ∧ Scan wi b s i o ∧ w.grownBy wi (some b) ∧ Hid (runTo (fun n => cls n != 2) s j = runTo (fun n => cls n != 2) s i))
          case atStart => exact ⟨j, Lib.hid rfl, Nat.le_refl _, hj2, (hSj.drewN _).drewN _, only_drewN (only_drewN hg _) _, Lib.hid rfl⟩
          case round =>
            obtain ⟨i, hm, hi1, hi2, hSi, hgi, hei⟩ := hrel
            clear c0 c1 f1 hSj
            have c0 := hSi.cell 0 rfl
            have c1 := hSi.cell 1 rfl
            have f1 := hSi.frozen 1
            by_cases h2 : (if h : i < s.size then cls s[i].toNat == 2 else true) = false
            · have hi : i < s.size := by
                by_cases hi : i < s.size
                · exact hi
                · rw [dif_neg hi] at h2; cases h2
              have h2' : (cls ↑s[i].toNat != 2) = true := by rw [dif_pos hi] at h2; simpa using h2
              have He := Lib.hid h2'
              have H2 := Lib.hid h2
              clear h2 h2'
              go_wp2_with (go_at_call 50; refine (atEnd_any b s i o _ hSi false H2.out).mono ?_; rintro e w' ⟨rfl, nn, rfl⟩)
              go_roundg (s.size - (i + 1))
              case measure => rw [hm.out]; omega
              case rel => exact ⟨i + 1, Lib.hid rfl, by omega, by omega, Scan.at' (hSi.drewN _), only_setCell (only_drewN hgi _) (.inl rfl) _, Lib.hid (hei.out.trans (runTo_step hi He.out))⟩
            · have h2' : (if h : i < s.size then cls s[i].toNat == 2 else true) = true := by simpa using h2
              have hr : runTo (fun n => cls n != 2) s i = i := by
                by_cases hi : i < s.size
                · rw [dif_pos hi] at h2'; exact runTo_stop hi (by simpa using h2')
                · exact runTo_end (by omega)
              have Hr := Lib.hid hr
              have H2 := Lib.hid h2'
              clear h2 h2' hr
              go_wp2_with (go_at_call 50; refine (atEnd_any b s i o _ hSi true H2.out).mono ?_; rintro e w' ⟨rfl, nn, rfl⟩)
              go_returns
              exact ⟨rfl, by rw [Hp.out, hei.out, Hr.out]; exact hSi.drewN _, only_drewN hgi _⟩
        · have h7' : (cls ↑s[j].toNat == 7) = false := by simpa using h7
          have h7n : (cls ↑s[j].toNat != 7) = true := by simpa using h7
          rw [if_neg (by simp [h7])] at hp
          have Hp := Lib.hid hp
          clear h1 h7 hp
          go_wp2
          go_quiet ((first | (go_at_call 52; first | with_reducible exact quiet_add (over_any b s j o _ (hSj.drewN _) false hd) | with_reducible exact Calls.quiet_of (over_any b s j o _ (hSj.drewN _) false hd) | with_reducible exact quiet_add_left (over_any b s j o _ (hSj.drewN _) false hd) | with_reducible exact quiet_left (over_any b s j o _ (hSj.drewN _) false hd)) | (go_at_call 37; first | with_reducible exact quiet_add (classOf_any _ _) | with_reducible exact Calls.quiet_of (classOf_any _ _) | with_reducible exact quiet_add_left (classOf_any _ _) | with_reducible exact quiet_left (classOf_any _ _))))
          go_wp2
          go_quiet ((first | (go_at_call 52; first | with_reducible exact quiet_add (over_any b s j o _ (hSj.drewN _) false hd) | with_reducible exact Calls.quiet_of (over_any b s j o _ (hSj.drewN _) false hd) | with_reducible exact quiet_add_left (over_any b s j o _ (hSj.drewN _) false hd) | with_reducible exact quiet_left (over_any b s j o _ (hSj.drewN _) false hd)) | (go_at_call 37; first | with_reducible exact quiet_add (classOf_any _ _) | with_reducible exact Calls.quiet_of (classOf_any _ _) | with_reducible exact quiet_add_left (classOf_any _ _) | with_reducible exact quiet_left (classOf_any _ _))))
          go_wp2
          go_returns
          exact ⟨rfl, by rw [Hp.out]; exact (hSj.drewN _).drewN _, only_drewN (only_drewN hg _) _⟩
    · have hd : decide (s.size ≤ j) = true := by simp; omega
      have hp := passTo_eq (he.out.trans (runTo_end (by omega)))
      rw [dif_neg hj] at hp
      have Hp := Lib.hid hp
      clear hp
      go_wp2
      go_quiet ((first | (go_at_call 52; first | with_reducible exact quiet_add (over_any b s j o _ (hSj.drewN _) true hd) | with_reducible exact Calls.quiet_of (over_any b s j o _ (hSj.drewN _) true hd) | with_reducible exact quiet_add_left (over_any b s j o _ (hSj.drewN _) true hd) | with_reducible exact quiet_left (over_any b s j o _ (hSj.drewN _) true hd)) | (go_at_call 37; first | with_reducible exact quiet_add (classOf_any _ _) | with_reducible exact Calls.quiet_of (classOf_any _ _) | with_reducible exact quiet_add_left (classOf_any _ _) | with_reducible exact quiet_left (classOf_any _ _))))
      go_wp2
      go_quiet ((first | (go_at_call 52; first | with_reducible exact quiet_add (over_any b s j o _ (hSj.drewN _) true hd) | with_reducible exact Calls.quiet_of (over_any b s j o _ (hSj.drewN _) true hd) | with_reducible exact quiet_add_left (over_any b s j o _ (hSj.drewN _) true hd) | with_reducible exact quiet_left (over_any b s j o _ (hSj.drewN _) true hd)) | (go_at_call 37; first | with_reducible exact quiet_add (classOf_any _ _) | with_reducible exact Calls.quiet_of (classOf_any _ _) | with_reducible exact quiet_add_left (classOf_any _ _) | with_reducible exact quiet_left (classOf_any _ _))))
      go_wp2
      go_returns
      exact ⟨rfl, by rw [Hp.out]; exact (hSj.drewN _).drewN _, only_drewN (only_drewN hg _) _⟩

set_option maxHeartbeats 1000000 in
theorem wordEnd_any (b : Nat) (s : ByteArray) (k : Nat) (o : Bool) (w : World) (hS : Scan w b s k o) (hs : s.size ≤ 16384) (hk : k < s.size) :
    Calls Try.prog 54 #[.pointer (some ⟨b, 0, none⟩)] w fun e w' => e = .returned (.int .i64 (wordTo s k)) ∧ w = w' := by
  have c0 := hS.cell 0 rfl
  have c1 := hS.cell 1 rfl
  go_enter Try.func54, Try.ntmps54
  go_wp2
  go_loopg [3] (s.size - (k + 1)) (fun m v wr => ∃ j : Nat, Hid (m = s.size - j) ∧ k + 1 ≤ j ∧ j ≤ s.size ∧ w = wr ∧ v = .int .i64 j ∧ Hid (runTo goes s (k + 1) = runTo goes s j))
  case atStart => exact ⟨k + 1, Lib.hid rfl, Nat.le_refl _, by omega, rfl, by go_num, Lib.hid rfl⟩
  case round =>
    obtain ⟨j, hm, hj1, hj2, rfl, rfl, he⟩ := hrel
    by_cases hj : j < s.size
    · by_cases hg : goes s[j].toNat = true
      · have Hg := Lib.hid hg
        skip
        clear hg
        go_wp2_with (go_at_call 38; refine (inWord_any _ _ true Hg.out).mono ?_; rintro e w' ⟨rfl, rfl⟩)
        go_roundg (s.size - (j + 1))
        case measure => rw [hm.out]; omega
        case rel => exact ⟨j + 1, Lib.hid rfl, by omega, by omega, rfl, by go_num, Lib.hid (he.out.trans (runTo_step hj Hg.out))⟩
      · have hg' : goes s[j].toNat = false := by simpa using hg
        have Hg := Lib.hid hg'
        skip
        clear hg hg'
        go_wp2_with (go_at_call 38; refine (inWord_any _ _ false Hg.out).mono ?_; rintro e w' ⟨rfl, rfl⟩)
        go_returns
        exact ⟨ret_int (by unfold wordTo; rw [he.out, runTo_stop hj Hg.out]), rfl⟩
    · go_wp2
      go_returns
      exact ⟨ret_int (by unfold wordTo; rw [he.out, runTo_end (by omega)]), rfl⟩

set_option maxHeartbeats 1000000 in
theorem numEnd_any (b : Nat) (s : ByteArray) (k : Nat) (o : Bool) (w : World) (hS : Scan w b s k o) (hs : s.size ≤ 16384) (hk : k < s.size) :
    Calls Try.prog 55 #[.pointer (some ⟨b, 0, none⟩)] w fun e w' => e = .returned (.int .i64 (numTo s k)) ∧ w = w' := by
  have c0 := hS.cell 0 rfl
  have c1 := hS.cell 1 rfl
  go_enter Try.func55, Try.ntmps55
  go_wp2
  go_loopg [3] (s.size - (k + 1)) (fun m v wr => ∃ j : Nat, Hid (m = s.size - j) ∧ k + 1 ≤ j ∧ j ≤ s.size ∧ w = wr ∧ v = .int .i64 j ∧ Hid (runTo isDig s (k + 1) = runTo isDig s j))
  case atStart => exact ⟨k + 1, Lib.hid rfl, Nat.le_refl _, by omega, rfl, by go_num, Lib.hid rfl⟩
  case round =>
    obtain ⟨j, hm, hj1, hj2, rfl, rfl, he⟩ := hrel
    by_cases hj : j < s.size
    · by_cases hg : isDig s[j].toNat = true
      · have Hg := Lib.hid hg
        have Hx : (cls ↑s[j].toNat == 4) = _ := Hg.out
        clear hg
        go_wp2_with (go_at_call 37; refine (classOf_any _ _).mono ?_; rintro e w' ⟨rfl, rfl⟩)
        go_roundg (s.size - (j + 1))
        case measure => rw [hm.out]; omega
        case rel => exact ⟨j + 1, Lib.hid rfl, by omega, by omega, rfl, by go_num, Lib.hid (he.out.trans (runTo_step hj Hg.out))⟩
      · have hg' : isDig s[j].toNat = false := by simpa using hg
        have Hg := Lib.hid hg'
        have Hx : (cls ↑s[j].toNat == 4) = _ := Hg.out
        clear hg hg'
        go_wp2_with (go_at_call 37; refine (classOf_any _ _).mono ?_; rintro e w' ⟨rfl, rfl⟩)
        go_returns
        exact ⟨ret_int (by unfold numTo; rw [he.out, runTo_stop hj Hg.out]), rfl⟩
    · go_wp2
      go_returns
      exact ⟨ret_int (by unfold numTo; rw [he.out, runTo_end (by omega)]), rfl⟩

set_option maxHeartbeats 1000000 in
theorem signEnd_any (b : Nat) (s : ByteArray) (k : Nat) (o : Bool) (w : World) (hS : Scan w b s k o) (hs : s.size ≤ 16384) (hk : k < s.size) :
    Calls Try.prog 53 #[.pointer (some ⟨b, 0, none⟩)] w fun e w' => e = .returned (.int .i64 (signTo s k)) ∧ ∃ n, w' = w.drewN n := by
  have c0 := hS.cell 0 rfl
  have c1 := hS.cell 1 rfl
  go_enter Try.func53, Try.ntmps53
  go_wp2
  go_quiet (fail)
  go_wp2
  all_goals
    go_returns
    refine ⟨ret_int ?_, _, rfl⟩
    unfold signTo isEq2
    first
      | (rw [dif_pos (by omega)]; simp [*]; done)
      | (rw [dif_pos (by omega)]; simp [*]; omega)
      | (rw [dif_neg (by omega)]; simp)
      | (split <;> simp [*] <;> omega)
      | (split <;> simp [*])
end Go.Proofs.Ytckpkgnnbnfoeaa
