/-
  Package lex: Name by what it answers. Condition: the string's size at most maxLen.
-/
import Derived.Test.YtckpkgnnbnfoeaaLexC
namespace Go.Proofs.Ytckpkgnnbnfoeaa
open Go.RowKit

set_option maxHeartbeats 1000000 in
theorem name_any (s : ByteArray) (w : World) (hs : s.size ≤ maxLen) (c : Bool) (hc : nameOk s = c) :
    Calls Try.prog 25 #[.string s] w fun e w' => e = .returned (.bool c) ∧ w = w' := by
  unfold maxLen at hs
  have Hc := Lib.hid hc
  clear hc
  by_cases h : 1 ≤ s.size ∧ s.size ≤ 16
  · have hno : nameOk s = (cls s[0].toNat == 3 && !kept s && runTo goes s 1 == s.size && !((s[0].toNat : Int) == 114 && decide (1 < s.size) && (digs s s.size == s.size - 1))) := by
      rw [← tailDig_iff h.1]; unfold nameOk; rw [dif_pos h]
    have Hn := Lib.hid hno
    clear hno
    obtain ⟨h1, h2⟩ := h
    have hp : 0 < s.size := h1
    by_cases hl : cls s[0].toNat = 3
    · have hl' : (cls ↑s[0].toNat == 3) = true := by simpa using hl
      have hl'' : (cls ↑s[0].toNat != 3) = false := by simpa using hl
      by_cases hk : kept s = true
      · have Hl := Lib.hid hl'
        have Hk := Lib.hid hk
        clear hl' hk hl
        go_enter Try.func25, Try.ntmps25
        go_wp2_with (first | (go_at_call 37; refine (classOf_any _ _).mono ?_; rintro e w' ⟨rfl, rfl⟩) | (go_at_call 26; refine (kept_any _ _ true Hk.out).mono ?_; rintro e w' ⟨rfl, rfl⟩))
        go_returns
        exact ⟨ret_bool (by rw [← Hc.out, Hn.out, Hk.out]; simp), rfl⟩
      · have hk' : kept s = false := by simpa using hk
        have Hl := Lib.hid hl'
        have Hk := Lib.hid hk'
        clear hl' hk hk' hl
        go_enter Try.func25, Try.ntmps25
        go_wp2_with (first | (go_at_call 37; refine (classOf_any _ _).mono ?_; rintro e w' ⟨rfl, rfl⟩) | (go_at_call 26; refine (kept_any _ _ false Hk.out).mono ?_; rintro e w' ⟨rfl, rfl⟩))
        go_loopg [3, 4] (s.size - 1) (fun m d i wr => ∃ j : Nat, Hid (m = s.size - j) ∧ 1 ≤ j ∧ j ≤ s.size ∧ w = wr ∧ d = .int .i64 (digs s j) ∧ i = .int .i64 j ∧ Hid (runTo goes s 1 = runTo goes s j) ∧ digs s j ≤ 16)
        case atStart => exact ⟨1, Lib.hid rfl, by omega, by omega, rfl, by simp [digs], rfl, Lib.hid rfl, by simp [digs]⟩
        case round =>
          obtain ⟨j, hm, hj1, hj2, rfl, rfl, rfl, he, hdb⟩ := hrel
          by_cases hlt : j < s.size
          · by_cases hg : goes s[j].toNat = true
            · have Hg := Lib.hid hg
              clear hg
              by_cases hd : isDig s[j].toNat = true
              · have hcl : (cls ↑s[j].toNat == 4) = true := hd
                have Hs : Hid (digs s (j + 1) = digs s j + 1) := Lib.hid (by rw [digs, dif_pos ⟨by omega, hlt⟩, if_pos hd])
                clear hd
                go_wp2_with (first | (go_at_call 38; refine (inWord_any _ _ true Hg.out).mono ?_; rintro e w' ⟨rfl, rfl⟩) | (go_at_call 37; refine (classOf_any _ _).mono ?_; rintro e w' ⟨rfl, rfl⟩))
                go_roundg (s.size - (j + 1))
                case measure => rw [hm.out]; omega
                case rel => exact ⟨j + 1, Lib.hid rfl, by omega, by omega, rfl, by rw [Hs.out]; go_num, by go_num, Lib.hid (he.out.trans (runTo_step hlt Hg.out)), by have := digs_le s (j + 1); omega⟩
              · have hcl : (cls ↑s[j].toNat == 4) = false := by simpa [isDig] using hd
                have Hs : Hid (digs s (j + 1) = digs s j) := Lib.hid (by rw [digs, dif_pos ⟨by omega, hlt⟩, if_neg hd]; rfl)
                clear hd
                go_wp2_with (first | (go_at_call 38; refine (inWord_any _ _ true Hg.out).mono ?_; rintro e w' ⟨rfl, rfl⟩) | (go_at_call 37; refine (classOf_any _ _).mono ?_; rintro e w' ⟨rfl, rfl⟩))
                go_roundg (s.size - (j + 1))
                case measure => rw [hm.out]; omega
                case rel => exact ⟨j + 1, Lib.hid rfl, by omega, by omega, rfl, by rw [Hs.out], by go_num, Lib.hid (he.out.trans (runTo_step hlt Hg.out)), by have := digs_le s (j + 1); omega⟩
            · have hg' : goes s[j].toNat = false := by simpa using hg
              have hno : nameOk s = false := by
                rw [Hn.out, he.out, runTo_stop hlt hg', show (j == s.size) = false from by simp; omega]; simp
              have Hno := Lib.hid hno
              have Hg := Lib.hid hg'
              clear hg hg' hno
              go_wp2_with (go_at_call 38; refine (inWord_any _ _ false Hg.out).mono ?_; rintro e w' ⟨rfl, rfl⟩)
              go_returns
              exact ⟨ret_bool (by rw [← Hc.out, Hno.out]), rfl⟩
          · have hjs : j = s.size := by omega
            have hno : nameOk s = !((s[0].toNat : Int) == 114 && decide (1 < s.size) && (digs s j == s.size - 1)) := by
              rw [Hn.out, he.out, runTo_end (by omega), Hl.out, Hk.out, hjs]; simp
            have hdl := digs_le s j
            have Hno := Lib.hid hno
            have Hj := Lib.hid hjs
            clear hno hjs
            by_cases h0 : (s[0].toNat : Int) = 114
            · by_cases h1' : digs s j = 0
              · have h1'' : ((digs s j : Int) == 0) = true := by simp [h1']
                have H0 : Hid (((s[0].toNat : Int) == 114) = true) := Lib.hid (by simpa using h0)
                have H1 := Lib.hid h1'
                have h0' : ((s[0].toNat : Int) != 114) = false := by simpa using h0
                clear h1' h0
                go_wp2
                go_returns
                refine ⟨ret_bool ?_, rfl⟩
                rw [← Hc.out, Hno.out, H0.out, H1.out]
                by_cases hh : 1 < s.size
                · rw [show (0 == s.size - 1) = false from by simp; omega]; simp
                · rw [decide_eq_false hh]; simp
              · have h1'' : ((digs s j : Int) == 0) = false := by simpa using h1'
                have H0 : Hid (((s[0].toNat : Int) == 114) = true) := Lib.hid (by simpa using h0)
                have h0' : ((s[0].toNat : Int) != 114) = false := by simpa using h0
                clear h0
                go_wp2
                all_goals
                  go_returns
                  refine ⟨ret_bool ?_, rfl⟩
                  rw [← Hc.out, Hno.out, H0.out, show decide (1 < s.size) = true from by simp; omega]
                  rw [Bool.eq_iff_iff]; simp; omega
            · have H0 : Hid (((s[0].toNat : Int) == 114) = false) := Lib.hid (by simpa using h0)
              have h0' : ((s[0].toNat : Int) != 114) = true := by simpa using h0
              clear h0
              go_wp2
              go_returns
              exact ⟨ret_bool (by rw [← Hc.out, Hno.out, H0.out]; simp), rfl⟩
    · have hl' : (cls ↑s[0].toNat != 3) = true := by simpa using hl
      have hno : nameOk s = false := by rw [Hn.out, show (cls ↑s[0].toNat == 3) = false from by simpa using hl]; simp
      have Hno := Lib.hid hno
      clear hno hl
      go_enter Try.func25, Try.ntmps25
      go_wp2_with (go_at_call 37; refine (classOf_any _ _).mono ?_; rintro e w' ⟨rfl, rfl⟩)
      go_returns
      exact ⟨ret_bool (by rw [← Hc.out, Hno.out]), rfl⟩
  · have hno : nameOk s = false := by unfold nameOk; rw [dif_neg h]
    have Hn := Lib.hid hno
    clear hno
    have h' : s.size < 1 ∨ 16 < s.size := by omega
    clear h
    rcases h' with h | h
    all_goals
      go_enter Try.func25, Try.ntmps25
      go_wp2
      go_returns
      exact ⟨ret_bool (by rw [← Hc.out, Hn.out]), rfl⟩
end Go.Proofs.Ytckpkgnnbnfoeaa
