/-
  The law of layer 4: words. Conditions: the string's size at most maxLen.
-/
import Derived.Test.YtckpkgnnbnfoeaaLexD
import Derived.Test.YtckpkgnnbnfoeaaRefB
namespace Go.Proofs.Ytckpkgnnbnfoeaa
open Go.RowKit

set_option maxHeartbeats 4000000 in
theorem words_any (s : ByteArray) (w : World) (hs : s.size ≤ maxLen) : Calls Try.prog 13 #[.string s] w fun e w' => e = .returned (.bool true) ∧ Below w.heap.size w w' := by
  obtain ⟨c1, h1⟩ : ∃ c, regOk s = c := ⟨_, rfl⟩
  obtain ⟨c2, h2⟩ : ∃ c, numOk s = c := ⟨_, rfl⟩
  obtain ⟨c3, h3⟩ : ∃ c, kept s = c := ⟨_, rfl⟩
  obtain ⟨c4, h4⟩ : ∃ c, nameOk s = c := ⟨_, rfl⟩
  have hb1 : (c1 == c1) = true := by simp
  have hb2 : (c2 == c2) = true := by simp
  have hb3 : (c3 == c3) = true := by simp
  have hb4 : (c4 == c4) = true := by simp
  have hr := Lib.hid (reg_any s w c1 h1)
  obtain ⟨a, ha⟩ : ∃ a, regV s = a := ⟨_, rfl⟩
  obtain ⟨b, hbn⟩ : ∃ b, numV s = b := ⟨_, rfl⟩
  have Hh1 := Lib.hid h1; clear h1; have Hh2 := Lib.hid h2; clear h2; have Hh3 := Lib.hid h3; clear h3; have Hh4 := Lib.hid h4; clear h4; have Hha := Lib.hid ha; clear ha; have Hhbn := Lib.hid hbn; clear hbn
  go_enter Try.func13, Try.ntmps13
  go_wp2_with (first
    | (go_at_call 23; refine (reg_any _ _ _ Hh1.out).mono ?_; rintro e w' ⟨rfl, rfl⟩; rw [Hha.out])
    | (go_at_call 28; refine (rreg_any _ _ _ Hh1.out).mono ?_; rintro e w' ⟨rfl, rfl⟩; rw [Hha.out])
    | (go_at_call 24; refine (num_any _ _ hs _ Hh2.out).mono ?_; rintro e w' ⟨rfl, rfl⟩; rw [Hhbn.out])
    | (go_at_call 29; refine (rnum_any _ _ hs _ Hh2.out).mono ?_; rintro e w' ⟨rfl, rfl⟩; rw [Hhbn.out])
    | (go_at_call 26; refine (kept_any _ _ _ Hh3.out).mono ?_; rintro e w' ⟨rfl, rfl⟩)
    | (go_at_call 30; refine (rkept_any _ _ _ Hh3.out).mono ?_; rintro e w1 ⟨rfl, hw1⟩)
    | (go_at_call 25; refine (name_any _ _ hs _ Hh4.out).mono ?_; rintro e w' ⟨rfl, rfl⟩)
    | (go_at_call 31; refine (rname_any _ _ hs _ Hh4.out).mono ?_; rintro e w2 ⟨rfl, hw2⟩))
  go_returns
  exact ⟨ret_bool (by simp), hw1.trans (hw2.mono hw1.size)⟩
end Go.Proofs.Ytckpkgnnbnfoeaa
