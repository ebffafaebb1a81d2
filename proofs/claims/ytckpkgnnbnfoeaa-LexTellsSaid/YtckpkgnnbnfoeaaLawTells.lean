/-
  The law LexTells. Conditions: the string's size at most maxLen.
-/
import Derived.Test.YtckpkgnnbnfoeaaLexes
import Derived.Test.YtckpkgnnbnfoeaaAwake
namespace Go.Proofs.Ytckpkgnnbnfoeaa
open Go.RowKit

set_option maxHeartbeats 4000000 in
theorem lexTells_any (s : ByteArray) (w : World) (hs : s.size ≤ maxLen) : Calls Try.prog 3 #[.string s] w fun e w' => e = .returned (.bool true) ∧ Below w.heap.size w w' := by
  by_cases h : 5000 < s.size
  · go_enter Try.func3, Try.ntmps3
    go_wp2_with (go_at_call 11; refine (awake_any _).mono ?_; rintro e w1 ⟨rfl, hb1⟩)
    go_returns
    exact ⟨rfl, hb1⟩
  · go_enter Try.func3, Try.ntmps3
    go_wp2_with (first
      | (go_at_call 12; refine (lexes_any _ _ hs).mono ?_; rintro e w1 ⟨rfl, hb1⟩)
      | (go_at_call 11; refine (awake_any _).mono ?_; rintro e w2 ⟨rfl, hb2⟩))
    go_returns
    exact ⟨rfl, hb1.trans (hb2.mono hb1.size)⟩
end Go.Proofs.Ytckpkgnnbnfoeaa
