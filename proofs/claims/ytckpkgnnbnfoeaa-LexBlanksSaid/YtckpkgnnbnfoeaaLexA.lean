/-
  The byte classes of package lex, and what its small scanning methods return. Conditions: those of each theorem.
-/
import Derived.Test.YtckpkgnnbnfoeaaLexP
import Derived.Deep.LoopGhost
import Derived.Handy
namespace Go.Proofs.Ytckpkgnnbnfoeaa
open Go.RowKit

set_option maxHeartbeats 2000000 in
theorem classOf_any (n : Int) (w : World) :
    Calls Try.prog 37 #[.int .u8 n] w fun e w' => e = .returned (.int .i64 (cls n)) ∧ w = w' := by
  go_enter Try.func37, Try.ntmps37
  go_wp2
  all_goals
    go_ret
    refine ⟨ret_int ?_, rfl⟩
    try simp only [beq_iff_eq, beq_eq_false_iff_ne] at *
    unfold cls
    repeat' split
    all_goals omega

theorem inWord_any (n : Int) (w : World) (c : Bool) (hc : goes n = c) :
    Calls Try.prog 38 #[.int .u8 n] w fun e w' => e = .returned (.bool c) ∧ w = w' := by
  have Hc := Lib.hid hc
  clear hc
  go_enter Try.func38, Try.ntmps38
  go_wp2_with (go_at_call 37; refine (classOf_any _ _).mono ?_; rintro e w' ⟨rfl, rfl⟩)
  all_goals
    go_ret
    refine ⟨ret_bool ?_, rfl⟩
    rw [← Hc.out]; simp [goes, *]

/-- The scanner's block: the source, the offset, and whether the line has a token. -/
def Scan (w : World) (b : Nat) (s : ByteArray) (k : Nat) (o : Bool) : Prop := Blk w b [.string s, .int .i64 k, .bool o] 64

theorem Scan.at {w : World} {b : Nat} {s : ByteArray} {k : Nat} {o : Bool} (h : Scan w b s k o) (j : Nat) : Scan (w.setCell ⟨b, 1, none⟩ (.int .i64 j)) b s j o := Blk.set h 1 _
theorem Scan.drewN {w : World} {b : Nat} {s : ByteArray} {k : Nat} {o : Bool} (h : Scan w b s k o) (n : Nat) : Scan (w.drewN n) b s k o := h
theorem Scan.at' {w : World} {b : Nat} {s : ByteArray} {k : Nat} {o : Bool} (h : Scan w b s k o) : Scan (w.setCell ⟨b, 1, none⟩ (.int .i64 (k + 1))) b s (k + 1) o := by
  have := h.at (k + 1); rwa [Int.natCast_add] at this

theorem over_any (b : Nat) (s : ByteArray) (k : Nat) (o : Bool) (w : World) (hS : Scan w b s k o) (c : Bool) (hc : decide (s.size ≤ k) = c) :
    Calls Try.prog 52 #[.pointer (some ⟨b, 0, none⟩)] w fun e w' => e = .returned (.bool c) ∧ ∃ n, w' = w.drewN n := by
  have c0 := hS.cell 0 rfl
  have c1 := hS.cell 1 rfl
  have Hc := Lib.hid hc
  clear hc hS
  go_enter Try.func52, Try.ntmps52
  go_wp2
  go_quiet (fail)
  go_wp2
  go_ret
  exact ⟨ret_bool (by rw [← Hc.out]), _, rfl⟩

theorem atEnd_any (b : Nat) (s : ByteArray) (k : Nat) (o : Bool) (w : World) (hS : Scan w b s k o) (c : Bool) (hc : (if h : k < s.size then cls s[k].toNat == 2 else true) = c) :
    Calls Try.prog 50 #[.pointer (some ⟨b, 0, none⟩)] w fun e w' => e = .returned (.bool c) ∧ ∃ n, w' = w.drewN n := by
  have c0 := hS.cell 0 rfl
  have c1 := hS.cell 1 rfl
  have hS' := hS
  by_cases h : k < s.size
  · rw [dif_pos h] at hc
    have hd : decide (s.size ≤ k) = false := by simp; omega
    have Hc := Lib.hid hc
    clear hc hS
    go_enter Try.func50, Try.ntmps50
    go_wp2
    go_quiet ((first | (go_at_call 52; exact Calls.quiet_of (over_any b s k o _ (hS'.drewN _) false hd)) | (go_at_call 37; exact quiet_left (classOf_any _ _))))
    go_wp2
    go_ret
    exact ⟨ret_bool (by rw [← Hc.out]), _, rfl⟩
  · rw [dif_neg h] at hc
    subst hc
    have hd : decide (s.size ≤ k) = true := by simp; omega
    clear hS
    go_enter Try.func50, Try.ntmps50
    go_wp2
    go_quiet ((go_at_call 52; exact Calls.quiet_of (over_any b s k o _ (hS'.drewN _) true hd)))
    go_wp2
    go_ret
    exact ⟨rfl, _, rfl⟩
end Go.Proofs.Ytckpkgnnbnfoeaa
