/-
  The law of layer 4: awake. Conditions: none.
-/
import Derived.Test.YtckpkgnnbnfoeaaLexD
import Derived.Test.YtckpkgnnbnfoeaaLexed
namespace Go.Proofs.Ytckpkgnnbnfoeaa
open Go.RowKit

def ex1 : ByteArray := ⟨#[114, 49, 32, 61, 32, 120, 32, 35, 32, 103, 101, 116, 10, 48, 58, 114, 49, 33, 61, 50]⟩
def ex1T : List Tok := [⟨1, ⟨#[114, 49]⟩, 0⟩, ⟨3, ⟨#[61]⟩, 3⟩, ⟨1, ⟨#[120]⟩, 5⟩, ⟨4, ⟨#[]⟩, 12⟩, ⟨2, ⟨#[48]⟩, 13⟩, ⟨3, ⟨#[58]⟩, 14⟩, ⟨1, ⟨#[114, 49]⟩, 15⟩, ⟨3, ⟨#[33, 61]⟩, 17⟩, ⟨2, ⟨#[50]⟩, 19⟩, ⟨4, ⟨#[]⟩, 20⟩]
theorem ex1_toks : toks ex1 = ex1T := by kernel_rfl
theorem ex1_bad : lexBad ex1 = none := by kernel_rfl
theorem ex2_bad : lexBad ⟨#[120, 32, 61, 32, 48, 55]⟩ = some (4, 41) := by kernel_rfl
theorem ex3_bad : lexBad ⟨#[120, 32, 36]⟩ = some (2, 40) := by kernel_rfl
theorem ex1_type : (⟨(typeG false (ups ex1T)).toArray⟩ : ByteArray) = ⟨#[114, 49, 32, 61, 32, 120, 10, 48, 32, 58, 32, 114, 49, 32, 33, 61, 32, 50, 10]⟩ := by kernel_rfl

theorem awake_lex1 (w : World) : Calls Try.prog 19 #[.string ⟨#[114, 49, 32, 61, 32, 120, 32, 35, 32, 103, 101, 116, 10, 48, 58, 114, 49, 33, 61, 50]⟩] w fun e w' => Below w.heap.size w w' ∧ ∃ b cap, e = .returned (.tuple #[.slice (some ⟨b, 0, none⟩) 10 cap, .int .i64 0, .int .i64 0]) ∧ b < w'.heap.size ∧ TokRead w' (.slice (some ⟨b, 0, none⟩) 10 cap) (ups ex1T) :=
  (lex_any ex1 w (by decide)).mono fun _ _ h => lexPost_some h ex1_bad ex1_toks rfl
theorem awake_lex2 (w : World) : Calls Try.prog 19 #[.string ⟨#[120, 32, 61, 32, 48, 55]⟩] w fun e w' => e = .returned (.tuple #[.slice none 0 0, .int .i64 4, .int .i64 41]) ∧ Below w.heap.size w w' :=
  (lex_any _ w (by decide)).mono fun _ _ h => lexPost_bad h ex2_bad
theorem awake_lex3 (w : World) : Calls Try.prog 19 #[.string ⟨#[120, 32, 36]⟩] w fun e w' => e = .returned (.tuple #[.slice none 0 0, .int .i64 2, .int .i64 40]) ∧ Below w.heap.size w w' :=
  (lex_any _ w (by decide)).mono fun _ _ h => lexPost_bad h ex3_bad
theorem awake_reg1 (w : World) : Calls Try.prog 23 #[.string ⟨#[114, 55]⟩] w fun e w' => e = .returned (.tuple #[.int .u8 7, .bool true]) ∧ w = w' := reg_any ⟨#[114, 55]⟩ w true (by decide +kernel)
theorem awake_reg2 (w : World) : Calls Try.prog 23 #[.string ⟨#[114, 56]⟩] w fun e w' => e = .returned (.tuple #[.int .u8 0, .bool false]) ∧ w = w' := reg_any ⟨#[114, 56]⟩ w false (by decide +kernel)
theorem awake_name1 (w : World) : Calls Try.prog 25 #[.string ⟨#[114, 49, 48]⟩] w fun e w' => e = .returned (.bool false) ∧ w = w' := name_any _ w (by decide) false (by decide +kernel)
theorem awake_name2 (w : World) : Calls Try.prog 25 #[.string ⟨#[120]⟩] w fun e w' => e = .returned (.bool true) ∧ w = w' := name_any _ w (by decide) true (by decide +kernel)

theorem tokRead_at {w w' : World} {b n cap : Nat} {ts : List AT} (h : TokRead w (.slice (some ⟨b, 0, none⟩) n cap) ts) (hlt : b < w.heap.size) (hb : Below w.heap.size w w') : TokRead w' (.slice (some ⟨b, 0, none⟩) n cap) ts :=
  h.below (by intro k hk; cases hk; exact hlt) hb
theorem awake_read {w : World} {b cap : Nat} (h : TokRead w (.slice (some ⟨b, 0, none⟩) 10 cap) (ups ex1T)) :
    (w.cell? ⟨b, 9, none⟩ = some (.int .u8 4) ∧ w.cell? ⟨b, 10, none⟩ = some (.string ⟨#[]⟩) ∧ w.cell? ⟨b, 11, none⟩ = some (.int .i64 12)) ∧
    (w.cell? ⟨b, 21, none⟩ = some (.int .u8 3) ∧ w.cell? ⟨b, 22, none⟩ = some (.string ⟨#[33, 61]⟩) ∧ w.cell? ⟨b, 23, none⟩ = some (.int .i64 17)) ∧
    (w.cell? ⟨b, 27, none⟩ = some (.int .u8 4) ∧ w.cell? ⟨b, 28, none⟩ = some (.string ⟨#[]⟩) ∧ w.cell? ⟨b, 29, none⟩ = some (.int .i64 20)) := by
  rcases h with ⟨h, _⟩ | ⟨b', off, cap', hv, hc⟩
  · cases h
  · cases hv
    exact ⟨hc 3 _ rfl, hc 7 _ rfl, hc 9 _ rfl⟩

theorem awake_type (b cap : Nat) (w : World) (hR : TokRead w (.slice (some ⟨b, 0, none⟩) 10 cap) (ups ex1T)) (hlt : b < w.heap.size) :
    Calls Try.prog 14 #[.slice (some ⟨b, 0, none⟩) 10 cap] w fun e w' => e = .returned (.string ⟨#[114, 49, 32, 61, 32, 120, 10, 48, 32, 58, 32, 114, 49, 32, 33, 61, 32, 50, 10]⟩) ∧ Below w.heap.size w w' := by
  have h := type_any (some ⟨b, 0, none⟩) 10 cap (ups ex1T) w hR (by intro k hk; cases hk; exact hlt) (by decide) (by rw [show (typeG false (ups ex1T)).length = 19 from by kernel_rfl]; omega)
  rw [ex1_type] at h
  exact h

set_option maxRecDepth 100000 in
set_option maxHeartbeats 4000000 in
theorem awake_any (w : World) : Calls Try.prog 11 #[] w fun e w' => e = .returned (.bool true) ∧ Below w.heap.size w w' := by
  go_enter Try.func11, Try.ntmps11
  go_wp2_with (first
    | (go_at_call 19; first | (with_reducible refine (awake_lex1 _).mono ?_; rintro e w1 ⟨hb1, b, cap, rfl, hlt1, hR1⟩; have HR1 := Lib.hid hR1; clear hR1) | (with_reducible refine (awake_lex2 _).mono ?_; rintro e w2 ⟨rfl, hb2⟩) | go_must (with_reducible refine (awake_lex3 _).mono ?_; rintro e w3 ⟨rfl, hb3⟩; have hlt2 := Nat.lt_of_lt_of_le hlt1 hb2.size; have hR3 := tokRead_at (tokRead_at HR1.out hlt1 hb2) hlt2 hb3; have hlt3 := Nat.lt_of_lt_of_le hlt2 hb3.size; obtain ⟨⟨k1, k2, k3⟩, ⟨k4, k5, k6⟩, k7, k8, k9⟩ := awake_read hR3; have HR3 := Lib.hid hR3; clear hR3))
    | (go_at_call 23; first | (with_reducible refine (awake_reg1 _).mono ?_; rintro e w' ⟨rfl, rfl⟩) | (with_reducible refine (awake_reg2 _).mono ?_; rintro e w' ⟨rfl, rfl⟩))
    | (go_at_call 14; go_must (with_reducible refine (awake_type _ _ _ HR3.out hlt3).mono ?_; rintro e w4 ⟨rfl, hb4⟩))
    | (go_at_call 25; first | (with_reducible refine (awake_name1 _).mono ?_; rintro e w' ⟨rfl, rfl⟩) | (with_reducible refine (awake_name2 _).mono ?_; rintro e w' ⟨rfl, rfl⟩)))
  go_returns
  exact ⟨rfl, ((hb1.trans (hb2.mono hb1.size)).trans (hb3.mono (Nat.le_trans hb1.size hb2.size))).trans (hb4.mono (Nat.le_trans hb1.size (Nat.le_trans hb2.size hb3.size)))⟩
end Go.Proofs.Ytckpkgnnbnfoeaa
