/-
  Package lex: the scanner's token and next, and fault. Conditions: the source has at most 16384 bytes.
-/
import Derived.Test.YtckpkgnnbnfoeaaLexQ
namespace Go.Proofs.Ytckpkgnnbnfoeaa
open Go.RowKit

/-- A token as the program holds it. -/
def Tok.val (t : Tok) : Value := .agg #[.int .u8 t.kind, .string t.text, .int .i64 t.pos]

theorem Scan.alloc {w : World} {b : Nat} {s : ByteArray} {k : Nat} {o : Bool} (h : Scan w b s k o) (x : Obj) : Scan (w.alloc x) b s k o := Blk.alloc (h := h) x
theorem Scan.drew {w : World} {b : Nat} {s : ByteArray} {k : Nat} {o : Bool} (h : Scan w b s k o) : Scan w.drew b s k o := h
theorem Scan.other {w : World} {b : Nat} {s : ByteArray} {k : Nat} {o : Bool} (h : Scan w b s k o) (a : Addr) (hne : b ≠ a.block) (v : Value) : Scan (w.setCell a v) b s k o := Blk.setOther h a hne v
theorem Scan.open' {w : World} {b : Nat} {s : ByteArray} {k : Nat} {o : Bool} (h : Scan w b s k o) (x : Bool) : Scan (w.setCell ⟨b, 2, none⟩ (.bool x)) b s k x := Blk.set (h := h) 2 _
theorem Scan.lt {w : World} {b : Nat} {s : ByteArray} {k : Nat} {o : Bool} (h : Scan w b s k o) : b < w.heap.size := Blk.lt h

set_option maxHeartbeats 1000000 in
theorem token_any (b : Nat) (s : ByteArray) (k : Nat) (o : Bool) (w : World) (hS : Scan w b s k o) (hs : s.size ≤ 16384) (hk : k < s.size) :
    Calls Try.prog 51 #[.pointer (some ⟨b, 0, none⟩)] w fun e w' => e = .returned (tokAt s k).val ∧ Scan w' b s (tokTo s k) o ∧ w.grownBy w' (some b) := by
  have c0 := hS.cell 0 rfl
  have c1 := hS.cell 1 rfl
  have f1 := hS.frozen 1
  have hlt := hS.lt
  have hto := tokTo_le s k hk
  have hgt := tokTo_gt s k
  have hca : clsAt s k = cls s[k].toNat := by unfold clsAt; rw [dif_pos hk]
  have S1 : ∀ x n, Scan ((w.alloc x).drewN n) b s k o := fun x n => Blk.alloc (h := hS) x
  by_cases h3 : cls s[k].toNat = 3
  · have h3' : (cls ↑s[k].toNat == 3) = true := by simpa using h3
    have ht : tokTo s k = wordTo s k := by unfold tokTo; rw [hca, if_pos h3]
    have HT := Lib.hid ht
    have HV : Hid (tokAt s k = ⟨1, s.extract k (wordTo s k), k⟩) := Lib.hid (by unfold tokAt tokKind; rw [ht, hca]; rw [if_pos h3])
    rw [ht] at hto hgt
    clear ht hca
    go_enter Try.func51, Try.ntmps51
    go_wp2
    go_quiet ((first | (go_at_call 37; first | with_reducible exact quiet_add (classOf_any _ _) | with_reducible exact Calls.quiet_of (classOf_any _ _) | with_reducible exact quiet_add_left (classOf_any _ _) | with_reducible exact quiet_left (classOf_any _ _))))
    go_wp2_with (go_at_call 54; refine (wordEnd_any b s k o _ (S1 _ _) hs hk).mono ?_; rintro e w' ⟨rfl, rfl⟩)
    go_region
    go_wp2
    go_returns
    refine ⟨by rw [HV.out]; rfl, ?_, ?_⟩
    · rw [HT.out]; (repeat (first | with_reducible exact hS | with_reducible refine Scan.drew ?_ | with_reducible refine Scan.drewN ?_ _ | with_reducible refine Scan.alloc ?_ _ | refine Scan.other ?_ _ (Nat.ne_of_lt hlt) _ | refine Scan.at (k := k) ?_ _ | refine Scan.at' ?_))
    · (repeat (first | with_reducible exact only_refl _ _ | with_reducible refine only_drew ?_ | with_reducible refine only_drewN ?_ _ | with_reducible refine only_alloc ?_ _ | with_reducible refine only_setCell ?_ (by first | exact .inl rfl | exact .inr (Nat.le_refl _) | exact .inr (by simp)) _))
  · by_cases h4 : cls s[k].toNat = 4
    · have h3' : (cls ↑s[k].toNat == 3) = false := by simpa using h3
      have h4' : (cls ↑s[k].toNat == 4) = true := by simpa using h4
      have ht : tokTo s k = numTo s k := by unfold tokTo; rw [hca, if_neg h3, if_pos h4]
      have HT := Lib.hid ht
      have HV : Hid (tokAt s k = ⟨2, s.extract k (numTo s k), k⟩) := Lib.hid (by unfold tokAt tokKind; rw [ht, hca]; rw [if_neg h3, if_pos h4])
      rw [ht] at hto hgt
      clear ht hca
      go_enter Try.func51, Try.ntmps51
      go_wp2
      go_quiet ((first | (go_at_call 37; first | with_reducible exact quiet_add (classOf_any _ _) | with_reducible exact Calls.quiet_of (classOf_any _ _) | with_reducible exact quiet_add_left (classOf_any _ _) | with_reducible exact quiet_left (classOf_any _ _))))
      go_wp2_with (go_at_call 55; refine (numEnd_any b s k o _ (S1 _ _) hs hk).mono ?_; rintro e w' ⟨rfl, rfl⟩)
      go_region
      go_wp2
      go_returns
      refine ⟨by rw [HV.out]; rfl, ?_, ?_⟩
      · rw [HT.out]; (repeat (first | with_reducible exact hS | with_reducible refine Scan.drew ?_ | with_reducible refine Scan.drewN ?_ _ | with_reducible refine Scan.alloc ?_ _ | refine Scan.other ?_ _ (Nat.ne_of_lt hlt) _ | refine Scan.at (k := k) ?_ _ | refine Scan.at' ?_))
      · (repeat (first | with_reducible exact only_refl _ _ | with_reducible refine only_drew ?_ | with_reducible refine only_drewN ?_ _ | with_reducible refine only_alloc ?_ _ | with_reducible refine only_setCell ?_ (by first | exact .inl rfl | exact .inr (Nat.le_refl _) | exact .inr (by simp)) _))
    · have h3' : (cls ↑s[k].toNat == 3) = false := by simpa using h3
      have h4' : (cls ↑s[k].toNat == 4) = false := by simpa using h4
      have ht : tokTo s k = signTo s k := by unfold tokTo; rw [hca, if_neg h3, if_neg h4]
      have HT := Lib.hid ht
      have HV : Hid (tokAt s k = ⟨3, s.extract k (signTo s k), k⟩) := Lib.hid (by unfold tokAt tokKind; rw [ht, hca]; rw [if_neg h3, if_neg h4])
      rw [ht] at hto hgt
      clear ht hca
      go_enter Try.func51, Try.ntmps51
      go_wp2
      go_quiet ((first | (go_at_call 37; first | with_reducible exact quiet_add (classOf_any _ _) | with_reducible exact Calls.quiet_of (classOf_any _ _) | with_reducible exact quiet_add_left (classOf_any _ _) | with_reducible exact quiet_left (classOf_any _ _))))
      go_wp2_with (go_at_call 53; refine (signEnd_any b s k o _ (S1 _ _) hs hk).mono ?_; rintro e w' ⟨rfl, nn, rfl⟩)
      go_region
      go_wp2
      go_returns
      refine ⟨by rw [HV.out]; rfl, ?_, ?_⟩
      · rw [HT.out]; (repeat (first | with_reducible exact hS | with_reducible refine Scan.drew ?_ | with_reducible refine Scan.drewN ?_ _ | with_reducible refine Scan.alloc ?_ _ | refine Scan.other ?_ _ (Nat.ne_of_lt hlt) _ | refine Scan.at (k := k) ?_ _ | refine Scan.at' ?_))
      · (repeat (first | with_reducible exact only_refl _ _ | with_reducible refine only_drew ?_ | with_reducible refine only_drewN ?_ _ | with_reducible refine only_alloc ?_ _ | with_reducible refine only_setCell ?_ (by first | exact .inl rfl | exact .inr (Nat.le_refl _) | exact .inr (by simp)) _))
end Go.Proofs.Ytckpkgnnbnfoeaa
