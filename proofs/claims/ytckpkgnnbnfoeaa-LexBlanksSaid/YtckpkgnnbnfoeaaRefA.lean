/-
  The reference of layer 4: letter, digit, goes, sign, Num, Reg, Kept, Name by what they answer. Conditions: those of each theorem.
-/
import Derived.Test.YtckpkgnnbnfoeaaLexQ
import Derived.Deep.LoopGhost
namespace Go.Proofs.Ytckpkgnnbnfoeaa
open Go.RowKit

theorem isLet_iff {n : Int} : (cls n == 3) = true ↔ (97 ≤ n ∧ n ≤ 122 ∨ 65 ≤ n ∧ n ≤ 90) := by
  unfold cls; rw [beq_iff_eq]
  constructor
  · intro h; repeat' split at h
    all_goals omega
  · intro h; rw [if_pos h]
theorem isLet_false {n : Int} : (cls n == 3) = false ↔ ¬ (97 ≤ n ∧ n ≤ 122 ∨ 65 ≤ n ∧ n ≤ 90) := by
  rw [← isLet_iff]; simp

theorem rletter_any (n : Int) (w : World) (c : Bool) (hc : (cls n == 3) = c) :
    Calls Try.prog 39 #[.int .u8 n] w fun e w' => e = .returned (.bool c) ∧ w = w' := by
  have Hc := Lib.hid hc
  clear hc
  go_enter Try.func39, Try.ntmps39
  go_wp2
  all_goals
    go_returns
    refine ⟨ret_bool ?_, rfl⟩
    rw [← Hc.out]
    first
      | (rw [isLet_iff.2 (by omega)]; done)
      | (rw [Bool.eq_iff_iff, isLet_iff]; simp; omega)
      | (rw [isLet_false.2 (by omega)]; done)

theorem rdigit_any (n : Int) (w : World) (c : Bool) (hc : isDig n = c) :
    Calls Try.prog 41 #[.int .u8 n] w fun e w' => e = .returned (.bool c) ∧ w = w' := by
  have Hc := Lib.hid hc
  clear hc
  go_enter Try.func41, Try.ntmps41
  go_wp2
  all_goals
    go_returns
    refine ⟨ret_bool ?_, rfl⟩
    rw [← Hc.out, Bool.eq_iff_iff, isDig_iff]
    simp <;> omega

theorem goes_iff {n : Int} : goes n = true ↔ ((97 ≤ n ∧ n ≤ 122 ∨ 65 ≤ n ∧ n ≤ 90) ∨ (48 ≤ n ∧ n ≤ 57) ∨ n = 95) := by
  unfold goes
  rw [Bool.or_eq_true, Bool.or_eq_true, isLet_iff]
  have h4 : (cls n == 4) = true ↔ 48 ≤ n ∧ n ≤ 57 := isDig_iff
  rw [h4]
  have h5 : (cls n == 5) = true ↔ n = 95 := by
    unfold cls; rw [beq_iff_eq]
    constructor
    · intro h; repeat' split at h
      all_goals omega
    · rintro rfl; decide
  rw [h5]; omega

theorem rgoes_any (n : Int) (w : World) (c : Bool) (hc : goes n = c) :
    Calls Try.prog 40 #[.int .u8 n] w fun e w' => e = .returned (.bool c) ∧ w = w' := by
  have Hc := Lib.hid hc
  clear hc
  cases h3 : (cls n == 3)
  · cases h4 : isDig n
    all_goals
      have G3 := Lib.hid h3
      have G4 := Lib.hid h4
      clear h3 h4
      go_enter Try.func40, Try.ntmps40
      go_wp2_with (first | (go_at_call 39; refine (rletter_any _ _ _ G3.out).mono ?_; rintro e w' ⟨rfl, rfl⟩) | (go_at_call 41; refine (rdigit_any _ _ _ G4.out).mono ?_; rintro e w' ⟨rfl, rfl⟩))
      all_goals
        go_returns
        refine ⟨ret_bool ?_, rfl⟩
        have g3 := isLet_false.1 G3.out
        have g4 := G4.out
        rw [← Hc.out, Bool.eq_iff_iff, goes_iff]
        first
          | (have := isDig_iff.1 g4; simp; omega)
          | (have hn : ¬ (48 ≤ n ∧ n ≤ 57) := fun h => by rw [isDig_iff.2 h] at g4; cases g4
             simp; omega)
  · have G3 := Lib.hid h3
    clear h3
    go_enter Try.func40, Try.ntmps40
    go_wp2_with (go_at_call 39; refine (rletter_any _ _ _ G3.out).mono ?_; rintro e w' ⟨rfl, rfl⟩)
    go_returns
    refine ⟨ret_bool ?_, rfl⟩
    rw [← Hc.out, Bool.eq_iff_iff, goes_iff]
    have := isLet_iff.1 G3.out
    simp; omega

theorem isMark_iff {n : Int} : (cls n == 6) = true ↔ (n = 61 ∨ n = 43 ∨ n = 45 ∨ n = 94 ∨ n = 38 ∨ n = 124 ∨ n = 33 ∨ n = 40 ∨ n = 41 ∨ n = 58 ∨ n = 60) := by
  unfold cls; rw [beq_iff_eq]
  constructor
  · intro h; repeat' split at h
    all_goals omega
  · intro h; rcases h with rfl | rfl | rfl | rfl | rfl | rfl | rfl | rfl | rfl | rfl | rfl <;> decide

def signLen (s : ByteArray) (k : Nat) : Int := if isEq2 s k then 2 else if clsAt s k = 6 then 1 else 0

def markS : ByteArray := ⟨#[61, 43, 45, 94, 38, 124, 33, 40, 41, 58, 60]⟩
theorem markS_size : markS.size = 11 := rfl
def markL : List Nat := [61, 43, 45, 94, 38, 124, 33, 40, 41, 58, 60]
theorem mark_fin : ∀ i : Fin 11, (markS[i.val]'(i.isLt)).toNat = markL[i.val]'(i.isLt) := by decide +kernel
theorem mark_at (i : Nat) (h : i < markS.size) : markS[i].toNat = markL[i]'h := mark_fin ⟨i, h⟩
theorem isMark_mem {n : Nat} : (cls n == 6) = true ↔ n ∈ markL := by
  rw [isMark_iff]; simp only [markL, List.mem_cons, List.not_mem_nil, or_false]; omega
theorem mark_hit {n : Nat} {i : Nat} (h : i < markS.size) (he : (markS[i].toNat : Int) = n) : (cls n == 6) = true := by
  rw [isMark_mem]
  have : markS[i].toNat = n := by omega
  rw [← this, mark_at i h]
  exact List.getElem_mem _
theorem mark_none {n : Nat} (h : n ∉ markL.take 11) : (cls n == 6) = false := by
  rw [Bool.eq_false_iff, Ne, isMark_mem]; exact h
theorem mark_next {n i : Nat} (h : n ∉ markL.take i) (hi : i < markS.size) (he : ¬ (markS[i].toNat : Int) = n) : n ∉ markL.take (i + 1) := by
  have hl : i < markL.length := hi
  rw [List.take_succ_eq_append_getElem hl, List.mem_append]
  rintro (h1 | h1)
  · exact h h1
  · rw [List.mem_singleton] at h1
    have := mark_at i hi
    exact he (by omega)

set_option maxHeartbeats 2000000 in
theorem rsign_any (s : ByteArray) (k : Nat) (w : World) (hs : s.size ≤ 16384) (hk : k < s.size) :
    Calls Try.prog 42 #[.string s, .int .i64 k] w fun e w' => e = .returned (.int .i64 (signLen s k)) ∧ ∃ n, w' = w.drewN n := by
  have hca : clsAt s k = cls s[k].toNat := by unfold clsAt; rw [dif_pos hk]
  have H2 : isEq2 s k = true → Hid (signLen s k = 2) := fun h => Lib.hid (by unfold signLen; rw [if_pos h])
  have H1 : isEq2 s k = false → Hid (signLen s k = if (cls ↑s[k].toNat == 6) then 1 else 0) := fun h => Lib.hid (by unfold signLen; rw [if_neg (by simp [h]), hca]; simp)
  have HH := Lib.hid (⟨H2, H1⟩ : (isEq2 s k = true → Hid (signLen s k = 2)) ∧ (isEq2 s k = false → Hid (signLen s k = if (cls ↑s[k].toNat == 6) then 1 else 0)))
  clear H1 H2 hca
  go_enter Try.func42, Try.ntmps42
  go_wp2
  · go_returns
    exact ⟨ret_int ((HH.out.1 (by unfold isEq2; rw [dif_pos (by omega)]; simp [*])).out).symm, 0, rfl⟩
  · go_returns
    exact ⟨ret_int ((HH.out.1 (by unfold isEq2; rw [dif_pos (by omega)]; simp at *; simp [*]; omega)).out).symm, 0, rfl⟩
  all_goals
    have hf : isEq2 s k = false := by
      unfold isEq2
      first
        | (rw [dif_neg (by omega)])
        | (rw [dif_pos (by omega)]; simp [*]; done)
        | (rw [dif_pos (by omega)]; simp_all; done)
        | (rw [dif_pos (by omega)]; simp at *; simp [*]; done)
    have G1 := HH.out.2 hf
    clear hf HH
    generalize hsg : (ByteArray.mk #[61, 43, 45, 94, 38, 124, 33, 40, 41, 58, 60]) = sg
    have hz : sg.size ≤ 11 := by rw [← hsg]; exact Nat.le_refl 11
    have hz2 : 11 ≤ sg.size := by rw [← hsg]; exact Nat.le_refl 11
    obtain rfl : sg = markS := hsg.symm
    clear hsg
    go_loopg [6] 11 (fun m v wr => ∃ i : Nat, Hid (m = 11 - i) ∧ i ≤ 11 ∧ (∃ d, wr = w.drewN d) ∧ v = .int .i64 i ∧ Hid (s[k].toNat ∉ markL.take i))
    case atStart => exact ⟨0, Lib.hid rfl, by omega, ⟨0, rfl⟩, rfl, Lib.hid (by simp)⟩
    case round =>
      obtain ⟨i, hm, hi, ⟨d, rfl⟩, rfl, hn⟩ := hrel
      by_cases hlt : i < 11
      · have him : i < markS.size := hlt
        by_cases he : (markS[i].toNat : Int) = s[k].toNat
        · have he' : ((markS[i].toNat : Int) == (s[k].toNat : Int)) = true := by simpa using he
          have G := Lib.hid (mark_hit him he)
          clear he
          go_wp2
          go_quiet (fail)
          go_wp2
          go_returns
          exact ⟨ret_int (by rw [G1.out, G.out]; rfl), _, by first | rw [World.drewN_drewN] | rfl⟩
        · have he' : ((markS[i].toNat : Int) == (s[k].toNat : Int)) = false := by simpa using he
          have G := Lib.hid (mark_next hn.out him he)
          clear he
          go_wp2
          go_quiet (fail)
          go_wp2
          go_roundg (11 - (i + 1))
          case measure => rw [hm.out]; omega
          case rel => exact ⟨i + 1, Lib.hid rfl, by omega, ⟨_, by first | rw [World.drewN_drewN] | rfl⟩, by go_num, G⟩
      · obtain rfl : i = 11 := by omega
        have G := Lib.hid (mark_none hn.out)
        go_wp2
        go_returns
        exact ⟨ret_int (by rw [G1.out, G.out]; rfl), _, by first | rw [World.drewN_drewN] | rfl⟩

set_option maxHeartbeats 1000000 in
theorem rreg_any (s : ByteArray) (w : World) (c : Bool) (hc : regOk s = c) :
    Calls Try.prog 28 #[.string s] w fun e w' => e = .returned (.tuple #[.int .u8 (regV s), .bool c]) ∧ w = w' := by
  have Hc := Lib.hid hc
  clear hc
  go_enter Try.func28, Try.ntmps28
  go_wp2
  all_goals
    go_returns
    refine ⟨ret_num ?_ ?_, rfl⟩
    · unfold regV
      first
      | (rw [dif_pos (by omega)]; simp [regOk, *]; done)
      | (rw [dif_pos (by omega)]; simp [regOk, *]; omega)
      | (rw [dif_neg (by omega)])
    · rw [← Hc.out]; unfold regOk
      first
      | (rw [dif_pos (by omega)]; simp [*]; done)
      | (rw [dif_pos (by omega)]; simp [*]; omega)
      | (rw [dif_neg (by omega)])
end Go.Proofs.Ytckpkgnnbnfoeaa
