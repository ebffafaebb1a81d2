/-
  Package lex: Num, Reg, Kept, Name by what they answer. Conditions: the string's size at most maxLen.
-/
import Derived.Test.YtckpkgnnbnfoeaaLexB
namespace Go.Proofs.Ytckpkgnnbnfoeaa
open Go.RowKit

theorem ret_num {a b : Int} {c d : Bool} (h : a = b) (g : c = d) : Ending.returned (.tuple #[.int .u8 a, .bool c]) = .returned (.tuple #[.int .u8 b, .bool d]) := by rw [h, g]

set_option maxHeartbeats 1000000 in
theorem num_any (s : ByteArray) (w : World) (hs : s.size ≤ maxLen) (c : Bool) (hc : numOk s = c) :
    Calls Try.prog 24 #[.string s] w fun e w' => e = .returned (.tuple #[.int .u8 (numV s), .bool c]) ∧ w = w' := by
  unfold maxLen at hs
  have Hc := Lib.hid hc
  clear hc
  by_cases h : 1 ≤ s.size ∧ s.size ≤ 3
  · by_cases hz : (s[0].toNat : Int) = 48 ∧ 1 < s.size
    · have hno : numOk s = false := by unfold numOk; rw [dif_pos h]; simp [hz.1, hz.2]
      have Hn := Lib.hid hno
      obtain ⟨h1, h2⟩ := h
      obtain ⟨hz1, hz2⟩ := hz
      have hz1' : ((s[0].toNat : Int) == 48) = true := by simpa using hz1
      clear hno hz1
      go_enter Try.func24, Try.ntmps24
      go_wp2
      go_returns
      exact ⟨ret_num (by simp [numV, Hn.out]) (by rw [← Hc.out, Hn.out]), rfl⟩
    · have hgo : numOk s = (runTo isDig s 0 == s.size && decide (valTo s s.size ≤ 255)) := by
        unfold numOk; rw [dif_pos h]
        rw [show ((s[0].toNat : Int) == 48 && decide (1 < s.size)) = false from by
          rw [Bool.and_eq_false_iff]; by_cases h0 : (s[0].toNat : Int) = 48
          · exact .inr (by simp; omega)
          · exact .inl (by simpa using h0)]
        simp
      have Hg := Lib.hid hgo
      clear hgo
      obtain ⟨h1, h2⟩ := h
      have hp : 0 < s.size := h1
      have hz' : ¬ (s[0].toNat : Int) = 48 ∨ s.size ≤ 1 := by
        by_cases h0 : (s[0].toNat : Int) = 48
        · exact .inr (by omega)
        · exact .inl h0
      clear hz
      rcases hz' with hz | hz
      all_goals
        try (have hz1 : ((s[0].toNat : Int) == 48) = false := by simpa using hz)
        go_enter Try.func24, Try.ntmps24
        go_wp2
        all_goals
          go_loopg [4, 26] s.size (fun m v i wr => ∃ j : Nat, Hid (m = s.size - j) ∧ j ≤ s.size ∧ w = wr ∧ v = .int .i64 (valTo s j) ∧ i = .int .i64 j ∧ Hid (runTo isDig s 0 = runTo isDig s j) ∧ (valTo s j : Int) ≤ 999 ∧ (j ≤ 2 → (valTo s j : Int) ≤ 99) ∧ (j ≤ 1 → (valTo s j : Int) ≤ 9) ∧ (j ≤ 0 → (valTo s j : Int) ≤ 0))
          case atStart => exact ⟨0, Lib.hid rfl, Nat.zero_le _, rfl, rfl, rfl, Lib.hid rfl, by simp [valTo], by simp [valTo], by simp [valTo], by simp [valTo]⟩
          case round =>
            obtain ⟨j, hm, hj, rfl, rfl, rfl, he, b3, b2, b1, b0⟩ := hrel
            by_cases hlt : j < s.size
            · have b2' := b2 (by omega)
              by_cases hd : isDig s[j].toNat = true
              · have hd' := isDig_iff.1 hd
                obtain ⟨d1, d2⟩ := hd'
                have hcl : (cls ↑s[j].toNat != 4) = false := by have : (cls ↑s[j].toNat == 4) = true := hd; simpa using this
                have Hv := Lib.hid (valTo_succ hlt hd)
                have Hb : Hid ((j ≤ 1 → (valTo s j : Int) ≤ 9) ∧ (j ≤ 0 → (valTo s j : Int) ≤ 0)) := Lib.hid ⟨b1, b0⟩
                have Hd := Lib.hid hd
                clear b3 b2 b1 b0 hd
                go_wp2_with (go_at_call 37; refine (classOf_any _ _).mono ?_; rintro e w' ⟨rfl, rfl⟩)
                go_roundg (s.size - (j + 1))
                case measure => rw [hm.out]; omega
                case rel => exact ⟨j + 1, Lib.hid rfl, by omega, rfl, by rw [Hv.out], by go_num, Lib.hid (he.out.trans (runTo_step hlt Hd.out)), by rw [Hv.out]; omega, fun _ => by rw [Hv.out]; have := Hb.out.1 (by omega); omega, fun _ => by rw [Hv.out]; have := Hb.out.2 (by omega); omega, fun _ => by omega⟩
              · have hd' : isDig s[j].toNat = false := by simpa using hd
                have hcl : (cls ↑s[j].toNat != 4) = true := by have : (cls ↑s[j].toNat == 4) = false := hd'; simpa using this
                have hno : numOk s = false := by
                  rw [Hg.out, he.out, runTo_stop hlt hd']
                  simp; omega
                have Hn := Lib.hid hno
                clear b3 b2 b1 b0 hd hd' hno
                go_wp2_with (go_at_call 37; refine (classOf_any _ _).mono ?_; rintro e w' ⟨rfl, rfl⟩)
                go_returns
                exact ⟨ret_num (by simp [numV, Hn.out]) (by rw [← Hc.out, Hn.out]), rfl⟩
            · have hjs : j = s.size := by omega
              have hgo : numOk s = decide (valTo s s.size ≤ 255) := by
                rw [Hg.out, he.out, runTo_end (by omega)]; simp [hjs]
              have Hn := Lib.hid hgo
              have Hj := Lib.hid hjs
              clear hgo hjs b2 b1 b0
              by_cases hv : (valTo s j : Int) ≤ 255
              · go_wp2
                go_returns
                refine ⟨ret_num ?_ ?_, rfl⟩
                · rw [numV, Hn.out, ← Hj.out, decide_eq_true (by omega)]; simp
                · rw [← Hc.out, Hn.out, ← Hj.out]; simp; omega
              · go_wp2
                go_returns
                refine ⟨ret_num ?_ ?_, rfl⟩
                · rw [numV, Hn.out, ← Hj.out, decide_eq_false (by omega)]; simp
                · rw [← Hc.out, Hn.out, ← Hj.out]; simp; omega
  · have hno : numOk s = false := by unfold numOk; rw [dif_neg h]
    have Hn := Lib.hid hno
    clear hno
    have h' : s.size < 1 ∨ 3 < s.size := by omega
    clear h
    rcases h' with h | h
    all_goals
      go_enter Try.func24, Try.ntmps24
      go_wp2
      go_returns
      exact ⟨ret_num (by simp [numV, Hn.out]) (by rw [← Hc.out, Hn.out]), rfl⟩

set_option maxHeartbeats 1000000 in
theorem reg_any (s : ByteArray) (w : World) (c : Bool) (hc : regOk s = c) :
    Calls Try.prog 23 #[.string s] w fun e w' => e = .returned (.tuple #[.int .u8 (regV s), .bool c]) ∧ w = w' := by
  have Hc := Lib.hid hc
  clear hc
  go_enter Try.func23, Try.ntmps23
  go_wp2
  all_goals
    go_returns
    refine ⟨ret_num ?_ ?_, rfl⟩
    · unfold regV
      first
      | (rw [dif_pos (by omega)]; simp [regOk, *]; done)
      | (rw [dif_pos (by omega)]; simp [regOk, *]; omega)
      | (rw [dif_neg (by omega)])
    · rw [← Hc.out]; unfold regOk
      first
      | (rw [dif_pos (by omega)]; simp [*]; done)
      | (rw [dif_pos (by omega)]; simp [*]; omega)
      | (rw [dif_neg (by omega)])

set_option maxHeartbeats 2000000 in
theorem kept_any (s : ByteArray) (w : World) (c : Bool) (hc : kept s = c) :
    Calls Try.prog 26 #[.string s] w fun e w' => e = .returned (.bool c) ∧ w = w' := by
  have Hc := Lib.hid hc
  clear hc
  go_enter Try.func26, Try.ntmps26
  go_wp2
  all_goals
    go_returns
    refine ⟨ret_bool ?_, rfl⟩
    rw [← Hc.out]
    first | (simp only [kept, keptL, List.any_cons, List.any_nil, *]; done) | (simp [kept, keptL, *]; done) | (simp_all [kept, keptL]; done)

end Go.Proofs.Ytckpkgnnbnfoeaa
