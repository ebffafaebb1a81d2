/-
  Package lex: the scanner's next. Conditions: the source has at most 16384 bytes.
-/
import Derived.Test.YtckpkgnnbnfoeaaLexE
namespace Go.Proofs.Ytckpkgnnbnfoeaa
open Go.RowKit

theorem ret_tok {t u : Tok} {c d : Bool} (h : t = u) (g : c = d) : Ending.returned (.tuple #[t.val, .bool c]) = .returned (.tuple #[u.val, .bool d]) := by rw [h, g]

set_option maxHeartbeats 4000000 in
theorem next_any (b : Nat) (s : ByteArray) (k : Nat) (o : Bool) (w : World) (hS : Scan w b s k o) (hs : s.size ≤ 16384) (hk : k ≤ s.size) (f : Nat) (hf : s.size < f + k)
    (t : Option Tok) (k' : Nat) (o' : Bool) (hn : nextT s f k o = (t, k', o')) :
    Calls Try.prog 46 #[.pointer (some ⟨b, 0, none⟩)] w fun e w' => e = .returned (.tuple #[(t.getD ⟨0, ByteArray.empty, 0⟩).val, .bool t.isSome]) ∧ Scan w' b s k' o' ∧ w.grownBy w' (some b) := by
  have hlt := hS.lt
  go_enter Try.func46, Try.ntmps46
  go_wp2
  go_loopg [] f (fun m wr => ∃ (j : Nat) (oj : Bool), s.size < m + j ∧ j ≤ s.size ∧ Scan wr b s j oj ∧ w.grownBy wr (some b) ∧ Blk wr w.heap.size [.int .u8 0, .string ⟨#[]⟩, .int .i64 0] 27 ∧ Hid (nextT s m j oj = (t, k', o')))
  case atStart => exact ⟨k, o, hf, hk, hS.alloc _, (by (repeat (first | with_reducible exact only_refl _ _ | with_reducible refine only_drew ?_ | with_reducible refine only_drewN ?_ _ | with_reducible refine only_alloc ?_ _ | with_reducible refine only_setCell ?_ (by first | exact .inl rfl | exact .inr (Nat.le_refl _) | exact .inr (by simp)) _))), Blk.new _ _ _, Lib.hid hn⟩
  case round =>
    obtain ⟨j, oj, hfj, hj, hSj, hg, hR, hnj⟩ := hrel
    clear hS
    obtain ⟨m, rfl⟩ : ∃ m, gk = m + 1 := ⟨gk - 1, by omega⟩
    have hp1 := passTo_ge s j
    have hp2 := passTo_le s j hj
    have hne : w.heap.size ≠ b := by omega
    generalize hpj : passTo s j = p at hp1 hp2
    by_cases hc : clsAt s p = 2
    · have ha : (if h : p < s.size then cls s[p].toNat == 2 else true) = true := by
        unfold clsAt at hc; split
        · rename_i h; rw [dif_pos h] at hc; simpa using hc
        · rfl
      have Ha := Lib.hid ha
      have Hp := Lib.hid hpj
      have Hn : Hid ((if oj then (some ⟨4, ByteArray.empty, p⟩, min (p + 1) s.size, false) else if s.size ≤ p then (none, min (p + 1) s.size, false) else nextT s m (p + 1) false) = (t, k', o')) :=
        Lib.hid (by have := hnj.out; rw [nextT, hpj, if_neg (by simp [hc])] at this; exact this)
      clear ha hpj hc hnj hn
      go_wp2_with fail
      refine (pass_any b s j oj _ hSj hs hj).mono ?_
      rintro e w1 ⟨rfl, hS1, hg1⟩
      rw [Hp.out] at hS1
      have hR1 := hR.grown hg1 (by simp; omega)
      have g1 := only_trans hg hg1
      clear hSj hg hR hg1
      go_wp2_with fail
      refine (atEnd_any b s p oj _ hS1 true Ha.out).mono ?_
      rintro e w2 ⟨rfl, n2, rfl⟩
      have hS2 := hS1.drewN n2
      have hR2 := hR1.drewN n2
      have g2 := only_drewN g1 n2
      generalize w1.drewN n2 = w2 at hS2 hR2 g2
      clear hS1 hR1 g1
      have c0 := hS2.cell 0 rfl
      have c1 := hS2.cell 1 rfl
      have c2 := hS2.cell 2 rfl
      have hne2 : w.heap.size ≠ w2.heap.size := by have := hR2.lt; omega
      by_cases hl : s.size ≤ p
      · skip
        go_wp2_with fail
        refine (over_any b s p oj _ (hS2.alloc _) true (by simpa using hl)).mono ?_
        rintro e w3 ⟨rfl, n3, rfl⟩
        go_wp2_with fail
        generalize hW : World.drewN _ _ = w4
        have hS4 : Scan w4 b s p oj := by rw [← hW]; exact hS2.alloc _
        have hR4 : Blk w4 w.heap.size [.int .u8 0, .string ⟨#[]⟩, .int .i64 0] 27 := by rw [← hW]; exact hR2.alloc _
        have hT4 : Blk w4 w2.heap.size [.int .u8 4, .string ⟨#[]⟩, .int .i64 p] 27 := by rw [← hW]; exact Blk.new _ _ _
        have g4 : w.grownBy w4 (some b) := by rw [← hW]; exact only_drewN (only_alloc g2 _) _
        have hne3 : w2.heap.size ≠ b := by have := hR2.lt; omega
        have HW := Lib.hid hW
        clear hW hS2 hR2 g2 c0 c1 c2
        have c0 := hS4.cell 0 rfl
        have c1 := hS4.cell 1 rfl
        have c2 := hS4.cell 2 rfl
        have f1 := hS4.frozen 1
        have f2 := hS4.frozen 2
        have r0 := hR4.cell 0 rfl
        have r1 := hR4.cell 1 rfl
        have r2 := hR4.cell 2 rfl
        have q0 := hR4.frozen 0
        have q1 := hR4.frozen 1
        have q2 := hR4.frozen 2
        have t0 := hT4.cell 0 rfl
        have t1 := hT4.cell 1 rfl
        have t2 := hT4.cell 2 rfl
        have H4 := Lib.hid (⟨hS4, g4⟩ : Scan w4 b s p oj ∧ w.grownBy w4 (some b))
        have Hl := Lib.hid hl
        clear hS4 g4
        cases oj
        · go_region
          go_wp2
          refine bodyPost_ret (v := .tuple #[.agg #[.int .u8 0, .string ⟨#[]⟩, .int .i64 0], .bool false]) (by simp [results, Try.results46, go_sem, r0, r1, r2]) rfl ?_
          have hn := Hn.out
          have := Hl.out
          simp only [Bool.false_eq_true, if_false, if_pos this, Prod.mk.injEq] at hn
          obtain ⟨rfl, rfl, rfl⟩ := hn
          obtain ⟨hS4, g4⟩ := H4.out
          refine ⟨rfl, ?_, ?_⟩
          · rw [show min (p + 1) s.size = s.size from by omega]
            (repeat (first | with_reducible exact hS4 | with_reducible refine Scan.drew ?_ | with_reducible refine Scan.drewN ?_ _ | with_reducible refine Scan.alloc ?_ _ | refine Scan.other ?_ _ (Nat.ne_of_lt hlt) _ | refine Scan.open' (o := false) ?_ _ | refine Scan.at (k := p) ?_ _ | refine Scan.at' ?_))
          · (repeat (first | with_reducible exact only_refl _ _ | with_reducible refine only_drew ?_ | with_reducible refine only_drewN ?_ _ | with_reducible refine only_alloc ?_ _ | with_reducible refine only_setCell ?_ (by first | exact .inl rfl | exact .inr (Nat.le_refl _) | exact .inr (by simp)) _ | with_reducible exact g4))
        · go_region
          go_wp2
          refine bodyPost_ret (v := .tuple #[.agg #[.int .u8 4, .string ⟨#[]⟩, .int .i64 p], .bool true]) (by simp [results, Try.results46, go_sem, r0, r1, r2]) rfl ?_
          have hn := Hn.out
          simp only [if_true, Prod.mk.injEq] at hn
          obtain ⟨rfl, rfl, rfl⟩ := hn
          obtain ⟨hS4, g4⟩ := H4.out
          have := Hl.out
          refine ⟨rfl, ?_, ?_⟩
          · rw [show min (p + 1) s.size = s.size from by omega]
            (repeat (first | with_reducible exact hS4 | with_reducible refine Scan.drew ?_ | with_reducible refine Scan.drewN ?_ _ | with_reducible refine Scan.alloc ?_ _ | refine Scan.other ?_ _ (Nat.ne_of_lt hlt) _ | refine Scan.open' (o := true) ?_ _ | refine Scan.at (k := p) ?_ _ | refine Scan.at' ?_))
          · (repeat (first | with_reducible exact only_refl _ _ | with_reducible refine only_drew ?_ | with_reducible refine only_drewN ?_ _ | with_reducible refine only_alloc ?_ _ | with_reducible refine only_setCell ?_ (by first | exact .inl rfl | exact .inr (Nat.le_refl _) | exact .inr (by simp)) _ | with_reducible exact g4))
      · skip
        go_wp2_with fail
        refine (over_any b s p oj _ (hS2.alloc _) false (by simpa using hl)).mono ?_
        rintro e w3 ⟨rfl, n3, rfl⟩
        go_wp2_with fail
        generalize hW : World.drewN _ _ = w4
        have hS4 : Scan w4 b s p oj := by rw [← hW]; exact hS2.alloc _
        have hR4 : Blk w4 w.heap.size [.int .u8 0, .string ⟨#[]⟩, .int .i64 0] 27 := by rw [← hW]; exact hR2.alloc _
        have hT4 : Blk w4 w2.heap.size [.int .u8 4, .string ⟨#[]⟩, .int .i64 p] 27 := by rw [← hW]; exact Blk.new _ _ _
        have g4 : w.grownBy w4 (some b) := by rw [← hW]; exact only_drewN (only_alloc g2 _) _
        have hne3 : w2.heap.size ≠ b := by have := hR2.lt; omega
        have HW := Lib.hid hW
        clear hW hS2 hR2 g2 c0 c1 c2
        have c0 := hS4.cell 0 rfl
        have c1 := hS4.cell 1 rfl
        have c2 := hS4.cell 2 rfl
        have f1 := hS4.frozen 1
        have f2 := hS4.frozen 2
        have r0 := hR4.cell 0 rfl
        have r1 := hR4.cell 1 rfl
        have r2 := hR4.cell 2 rfl
        have q0 := hR4.frozen 0
        have q1 := hR4.frozen 1
        have q2 := hR4.frozen 2
        have t0 := hT4.cell 0 rfl
        have t1 := hT4.cell 1 rfl
        have t2 := hT4.cell 2 rfl
        have H4 := Lib.hid (⟨hS4, g4⟩ : Scan w4 b s p oj ∧ w.grownBy w4 (some b))
        have Hl := Lib.hid hl
        clear hS4 g4
        cases oj
        · go_region
          go_wp2
          go_roundg m
          case measure => omega
          case rel =>
            have hn := Hn.out
            have := Hl.out
            simp only [Bool.false_eq_true, if_false, if_neg this] at hn
            obtain ⟨hS4, g4⟩ := H4.out
            refine ⟨p + 1, false, by omega, by omega, ?_, ?_, ?_, Lib.hid hn⟩
            · (repeat (first | with_reducible exact hS4 | with_reducible refine Scan.drew ?_ | with_reducible refine Scan.drewN ?_ _ | with_reducible refine Scan.alloc ?_ _ | refine Scan.other ?_ _ (Nat.ne_of_lt hlt) _ | refine Scan.open' (o := false) ?_ _ | refine Scan.at (k := p) ?_ _ | refine Scan.at' ?_))
            · (repeat (first | with_reducible exact only_refl _ _ | with_reducible refine only_drew ?_ | with_reducible refine only_drewN ?_ _ | with_reducible refine only_alloc ?_ _ | with_reducible refine only_setCell ?_ (by first | exact .inl rfl | exact .inr (Nat.le_refl _) | exact .inr (by simp)) _ | with_reducible exact g4))
            · exact Blk.drew (Blk.setOther hR4 _ hne _)
        · go_region
          go_wp2
          refine bodyPost_ret (v := .tuple #[.agg #[.int .u8 4, .string ⟨#[]⟩, .int .i64 p], .bool true]) (by simp [results, Try.results46, go_sem, r0, r1, r2]) rfl ?_
          have hn := Hn.out
          simp only [if_true, Prod.mk.injEq] at hn
          obtain ⟨rfl, rfl, rfl⟩ := hn
          obtain ⟨hS4, g4⟩ := H4.out
          have := Hl.out
          refine ⟨rfl, ?_, ?_⟩
          · rw [show min (p + 1) s.size = p + 1 from by omega]
            (repeat (first | with_reducible exact hS4 | with_reducible refine Scan.drew ?_ | with_reducible refine Scan.drewN ?_ _ | with_reducible refine Scan.alloc ?_ _ | refine Scan.other ?_ _ (Nat.ne_of_lt hlt) _ | refine Scan.open' (o := true) ?_ _ | refine Scan.at (k := p) ?_ _ | refine Scan.at' ?_))
          · (repeat (first | with_reducible exact only_refl _ _ | with_reducible refine only_drew ?_ | with_reducible refine only_drewN ?_ _ | with_reducible refine only_alloc ?_ _ | with_reducible refine only_setCell ?_ (by first | exact .inl rfl | exact .inr (Nat.le_refl _) | exact .inr (by simp)) _ | with_reducible exact g4))
    · have hpl := clsAt_lt hc
      have ha : (if h : p < s.size then cls s[p].toNat == 2 else true) = false := by
        rw [dif_pos hpl]; unfold clsAt at hc; rw [dif_pos hpl] at hc; simpa using hc
      have hres : (some (tokAt s p), tokTo s p, true) = (t, k', o') := by
        have := hnj.out; rw [nextT, hpj, if_pos hc] at this; exact this
      simp only [Prod.mk.injEq] at hres
      obtain ⟨rfl, rfl, rfl⟩ := hres
      have Ha := Lib.hid ha
      have Hp := Lib.hid hpj
      clear ha hpj hc hf hnj hn
      go_wp2_with fail
      refine (pass_any b s j oj _ hSj hs hj).mono ?_
      rintro e w1 ⟨rfl, hS1, hg1⟩
      rw [Hp.out] at hS1
      have hR1 := hR.grown hg1 (by simp; omega)
      have g1 := only_trans hg hg1
      clear hSj hg hR hg1
      go_wp2_with fail
      refine (atEnd_any b s p oj _ hS1 false Ha.out).mono ?_
      rintro e w2 ⟨rfl, n2, rfl⟩
      have f2 := hS1.frozen 2
      have c2 := hS1.cell 2 rfl
      go_wp2_with fail
      refine (token_any b s p true _ ((hS1.drewN n2).open' true) hs hpl).mono ?_
      rintro e w3 ⟨rfl, hS3, hg3⟩
      have hR3 := (Blk.setOther (hR1.drewN n2) ⟨b, 2, none⟩ hne (.bool true)).grown hg3 (by simp; omega)
      have r0 := hR3.cell 0 rfl
      have r1 := hR3.cell 1 rfl
      have r2 := hR3.cell 2 rfl
      have q0 := hR3.frozen 0
      have q1 := hR3.frozen 1
      have q2 := hR3.frozen 2
      have g3 := only_trans (only_setCell (only_drewN g1 n2) (p := ⟨b, 2, none⟩) (.inl rfl) (.bool true)) hg3
      clear c2 f2 hS1 hR1 hg3
      have H3 := Lib.hid (⟨hS3, g3, hR3⟩ : Scan w3 b s (tokTo s p) true ∧ w.grownBy w3 (some b) ∧ Blk w3 w.heap.size _ _)
      generalize htk : tokAt s p = tk
      have Htk := Lib.hid htk
      clear htk
      obtain ⟨kd, tx, ps⟩ := tk
      simp only [Tok.val]
      go_wp2
      refine bodyPost_ret (v := .tuple #[.agg #[.int .u8 kd, .string tx, .int .i64 ps], .bool true]) (by simp [results, Try.results46, go_sem, r0, r1, r2]) rfl ?_
      obtain ⟨hS3, g3, _⟩ := H3.out
      refine ⟨by rw [Htk.out]; rfl, ?_, ?_⟩
      · (repeat (first | with_reducible exact hS3 | with_reducible refine Scan.drew ?_ | with_reducible refine Scan.drewN ?_ _ | with_reducible refine Scan.alloc ?_ _ | refine Scan.other ?_ _ (Nat.ne_of_lt hlt) _ | refine Scan.at (k := p) ?_ _ | refine Scan.at' ?_))
      · (repeat (first | with_reducible exact only_refl _ _ | with_reducible refine only_drew ?_ | with_reducible refine only_drewN ?_ _ | with_reducible refine only_alloc ?_ _ | with_reducible refine only_setCell ?_ (by first | exact .inl rfl | exact .inr (Nat.le_refl _) | exact .inr (by simp)) _ | with_reducible exact g3))
end Go.Proofs.Ytckpkgnnbnfoeaa
