/-
  The reference of layer 4: Num, Kept, Name by what they answer. Conditions: the string's size at most maxLen.
-/
import Derived.Test.YtckpkgnnbnfoeaaRefA
namespace Go.Proofs.Ytckpkgnnbnfoeaa
open Go.RowKit

set_option maxHeartbeats 2000000 in
theorem rnum_any (s : ByteArray) (w : World) (hs : s.size ≤ maxLen) (c : Bool) (hc : numOk s = c) :
    Calls Try.prog 29 #[.string s] w fun e w' => e = .returned (.tuple #[.int .u8 (numV s), .bool c]) ∧ w = w' := by
  unfold maxLen at hs
  have Hc := Lib.hid hc
  clear hc
  go_enter Try.func29, Try.ntmps29
  go_wp2
  go_loopg [4, 5] s.size (fun m v i wr => ∃ j : Nat, Hid (m = s.size - j) ∧ j ≤ s.size ∧ j ≤ 3 ∧ w = wr ∧ v = .int .i64 (valTo s j) ∧ i = .int .i64 j ∧ Hid (runTo isDig s 0 = runTo isDig s j) ∧ (valTo s j : Int) ≤ 999 ∧ Hid ((j ≤ 2 → (valTo s j : Int) ≤ 99) ∧ (j ≤ 1 → (valTo s j : Int) ≤ 9) ∧ (j ≤ 0 → (valTo s j : Int) ≤ 0)))
  case atStart => exact ⟨0, Lib.hid rfl, Nat.zero_le _, by omega, rfl, rfl, rfl, Lib.hid rfl, by simp [valTo], Lib.hid (by simp [valTo])⟩
  case round =>
    obtain ⟨j, hm, hj, hj3, rfl, rfl, rfl, he, b3, Hb⟩ := hrel
    by_cases hlt : j < s.size
    · by_cases hd : isDig s[j].toNat = true
      · have Hd := Lib.hid hd
        obtain ⟨d1, d2⟩ := isDig_iff.1 hd
        clear hd
        by_cases h2 : j ≤ 2
        · have b2 := Hb.out.1 h2
          have Hv := Lib.hid (valTo_succ hlt Hd.out)
          clear b3
          go_wp2_with (go_at_call 41; refine (rdigit_any _ _ true Hd.out).mono ?_; rintro e w' ⟨rfl, rfl⟩)
          go_roundg (s.size - (j + 1))
          case measure => rw [hm.out]; omega
          case rel => exact ⟨j + 1, Lib.hid rfl, by omega, by omega, rfl, by rw [Hv.out], by go_num, Lib.hid (he.out.trans (runTo_step hlt Hd.out)), by rw [Hv.out]; omega, Lib.hid ⟨fun _ => by rw [Hv.out]; have := Hb.out.2.1 (by omega); omega, fun _ => by rw [Hv.out]; have := Hb.out.2.2 (by omega); omega, fun _ => by omega⟩⟩
        · have hno : numOk s = false := by unfold numOk; rw [dif_neg (by omega)]
          have Hn := Lib.hid hno
          clear hno
          go_wp2_with (go_at_call 41; refine (rdigit_any _ _ true Hd.out).mono ?_; rintro e w' ⟨rfl, rfl⟩)
          go_returns
          exact ⟨ret_num (by simp [numV, Hn.out]) (by rw [← Hc.out, Hn.out]), rfl⟩
      · have hd' : isDig s[j].toNat = false := by simpa using hd
        have hno : numOk s = false := by
          unfold numOk; split
          · rw [he.out, runTo_stop hlt hd', show (j == s.size) = false from by simp; omega]; simp
          · rfl
        have Hn := Lib.hid hno
        have Hd := Lib.hid hd'
        clear hno hd hd'
        go_wp2_with (go_at_call 41; refine (rdigit_any _ _ false Hd.out).mono ?_; rintro e w' ⟨rfl, rfl⟩)
        go_returns
        exact ⟨ret_num (by simp [numV, Hn.out]) (by rw [← Hc.out, Hn.out]), rfl⟩
    · have hjs : j = s.size := by omega
      by_cases h0 : s.size = 0
      · have hno : numOk s = false := by unfold numOk; rw [dif_neg (by omega)]
        have hnil := toList_nil h0
        have Hn := Lib.hid hno
        have Hj := Lib.hid hjs
        clear hno hjs h0
        go_wp2
        go_returns
        exact ⟨ret_num (by simp [numV, Hn.out]) (by rw [← Hc.out, Hn.out]), rfl⟩
      · have hp : 0 < s.size := by omega
        have hne := toList_ne hp
        have hie := toList_isEmpty hp
        have hok : numOk s = (!((s[0].toNat : Int) == 48 && decide (1 < s.size)) && decide (valTo s j ≤ 255)) := by
          unfold numOk; rw [dif_pos (by omega), he.out, runTo_end (by omega)]; simp [hjs]
        have Ho := Lib.hid hok
        have Hj := Lib.hid hjs
        have hz3 : s.size ≤ 3 := by omega
        clear hok hjs h0
        by_cases hz : (s[0].toNat : Int) = 48
        · have hz' : ((s[0].toNat : Int) == 48) = true := by simpa using hz
          by_cases h1 : 1 < s.size
          · have hno : numOk s = false := by rw [Ho.out]; simp [hz, h1]
            have Hn := Lib.hid hno
            clear hno hz
            go_wp2
            go_returns
            exact ⟨ret_num (by simp [numV, Hn.out]) (by rw [← Hc.out, Hn.out]), rfl⟩
          · have Hz := Lib.hid hz'
            clear hz
            by_cases hv : (valTo s j : Int) ≤ 255
            · have hyes : numOk s = true := by rw [Ho.out]; simp [h1]; omega
              have Hy := Lib.hid hyes
              clear hyes
              go_wp2
              go_returns
              exact ⟨ret_num (by simp [numV, Hy.out, ← Hj.out]) (by rw [← Hc.out, Hy.out]), rfl⟩
            · have hno : numOk s = false := by rw [Ho.out]; simp; omega
              have Hn := Lib.hid hno
              clear hno
              go_wp2
              go_returns
              exact ⟨ret_num (by simp [numV, Hn.out]) (by rw [← Hc.out, Hn.out]), rfl⟩
        · have hz' : ((s[0].toNat : Int) == 48) = false := by simpa using hz
          by_cases hv : (valTo s j : Int) ≤ 255
          · have hyes : numOk s = true := by rw [Ho.out, hz']; simp; omega
            have Hy := Lib.hid hyes
            clear hyes
            go_wp2
            go_returns
            exact ⟨ret_num (by simp [numV, Hy.out, ← Hj.out]) (by rw [← Hc.out, Hy.out]), rfl⟩
          · have hno : numOk s = false := by rw [Ho.out]; simp; omega
            have Hn := Lib.hid hno
            clear hno
            go_wp2
            go_returns
            exact ⟨ret_num (by simp [numV, Hn.out]) (by rw [← Hc.out, Hn.out]), rfl⟩

def keptS : List ByteArray := keptL.map fun l => ⟨l.toArray⟩
def keptV : List Value := keptS.map .string
theorem kept_eq (s : ByteArray) : kept s = keptS.any (fun b => b.toList == s.toList) := by
  unfold kept keptS
  rw [List.any_map]
  congr 1
  funext l
  simp only [Function.comp]
  rw [Bool.eq_iff_iff, beq_iff_eq, beq_iff_eq, toList_data ⟨l.toArray⟩]
  simp [eq_comm]

set_option maxHeartbeats 2000000 in
theorem rkept_any (s : ByteArray) (w : World) (c : Bool) (hc : kept s = c) :
    Calls Try.prog 30 #[.string s] w fun e w' => e = .returned (.bool c) ∧ Below w.heap.size w w' := by
  have hk := kept_eq s
  rw [hc] at hk
  have Hk := Lib.hid hk
  clear hc hk
  go_enter Try.func30, Try.ntmps30
  go_wp2
  generalize hW : World.alloc w _ = w1
  have hB : Blk w1 w.heap.size keptV 9 := by rw [← hW]; exact Blk.new _ _ _
  have hb : Below w.heap.size w w1 := by rw [← hW]; exact (Below.refl _ _).alloc (Nat.le_refl _) _
  clear hW
  go_loopg [4] 17 (fun m v wr => ∃ i : Nat, Hid (m = 17 - i) ∧ i ≤ 17 ∧ (∃ d, wr = w1.drewN d) ∧ v = .int .i64 i ∧ Hid ((keptS.take i).any (fun b => b.toList == s.toList) = false))
  case atStart => exact ⟨0, Lib.hid rfl, by omega, ⟨0, rfl⟩, rfl, Lib.hid rfl⟩
  case round =>
    obtain ⟨i, hm, hi, ⟨d, rfl⟩, rfl, hn⟩ := hrel
    by_cases hlt : i < 17
    · have hl : i < keptS.length := hlt
      obtain ⟨b, hbe⟩ : ∃ b, keptS[i]? = some b := ⟨_, List.getElem?_eq_getElem hl⟩
      have hcell := (hB.drewN d).cell i (v := .string b) (by simp [keptV, hbe])
      have Hbe := Lib.hid hbe
      clear hbe
      by_cases he : b.toList = s.toList
      · have he' : (b.toList == s.toList) = true := by simpa using he
        have G : Hid (c = true) := Lib.hid (by
          rw [Hk.out, List.any_eq_true]; exact ⟨b, List.mem_of_getElem? Hbe.out, he'⟩)
        clear he
        go_wp2
        try go_quiet (fail)
        try go_wp2
        go_returns
        exact ⟨ret_bool G.out.symm, by first | exact below_drewN (below_drewN hb _) _ | exact below_drewN hb _⟩
      · have he' : (b.toList == s.toList) = false := by simpa using he
        have G : Hid ((keptS.take (i + 1)).any (fun b => b.toList == s.toList) = false) := Lib.hid (by
          rw [List.take_succ_eq_append_getElem hl, List.any_append, hn.out]
          have : keptS[i] = b := by have := Hbe.out; rw [List.getElem?_eq_getElem hl] at this; exact Option.some.inj this
          simp [this, he'])
        clear he
        go_wp2
        try go_quiet (fail)
        try go_wp2
        go_roundg (17 - (i + 1))
        case measure => rw [hm.out]; omega
        case rel => exact ⟨i + 1, Lib.hid rfl, by omega, ⟨_, by first | rw [World.drewN_drewN] | rfl⟩, by go_num, G⟩
    · obtain rfl : i = 17 := by omega
      have G : Hid (c = false) := Lib.hid (by rw [Hk.out]; exact hn.out)
      go_wp2
      go_returns
      exact ⟨ret_bool G.out.symm, below_drewN hb _⟩

theorem ext_in (p : Int → Bool) (s : ByteArray) : ∀ f a i, a ≤ i → i < ext p s f a → ∃ h : i < s.size, p s[i].toNat = true
  | 0, a, i, h1, h2 => by simp [ext] at h2; omega
  | f + 1, a, i, h1, h2 => by
    unfold ext at h2
    split at h2
    · rename_i ha
      split at h2
      · rename_i hp
        by_cases he : a = i
        · subst he; exact ⟨ha, hp⟩
        · exact ext_in p s f (a + 1) i (by omega) h2
      · omega
    · omega
theorem runTo_in {p : Int → Bool} {s : ByteArray} {a i : Nat} (h1 : a ≤ i) (h2 : i < runTo p s a) (h : i < s.size) : p s[i].toNat = true := by
  obtain ⟨_, h3⟩ := ext_in p s _ a i h1 h2; exact h3
theorem ext_out (p : Int → Bool) (s : ByteArray) : ∀ f a, s.size ≤ a + f → ∀ h : ext p s f a < s.size, p s[ext p s f a].toNat = false
  | 0, a, hf, h => by simp only [ext] at h; omega
  | f + 1, a, hf, h => by
    by_cases ha : a < s.size
    · by_cases hp : p s[a].toNat = true
      · have he : ext p s (f + 1) a = ext p s f (a + 1) := by simp [ext, ha, hp]
        have := ext_out p s f (a + 1) (by omega) (by rw [← he]; exact h)
        simp only [he]; exact this
      · have he : ext p s (f + 1) a = a := by simp [ext, ha, hp]
        simp only [he]; simpa using hp
    · have he : ext p s (f + 1) a = a := by simp [ext, ha]
      rw [he] at h; omega
theorem runTo_out {p : Int → Bool} {s : ByteArray} {a : Nat} (h : runTo p s a < s.size) : p s[runTo p s a].toNat = false :=
  ext_out p s _ a (by omega) h
theorem tail_step {s : ByteArray} {i : Nat} (hi : i < s.size) (h1 : 1 ≤ i) : (decide (i ≤ runTo isDig s 1) && isDig s[i].toNat) = decide (i + 1 ≤ runTo isDig s 1) := by
  by_cases h : i < runTo isDig s 1
  · have := runTo_in h1 h hi
    rw [this, decide_eq_true (by omega), decide_eq_true (by omega)]; rfl
  · by_cases he : i = runTo isDig s 1
    · have := runTo_out (p := isDig) (s := s) (a := 1) (by omega)
      simp only [← he] at this
      rw [this, Bool.and_false]; exact (decide_eq_false (by omega)).symm
    · rw [decide_eq_false (by omega), decide_eq_false (by omega)]; rfl
theorem tail_end {s : ByteArray} (h : 1 ≤ s.size) : decide (s.size ≤ runTo isDig s 1) = tailDig s := by
  have := runTo_le isDig s 1 h
  unfold tailDig
  rw [Bool.eq_iff_iff]; simp; omega

set_option maxHeartbeats 2000000 in
theorem rname_any (s : ByteArray) (w : World) (hs : s.size ≤ maxLen) (c : Bool) (hc : nameOk s = c) :
    Calls Try.prog 31 #[.string s] w fun e w' => e = .returned (.bool c) ∧ Below w.heap.size w w' := by
  unfold maxLen at hs
  have Hc := Lib.hid hc
  clear hc
  by_cases h : 1 ≤ s.size ∧ s.size ≤ 16
  · have hno : nameOk s = (cls s[0].toNat == 3 && !kept s && runTo goes s 1 == s.size && !(decide (1 < s.size) && (s[0].toNat : Int) == 114 && tailDig s)) := by
      unfold nameOk; rw [dif_pos h, Bool.and_comm ((s[0].toNat : Int) == 114)]
    have Hn := Lib.hid hno
    clear hno
    obtain ⟨h1, h2⟩ := h
    have hp : 0 < s.size := h1
    have hne := toList_ne hp
    have hie := toList_isEmpty hp
    cases hl : (cls s[0].toNat == 3)
    · have Hl := Lib.hid hl
      have hno : nameOk s = false := by rw [Hn.out, hl]; rfl
      have Hno := Lib.hid hno
      clear hl hno
      go_enter Try.func31, Try.ntmps31
      go_wp2_with (go_at_call 39; refine (rletter_any _ _ _ Hl.out).mono ?_; rintro e w' ⟨rfl, rfl⟩)
      go_returns
      exact ⟨ret_bool (by rw [← Hc.out, Hno.out]), Below.refl _ _⟩
    · cases hk : kept s
      · have Hl := Lib.hid hl
        have Hk := Lib.hid hk
        clear hl hk
        go_enter Try.func31, Try.ntmps31
        go_wp2_with (first | (go_at_call 39; refine (rletter_any _ _ _ Hl.out).mono ?_; rintro e w' ⟨rfl, rfl⟩) | (go_at_call 30; refine (rkept_any _ _ _ Hk.out).mono ?_; rintro e w1 ⟨rfl, hb1⟩))
        all_goals
          go_loopg [3, 4] (s.size - 1) (fun m d i wr => ∃ (j : Nat) (dd : Bool), Hid (m = s.size - j) ∧ 1 ≤ j ∧ j ≤ s.size ∧ w1 = wr ∧ d = .bool dd ∧ i = .int .i64 j ∧ Hid (runTo goes s 1 = runTo goes s j) ∧ Hid (dd = ((decide (1 < s.size) && (s[0].toNat : Int) == 114) && decide (j ≤ runTo isDig s 1))))
          case atStart => exact ⟨1, _, Lib.hid rfl, by omega, by omega, rfl, rfl, rfl, Lib.hid rfl, Lib.hid (by rw [decide_eq_true (runTo_ge isDig s 1)]; first | (simp [*]; done) | (simp [*]; intro _; omega) | (simp [*]; omega))⟩
          case round =>
            obtain ⟨j, dd, hm, hj1, hj2, rfl, rfl, rfl, he, hdd⟩ := hrel
            by_cases hlt : j < s.size
            · cases hg : goes s[j].toNat
              · have Hg := Lib.hid hg
                have Hno : Hid (nameOk s = false) := Lib.hid (by rw [Hn.out, he.out, runTo_stop hlt hg, show (j == s.size) = false from by simp; omega]; simp)
                clear hg
                go_wp2_with (go_at_call 40; refine (rgoes_any _ _ _ Hg.out).mono ?_; rintro e w' ⟨rfl, rfl⟩)
                go_returns
                exact ⟨ret_bool (by rw [← Hc.out, Hno.out]), hb1⟩
              · have Hg := Lib.hid hg
                have Ht := Lib.hid (tail_step hlt hj1)
                clear hg
                cases dd
                · go_wp2_with (go_at_call 40; refine (rgoes_any _ _ _ Hg.out).mono ?_; rintro e w' ⟨rfl, rfl⟩)
                  go_roundg (s.size - (j + 1))
                  case measure => rw [hm.out]; omega
                  case rel => exact ⟨j + 1, false, Lib.hid rfl, by omega, by omega, rfl, rfl, by go_num, Lib.hid (he.out.trans (runTo_step hlt Hg.out)), Lib.hid (by rw [← Ht.out, ← Bool.and_assoc, ← hdd.out]; rfl)⟩
                · go_wp2_with (first | (go_at_call 40; refine (rgoes_any _ _ _ Hg.out).mono ?_; rintro e w' ⟨rfl, rfl⟩) | (go_at_call 41; refine (rdigit_any _ _ (isDig s[j].toNat) rfl).mono ?_; rintro e w' ⟨rfl, rfl⟩))
                  go_roundg (s.size - (j + 1))
                  case measure => rw [hm.out]; omega
                  case rel => exact ⟨j + 1, isDig s[j].toNat, Lib.hid rfl, by omega, by omega, rfl, rfl, by go_num, Lib.hid (he.out.trans (runTo_step hlt Hg.out)), Lib.hid (by rw [← Ht.out, ← Bool.and_assoc, ← hdd.out]; rfl)⟩
            · have hjs : j = s.size := by omega
              have Hno : Hid (nameOk s = !dd) := Lib.hid (by
                rw [Hn.out, he.out, runTo_end (by omega), Hl.out, Hk.out, hdd.out]
                rw [hjs, tail_end h1]; simp)
              clear hjs
              go_wp2
              go_returns
              exact ⟨ret_bool (by rw [← Hc.out, Hno.out]), hb1⟩
      · have Hl := Lib.hid hl
        have Hk := Lib.hid hk
        have Hno : Hid (nameOk s = false) := Lib.hid (by rw [Hn.out, hk]; simp)
        clear hl hk
        go_enter Try.func31, Try.ntmps31
        go_wp2_with (first | (go_at_call 39; refine (rletter_any _ _ _ Hl.out).mono ?_; rintro e w' ⟨rfl, rfl⟩) | (go_at_call 30; refine (rkept_any _ _ _ Hk.out).mono ?_; rintro e w1 ⟨rfl, hb1⟩))
        go_returns
        exact ⟨ret_bool (by rw [← Hc.out, Hno.out]), hb1⟩
  · have Hno : Hid (nameOk s = false) := Lib.hid (by unfold nameOk; rw [dif_neg h])
    by_cases h0 : s.size = 0
    · have hnil := toList_nil h0
      clear h0
      go_enter Try.func31, Try.ntmps31
      go_wp2
      go_returns
      exact ⟨ret_bool (by rw [← Hc.out, Hno.out]), Below.refl _ _⟩
    · have hne := toList_ne (s := s) (by omega)
      have hie := toList_isEmpty (s := s) (by omega)
      have h16 : 16 < s.size := by omega
      clear h0 h
      go_enter Try.func31, Try.ntmps31
      go_wp2
      go_returns
      exact ⟨ret_bool (by rw [← Hc.out, Hno.out]), Below.refl _ _⟩
end Go.Proofs.Ytckpkgnnbnfoeaa
