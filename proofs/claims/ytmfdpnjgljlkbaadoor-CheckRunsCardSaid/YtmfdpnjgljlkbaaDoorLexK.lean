/-
  Plain Lean: how far runs of bytes go, where a word, a number, a sign ends. Nothing of the program. Conditions: none.
 
  The byte classes of package lex, and what its small scanning methods return. Conditions: those of each theorem.
 
  The scanner's steps of package lex: passing blanks and comments, and the ends of words, numbers and signs. Conditions: those of each theorem.
 
  Package lex: Num, Reg, Kept, Name by what they answer. Conditions: the string's size at most maxLen.
 
  Package lex: Name by what it answers. Condition: the string's size at most maxLen.
 
  Plain Lean: the tokens of a source. Nothing of the program. Conditions: none.
 
  Package lex: the scanner's token and next, and fault. Conditions: the source has at most 16384 bytes.
 
  Package lex: the scanner's next. Conditions: the source has at most 16384 bytes.
 
  append of elements to a slice of the call's own, with where the array then lies: in its old block or in the next new one. Conditions: those of the laws.
 
  A range over a function whose iterator keeps state in memory: a law for the caller, by footprints (lists of blocks). Conditions: those of the law.
 
  Package lex: fault, the list of all tokens, and the iterator tokens. Conditions: the source has at most 16384 bytes.
 
  Package lex: the iterator tokens yields all tokens of the source. Conditions: the source has at most 16384 bytes.
 
  Package lex: Lex. Conditions: none.
 
  Plain Lean: the tokens of the rest of a source, byte by byte. Nothing of the program. Conditions: none.
 
  Plain Lean: what a source that is one name, register, keyword or number is lexed as. Nothing of the program. Conditions: none.
-/
import Derived.Test.YtmfdpnjgljlkbaaDoorVcK
import Derived.Deep.LoopGhost
import Derived.Handy
import Derived.OwnWalkIn
import Derived.Lib.AppendStr
import Derived.RangeFuncNested
import Derived.RangeFuncBound
import Derived.RangeFuncCalls
import Derived.RangeFuncLeaves
import Derived.Shelf.Abstract
import Derived.Shelf.RegionOpen
import Derived.TacticsInMore
import Derived.LoopNIn
import Derived.LoopIn
set_option linter.unusedSimpArgs false
set_option linter.unusedVariables false
namespace Go.Proofs.YtmfdpnjgljlkbaaDoor

def cls (n : Int) : Int :=
  if 97 ≤ n ∧ n ≤ 122 ∨ 65 ≤ n ∧ n ≤ 90 then 3
  else if 48 ≤ n ∧ n ≤ 57 then 4
  else if n = 32 ∨ n = 9 then 1
  else if n = 10 then 2
  else if n = 95 then 5
  else if n = 35 then 7
  else if n = 61 ∨ n = 43 ∨ n = 45 ∨ n = 94 ∨ n = 38 ∨ n = 124 ∨ n = 33 ∨ n = 40 ∨ n = 41 ∨ n = 58 ∨ n = 60 then 6
  else 0

def goes (n : Int) : Bool := cls n == 3 || cls n == 4 || cls n == 5

/-- From index i on, over at most f bytes: the first index at which p does not hold. -/
def ext (p : Int → Bool) (s : ByteArray) : Nat → Nat → Nat
  | 0, i => i
  | f + 1, i => if h : i < s.size then (if p s[i].toNat then ext p s f (i + 1) else i) else i

def runTo (p : Int → Bool) (s : ByteArray) (i : Nat) : Nat := ext p s (s.size - i) i

theorem runTo_end {p : Int → Bool} {s : ByteArray} {i : Nat} (h : s.size ≤ i) : runTo p s i = i := by
  unfold runTo; rw [Nat.sub_eq_zero_of_le h]; rfl
theorem runTo_step {p : Int → Bool} {s : ByteArray} {i : Nat} (h : i < s.size) (hp : p s[i].toNat = true) : runTo p s i = runTo p s (i + 1) := by
  unfold runTo
  obtain ⟨f, hf⟩ : ∃ f, s.size - i = f + 1 := ⟨s.size - i - 1, by omega⟩
  rw [hf, show s.size - (i + 1) = f from by omega]
  simp [ext, h, hp]
theorem runTo_stop {p : Int → Bool} {s : ByteArray} {i : Nat} (h : i < s.size) (hp : p s[i].toNat = false) : runTo p s i = i := by
  unfold runTo
  obtain ⟨f, hf⟩ : ∃ f, s.size - i = f + 1 := ⟨s.size - i - 1, by omega⟩
  rw [hf]
  simp [ext, h, hp]
theorem ext_ge (p : Int → Bool) (s : ByteArray) : ∀ f i, i ≤ ext p s f i
  | 0, i => Nat.le_refl _
  | f + 1, i => by
    unfold ext; split
    · split
      · exact Nat.le_trans (by omega) (ext_ge p s f (i + 1))
      · exact Nat.le_refl _
    · exact Nat.le_refl _
theorem ext_le (p : Int → Bool) (s : ByteArray) : ∀ f i, i ≤ s.size → ext p s f i ≤ s.size
  | 0, i, h => h
  | f + 1, i, h => by
    unfold ext; split
    · split
      · exact ext_le p s f (i + 1) (by omega)
      · exact h
    · exact h
theorem runTo_ge (p : Int → Bool) (s : ByteArray) (i : Nat) : i ≤ runTo p s i := ext_ge _ _ _ _
theorem runTo_le (p : Int → Bool) (s : ByteArray) (i : Nat) (h : i ≤ s.size) : runTo p s i ≤ s.size := ext_le _ _ _ _ h

/-- Beyond blanks and a comment. -/
def passTo (s : ByteArray) (k : Nat) : Nat :=
  let j := runTo (fun n => cls n == 1) s k
  if h : j < s.size then (if cls s[j].toNat == 7 then runTo (fun n => cls n != 2) s j else j) else j
def wordTo (s : ByteArray) (k : Nat) : Nat := runTo goes s (k + 1)
def isDig (n : Int) : Bool := cls n == 4
def numTo (s : ByteArray) (k : Nat) : Nat := runTo isDig s (k + 1)
def isEq2 (s : ByteArray) (k : Nat) : Bool :=
  if h : k + 1 < s.size then ((s[k].toNat : Int) == 61 || (s[k].toNat : Int) == 33) && (s[k + 1].toNat : Int) == 61 else false
def signTo (s : ByteArray) (k : Nat) : Nat := if isEq2 s k then k + 2 else k + 1

theorem isDig_iff {n : Int} : isDig n = true ↔ 48 ≤ n ∧ n ≤ 57 := by
  unfold isDig cls; rw [beq_iff_eq]
  constructor
  · intro h; repeat' split at h
    all_goals omega
  · intro h; rw [if_neg (by omega), if_pos h]

def keptL : List (List UInt8) := [[116, 101, 115, 116], [105, 110, 105, 116], [116, 104, 114, 101, 97, 100], [115, 111, 109, 101], [110, 111, 110, 101], [97, 108, 108], [97, 99, 113], [114, 101, 108], [115, 119, 97, 112], [102, 101, 116, 99, 104], [99, 97, 115], [102, 101, 110, 99, 101], [108, 111, 97, 100, 115], [115, 116, 111, 114, 101, 115], [115, 107, 105, 112], [105, 102], [116, 114, 117, 101]]
def kept (s : ByteArray) : Bool := keptL.any (s.toList == ·)

/-- The value of the first i bytes as decimal digits. -/
def valTo (s : ByteArray) : Nat → Nat
  | 0 => 0
  | i + 1 => 10 * valTo s i + (if h : i < s.size then s[i].toNat - 48 else 0)
def numOk (s : ByteArray) : Bool :=
  if h : 1 ≤ s.size ∧ s.size ≤ 3 then !((s[0].toNat : Int) == 48 && decide (1 < s.size)) && runTo isDig s 0 == s.size && decide (valTo s s.size ≤ 255) else false
def numV (s : ByteArray) : Nat := if numOk s then valTo s s.size else 0

theorem valTo_succ {s : ByteArray} {i : Nat} (h : i < s.size) (hd : isDig s[i].toNat = true) : (valTo s (i + 1) : Int) = 10 * (valTo s i : Int) + ((s[i].toNat : Int) - 48) := by
  have := isDig_iff.1 hd
  rw [valTo, dif_pos h]; omega

def regOk (s : ByteArray) : Bool := if h : s.size = 2 then (s[0].toNat : Int) == 114 && decide (48 ≤ (s[1].toNat : Int)) && decide ((s[1].toNat : Int) ≤ 55) else false
def regV (s : ByteArray) : Int := if h : s.size = 2 then (if regOk s then (s[1].toNat : Int) - 48 else 0) else 0

/-- How many of the bytes 1 to i - 1 are digits. -/
def digs (s : ByteArray) : Nat → Nat
  | 0 => 0
  | i + 1 => digs s i + (if h : 0 < i ∧ i < s.size then (if isDig s[i].toNat then 1 else 0) else 0)
theorem digs_le (s : ByteArray) : ∀ i, digs s i ≤ i - 1
  | 0 => Nat.le_refl _
  | 1 => by simp [digs]
  | i + 2 => by
    have := digs_le s (i + 1)
    rw [digs]; split
    · split <;> omega
    · omega
theorem digs_all (s : ByteArray) : ∀ f i, 1 ≤ i → i + f = s.size → ((runTo isDig s i = s.size ∧ digs s i = i - 1) ↔ digs s s.size = s.size - 1)
  | 0, i, h1, hi => by
    have : i = s.size := by omega
    subst this; rw [runTo_end (Nat.le_refl _)]; simp
  | f + 1, i, h1, hi => by
    have ih := digs_all s f (i + 1) (by omega) (by omega)
    have hl : i < s.size := by omega
    by_cases hd : isDig s[i].toNat = true
    · rw [runTo_step hl hd]
      have : digs s (i + 1) = digs s i + 1 := by rw [digs, dif_pos ⟨by omega, hl⟩, if_pos hd]
      rw [← ih, this]
      have := digs_le s i
      constructor
      · rintro ⟨a, b⟩; exact ⟨a, by omega⟩
      · rintro ⟨a, b⟩; exact ⟨a, by omega⟩
    · have hd' : isDig s[i].toNat = false := by simpa using hd
      rw [runTo_stop hl hd']
      have : digs s (i + 1) = digs s i := by rw [digs, dif_pos ⟨by omega, hl⟩, if_neg hd]; rfl
      have := digs_le s i
      rw [← ih]
      constructor
      · rintro ⟨a, b⟩; omega
      · rintro ⟨a, b⟩; omega
/-- All bytes from the second on are digits. -/
def tailDig (s : ByteArray) : Bool := runTo isDig s 1 == s.size
theorem tailDig_iff {s : ByteArray} (h : 1 ≤ s.size) : tailDig s = (digs s s.size == s.size - 1) := by
  have := digs_all s (s.size - 1) 1 (Nat.le_refl _) (by omega)
  have h0 : digs s 1 = 0 := by simp [digs]
  rw [h0] at this
  unfold tailDig
  rw [Bool.eq_iff_iff, beq_iff_eq, beq_iff_eq, ← this]
  simp
def nameOk (s : ByteArray) : Bool :=
  if h : 1 ≤ s.size ∧ s.size ≤ 16 then cls s[0].toNat == 3 && !kept s && runTo goes s 1 == s.size && !((s[0].toNat : Int) == 114 && decide (1 < s.size) && tailDig s) else false
end Go.Proofs.YtmfdpnjgljlkbaaDoor

namespace Go.Proofs.YtmfdpnjgljlkbaaDoor
open Go.RowKit

set_option maxHeartbeats 2000000 in
theorem classOf_any (n : Int) (w : World) :
    Calls Tryd.prog 90 #[.int .u8 n] w fun e w' => e = .returned (.int .i64 (cls n)) ∧ w = w' := by
  go_enter Tryd.func90, Tryd.ntmps90
  go_wp2
  all_goals
    go_ret
    refine ⟨ret_int ?_, rfl⟩
    try simp only [beq_iff_eq, beq_eq_false_iff_ne] at *
    unfold cls
    repeat' split
    all_goals omega

theorem inWord_any (n : Int) (w : World) (c : Bool) (hc : goes n = c) :
    Calls Tryd.prog 92 #[.int .u8 n] w fun e w' => e = .returned (.bool c) ∧ w = w' := by
  have Hc := Lib.hid hc
  clear hc
  go_enter Tryd.func92, Tryd.ntmps92
  go_wp2_with (go_at_call 90; refine (classOf_any _ _).mono ?_; rintro e w' ⟨rfl, rfl⟩)
  all_goals
    go_ret
    refine ⟨ret_bool ?_, rfl⟩
    rw [← Hc.out]; simp [goes, *]

/-- The scanner's block: the source, the offset, and whether the line has a token. -/
def Scan (w : World) (b : Nat) (s : ByteArray) (k : Nat) (o : Bool) : Prop := Blk w b [.string s, .int .i64 k, .bool o] 132

theorem Scan.at {w : World} {b : Nat} {s : ByteArray} {k : Nat} {o : Bool} (h : Scan w b s k o) (j : Nat) : Scan (w.setCell ⟨b, 1, none⟩ (.int .i64 j)) b s j o := Blk.set h 1 _
theorem Scan.drewN {w : World} {b : Nat} {s : ByteArray} {k : Nat} {o : Bool} (h : Scan w b s k o) (n : Nat) : Scan (w.drewN n) b s k o := h
theorem Scan.at' {w : World} {b : Nat} {s : ByteArray} {k : Nat} {o : Bool} (h : Scan w b s k o) : Scan (w.setCell ⟨b, 1, none⟩ (.int .i64 (k + 1))) b s (k + 1) o := by
  have := h.at (k + 1); rwa [Int.natCast_add] at this

theorem over_any (b : Nat) (s : ByteArray) (k : Nat) (o : Bool) (w : World) (hS : Scan w b s k o) (c : Bool) (hc : decide (s.size ≤ k) = c) :
    Calls Tryd.prog 100 #[.pointer (some ⟨b, 0, none⟩)] w fun e w' => e = .returned (.bool c) ∧ ∃ n, w' = w.drewN n := by
  have c0 := hS.cell 0 rfl
  have c1 := hS.cell 1 rfl
  have Hc := Lib.hid hc
  clear hc hS
  go_enter Tryd.func100, Tryd.ntmps100
  go_wp2
  go_quiet (fail)
  go_wp2
  go_ret
  exact ⟨ret_bool (by rw [← Hc.out]), _, rfl⟩

theorem atEnd_any (b : Nat) (s : ByteArray) (k : Nat) (o : Bool) (w : World) (hS : Scan w b s k o) (c : Bool) (hc : (if h : k < s.size then cls s[k].toNat == 2 else true) = c) :
    Calls Tryd.prog 98 #[.pointer (some ⟨b, 0, none⟩)] w fun e w' => e = .returned (.bool c) ∧ ∃ n, w' = w.drewN n := by
  have c0 := hS.cell 0 rfl
  have c1 := hS.cell 1 rfl
  have hS' := hS
  by_cases h : k < s.size
  · rw [dif_pos h] at hc
    have hd : decide (s.size ≤ k) = false := by simp; omega
    have Hc := Lib.hid hc
    clear hc hS
    go_enter Tryd.func98, Tryd.ntmps98
    go_wp2
    go_quiet ((first | (go_at_call 100; exact Calls.quiet_of (over_any b s k o _ (hS'.drewN _) false hd)) | (go_at_call 90; exact quiet_left (classOf_any _ _))))
    go_wp2
    go_ret
    exact ⟨ret_bool (by rw [← Hc.out]), _, rfl⟩
  · rw [dif_neg h] at hc
    subst hc
    have hd : decide (s.size ≤ k) = true := by simp; omega
    clear hS
    go_enter Tryd.func98, Tryd.ntmps98
    go_wp2
    go_quiet ((go_at_call 100; exact Calls.quiet_of (over_any b s k o _ (hS'.drewN _) true hd)))
    go_wp2
    go_ret
    exact ⟨rfl, _, rfl⟩
end Go.Proofs.YtmfdpnjgljlkbaaDoor

namespace Go.Proofs.YtmfdpnjgljlkbaaDoor
open Go.RowKit

theorem passTo_eq {s : ByteArray} {k j : Nat} (h : runTo (fun n => cls n == 1) s k = j) :
    passTo s k = if h : j < s.size then (if cls s[j].toNat == 7 then runTo (fun n => cls n != 2) s j else j) else j := by
  subst h; rfl

set_option maxHeartbeats 1000000 in
theorem pass_any (b : Nat) (s : ByteArray) (k : Nat) (o : Bool) (w : World) (hS : Scan w b s k o) (hs : s.size ≤ 16384) (hk : k ≤ s.size) :
    Calls Tryd.prog 97 #[.pointer (some ⟨b, 0, none⟩)] w fun e w' => e = .returned (.tuple #[]) ∧ Scan w' b s (passTo s k) o ∧ w.grownBy w' (some b) := by
  go_enter Tryd.func97, Tryd.ntmps97
  go_wp2
  go_loopg [] (s.size - k) (fun m wr => ∃ j, Hid (m = s.size - j) ∧ k ≤ j ∧ j ≤ s.size ∧ Scan wr b s j o ∧ w.grownBy wr (some b) ∧ Hid (runTo (fun n => cls n == 1) s k = runTo (fun n => cls n == 1) s j))
  case atStart => exact ⟨k, Lib.hid rfl, Nat.le_refl _, hk, hS, only_refl _ _, Lib.hid rfl⟩
  case round =>
    obtain ⟨j, hm, hj1, hj2, hSj, hg, he⟩ := hrel
    have c0 := hSj.cell 0 rfl
    have c1 := hSj.cell 1 rfl
    have f1 := hSj.frozen 1
    clear hS
    by_cases hj : j < s.size
    · have hd : decide (s.size ≤ j) = false := by simp; omega
      by_cases h1 : cls s[j].toNat = 1
      · have h1' : (cls ↑s[j].toNat == 1) = true := by simpa using h1
        have H1 := Lib.hid h1
        clear h1
        go_wp2
        go_quiet ((first | (go_at_call 100; first | with_reducible exact quiet_add (over_any b s j o _ (hSj.drewN _) false hd) | with_reducible exact Calls.quiet_of (over_any b s j o _ (hSj.drewN _) false hd) | with_reducible exact quiet_add_left (over_any b s j o _ (hSj.drewN _) false hd) | with_reducible exact quiet_left (over_any b s j o _ (hSj.drewN _) false hd)) | (go_at_call 90; first | with_reducible exact quiet_add (classOf_any _ _) | with_reducible exact Calls.quiet_of (classOf_any _ _) | with_reducible exact quiet_add_left (classOf_any _ _) | with_reducible exact quiet_left (classOf_any _ _))))
        go_wp2
        go_roundg (s.size - (j + 1))
        case measure => rw [hm.out]; omega
        case rel => exact ⟨j + 1, Lib.hid rfl, by omega, by omega, Scan.at' (hSj.drewN _), only_setCell (only_drewN hg _) (.inl rfl) _, Lib.hid (he.out.trans (runTo_step hj h1'))⟩
      · have h1' : (cls ↑s[j].toNat == 1) = false := by simpa using h1
        have hp := passTo_eq (he.out.trans (runTo_stop hj h1'))
        rw [dif_pos hj] at hp
        by_cases h7 : cls s[j].toNat = 7
        · have h7' : (cls ↑s[j].toNat == 7) = true := by simpa using h7
          have h7n : (cls ↑s[j].toNat != 7) = false := by simpa using h7
          rw [if_pos h7'] at hp
          have Hp := Lib.hid hp
          clear h1 h7 hp
          go_wp2
          go_quiet ((first | (go_at_call 100; first | with_reducible exact quiet_add (over_any b s j o _ (hSj.drewN _) false hd) | with_reducible exact Calls.quiet_of (over_any b s j o _ (hSj.drewN _) false hd) | with_reducible exact quiet_add_left (over_any b s j o _ (hSj.drewN _) false hd) | with_reducible exact quiet_left (over_any b s j o _ (hSj.drewN _) false hd)) | (go_at_call 90; first | with_reducible exact quiet_add (classOf_any _ _) | with_reducible exact Calls.quiet_of (classOf_any _ _) | with_reducible exact quiet_add_left (classOf_any _ _) | with_reducible exact quiet_left (classOf_any _ _))))
          go_wp2
          go_quiet ((first | (go_at_call 100; first | with_reducible exact quiet_add (over_any b s j o _ (hSj.drewN _) false hd) | with_reducible exact Calls.quiet_of (over_any b s j o _ (hSj.drewN _) false hd) | with_reducible exact quiet_add_left (over_any b s j o _ (hSj.drewN _) false hd) | with_reducible exact quiet_left (over_any b s j o _ (hSj.drewN _) false hd)) | (go_at_call 90; first | with_reducible exact quiet_add (classOf_any _ _) | with_reducible exact Calls.quiet_of (classOf_any _ _) | with_reducible exact quiet_add_left (classOf_any _ _) | with_reducible exact quiet_left (classOf_any _ _))))
          go_wp2
          go_loopg [] (s.size - j) (fun m wi => ∃ i, Hid (m = s.size - i) ∧ j ≤ i ∧ i ≤ s.size ∧ Scan wi b s i o ∧ w.grownBy wi (some b) ∧ Hid (runTo (fun n => cls n != 2) s j = runTo (fun n => cls n != 2) s i))
          case atStart => exact ⟨j, Lib.hid rfl, Nat.le_refl _, hj2, (hSj.drewN _).drewN _, only_drewN (only_drewN hg _) _, Lib.hid rfl⟩
          case round =>
            obtain ⟨i, hm, hi1, hi2, hSi, hgi, hei⟩ := hrel
            clear c0 c1 f1 hSj
            have c0 := hSi.cell 0 rfl
            have c1 := hSi.cell 1 rfl
            have f1 := hSi.frozen 1
            by_cases h2 : (if h : i < s.size then cls s[i].toNat == 2 else true) = false
            · have hi : i < s.size := by
                by_cases hi : i < s.size
                · exact hi
                · rw [dif_neg hi] at h2; cases h2
              have h2' : (cls ↑s[i].toNat != 2) = true := by rw [dif_pos hi] at h2; simpa using h2
              have He := Lib.hid h2'
              have H2 := Lib.hid h2
              clear h2 h2'
              go_wp2_with (go_at_call 98; refine (atEnd_any b s i o _ hSi false H2.out).mono ?_; rintro e w' ⟨rfl, nn, rfl⟩)
              go_roundg (s.size - (i + 1))
              case measure => rw [hm.out]; omega
              case rel => exact ⟨i + 1, Lib.hid rfl, by omega, by omega, Scan.at' (hSi.drewN _), only_setCell (only_drewN hgi _) (.inl rfl) _, Lib.hid (hei.out.trans (runTo_step hi He.out))⟩
            · have h2' : (if h : i < s.size then cls s[i].toNat == 2 else true) = true := by simpa using h2
              have hr : runTo (fun n => cls n != 2) s i = i := by
                by_cases hi : i < s.size
                · rw [dif_pos hi] at h2'; exact runTo_stop hi (by simpa using h2')
                · exact runTo_end (by omega)
              have Hr := Lib.hid hr
              have H2 := Lib.hid h2'
              clear h2 h2' hr
              go_wp2_with (go_at_call 98; refine (atEnd_any b s i o _ hSi true H2.out).mono ?_; rintro e w' ⟨rfl, nn, rfl⟩)
              go_returns
              exact ⟨rfl, by rw [Hp.out, hei.out, Hr.out]; exact hSi.drewN _, only_drewN hgi _⟩
        · have h7' : (cls ↑s[j].toNat == 7) = false := by simpa using h7
          have h7n : (cls ↑s[j].toNat != 7) = true := by simpa using h7
          rw [if_neg (by simp [h7])] at hp
          have Hp := Lib.hid hp
          clear h1 h7 hp
          go_wp2
          go_quiet ((first | (go_at_call 100; first | with_reducible exact quiet_add (over_any b s j o _ (hSj.drewN _) false hd) | with_reducible exact Calls.quiet_of (over_any b s j o _ (hSj.drewN _) false hd) | with_reducible exact quiet_add_left (over_any b s j o _ (hSj.drewN _) false hd) | with_reducible exact quiet_left (over_any b s j o _ (hSj.drewN _) false hd)) | (go_at_call 90; first | with_reducible exact quiet_add (classOf_any _ _) | with_reducible exact Calls.quiet_of (classOf_any _ _) | with_reducible exact quiet_add_left (classOf_any _ _) | with_reducible exact quiet_left (classOf_any _ _))))
          go_wp2
          go_quiet ((first | (go_at_call 100; first | with_reducible exact quiet_add (over_any b s j o _ (hSj.drewN _) false hd) | with_reducible exact Calls.quiet_of (over_any b s j o _ (hSj.drewN _) false hd) | with_reducible exact quiet_add_left (over_any b s j o _ (hSj.drewN _) false hd) | with_reducible exact quiet_left (over_any b s j o _ (hSj.drewN _) false hd)) | (go_at_call 90; first | with_reducible exact quiet_add (classOf_any _ _) | with_reducible exact Calls.quiet_of (classOf_any _ _) | with_reducible exact quiet_add_left (classOf_any _ _) | with_reducible exact quiet_left (classOf_any _ _))))
          go_wp2
          go_returns
          exact ⟨rfl, by rw [Hp.out]; exact (hSj.drewN _).drewN _, only_drewN (only_drewN hg _) _⟩
    · have hd : decide (s.size ≤ j) = true := by simp; omega
      have hp := passTo_eq (he.out.trans (runTo_end (by omega)))
      rw [dif_neg hj] at hp
      have Hp := Lib.hid hp
      clear hp
      go_wp2
      go_quiet ((first | (go_at_call 100; first | with_reducible exact quiet_add (over_any b s j o _ (hSj.drewN _) true hd) | with_reducible exact Calls.quiet_of (over_any b s j o _ (hSj.drewN _) true hd) | with_reducible exact quiet_add_left (over_any b s j o _ (hSj.drewN _) true hd) | with_reducible exact quiet_left (over_any b s j o _ (hSj.drewN _) true hd)) | (go_at_call 90; first | with_reducible exact quiet_add (classOf_any _ _) | with_reducible exact Calls.quiet_of (classOf_any _ _) | with_reducible exact quiet_add_left (classOf_any _ _) | with_reducible exact quiet_left (classOf_any _ _))))
      go_wp2
      go_quiet ((first | (go_at_call 100; first | with_reducible exact quiet_add (over_any b s j o _ (hSj.drewN _) true hd) | with_reducible exact Calls.quiet_of (over_any b s j o _ (hSj.drewN _) true hd) | with_reducible exact quiet_add_left (over_any b s j o _ (hSj.drewN _) true hd) | with_reducible exact quiet_left (over_any b s j o _ (hSj.drewN _) true hd)) | (go_at_call 90; first | with_reducible exact quiet_add (classOf_any _ _) | with_reducible exact Calls.quiet_of (classOf_any _ _) | with_reducible exact quiet_add_left (classOf_any _ _) | with_reducible exact quiet_left (classOf_any _ _))))
      go_wp2
      go_returns
      exact ⟨rfl, by rw [Hp.out]; exact (hSj.drewN _).drewN _, only_drewN (only_drewN hg _) _⟩

set_option maxHeartbeats 1000000 in
theorem wordEnd_any (b : Nat) (s : ByteArray) (k : Nat) (o : Bool) (w : World) (hS : Scan w b s k o) (hs : s.size ≤ 16384) (hk : k < s.size) :
    Calls Tryd.prog 103 #[.pointer (some ⟨b, 0, none⟩)] w fun e w' => e = .returned (.int .i64 (wordTo s k)) ∧ w = w' := by
  have c0 := hS.cell 0 rfl
  have c1 := hS.cell 1 rfl
  go_enter Tryd.func103, Tryd.ntmps103
  go_wp2
  go_loopg [3] (s.size - (k + 1)) (fun m v wr => ∃ j : Nat, Hid (m = s.size - j) ∧ k + 1 ≤ j ∧ j ≤ s.size ∧ w = wr ∧ v = .int .i64 j ∧ Hid (runTo goes s (k + 1) = runTo goes s j))
  case atStart => exact ⟨k + 1, Lib.hid rfl, Nat.le_refl _, by omega, rfl, by go_num, Lib.hid rfl⟩
  case round =>
    obtain ⟨j, hm, hj1, hj2, rfl, rfl, he⟩ := hrel
    by_cases hj : j < s.size
    · by_cases hg : goes s[j].toNat = true
      · have Hg := Lib.hid hg
        skip
        clear hg
        go_wp2_with (go_at_call 92; refine (inWord_any _ _ true Hg.out).mono ?_; rintro e w' ⟨rfl, rfl⟩)
        go_roundg (s.size - (j + 1))
        case measure => rw [hm.out]; omega
        case rel => exact ⟨j + 1, Lib.hid rfl, by omega, by omega, rfl, by go_num, Lib.hid (he.out.trans (runTo_step hj Hg.out))⟩
      · have hg' : goes s[j].toNat = false := by simpa using hg
        have Hg := Lib.hid hg'
        skip
        clear hg hg'
        go_wp2_with (go_at_call 92; refine (inWord_any _ _ false Hg.out).mono ?_; rintro e w' ⟨rfl, rfl⟩)
        go_returns
        exact ⟨ret_int (by unfold wordTo; rw [he.out, runTo_stop hj Hg.out]), rfl⟩
    · go_wp2
      go_returns
      exact ⟨ret_int (by unfold wordTo; rw [he.out, runTo_end (by omega)]), rfl⟩

set_option maxHeartbeats 1000000 in
theorem numEnd_any (b : Nat) (s : ByteArray) (k : Nat) (o : Bool) (w : World) (hS : Scan w b s k o) (hs : s.size ≤ 16384) (hk : k < s.size) :
    Calls Tryd.prog 104 #[.pointer (some ⟨b, 0, none⟩)] w fun e w' => e = .returned (.int .i64 (numTo s k)) ∧ w = w' := by
  have c0 := hS.cell 0 rfl
  have c1 := hS.cell 1 rfl
  go_enter Tryd.func104, Tryd.ntmps104
  go_wp2
  go_loopg [3] (s.size - (k + 1)) (fun m v wr => ∃ j : Nat, Hid (m = s.size - j) ∧ k + 1 ≤ j ∧ j ≤ s.size ∧ w = wr ∧ v = .int .i64 j ∧ Hid (runTo isDig s (k + 1) = runTo isDig s j))
  case atStart => exact ⟨k + 1, Lib.hid rfl, Nat.le_refl _, by omega, rfl, by go_num, Lib.hid rfl⟩
  case round =>
    obtain ⟨j, hm, hj1, hj2, rfl, rfl, he⟩ := hrel
    by_cases hj : j < s.size
    · by_cases hg : isDig s[j].toNat = true
      · have Hg := Lib.hid hg
        have Hx : (cls ↑s[j].toNat == 4) = _ := Hg.out
        clear hg
        go_wp2_with (go_at_call 90; refine (classOf_any _ _).mono ?_; rintro e w' ⟨rfl, rfl⟩)
        go_roundg (s.size - (j + 1))
        case measure => rw [hm.out]; omega
        case rel => exact ⟨j + 1, Lib.hid rfl, by omega, by omega, rfl, by go_num, Lib.hid (he.out.trans (runTo_step hj Hg.out))⟩
      · have hg' : isDig s[j].toNat = false := by simpa using hg
        have Hg := Lib.hid hg'
        have Hx : (cls ↑s[j].toNat == 4) = _ := Hg.out
        clear hg hg'
        go_wp2_with (go_at_call 90; refine (classOf_any _ _).mono ?_; rintro e w' ⟨rfl, rfl⟩)
        go_returns
        exact ⟨ret_int (by unfold numTo; rw [he.out, runTo_stop hj Hg.out]), rfl⟩
    · go_wp2
      go_returns
      exact ⟨ret_int (by unfold numTo; rw [he.out, runTo_end (by omega)]), rfl⟩

set_option maxHeartbeats 1000000 in
theorem signEnd_any (b : Nat) (s : ByteArray) (k : Nat) (o : Bool) (w : World) (hS : Scan w b s k o) (hs : s.size ≤ 16384) (hk : k < s.size) :
    Calls Tryd.prog 102 #[.pointer (some ⟨b, 0, none⟩)] w fun e w' => e = .returned (.int .i64 (signTo s k)) ∧ ∃ n, w' = w.drewN n := by
  have c0 := hS.cell 0 rfl
  have c1 := hS.cell 1 rfl
  go_enter Tryd.func102, Tryd.ntmps102
  go_wp2
  go_quiet (fail)
  go_wp2
  all_goals
    go_returns
    refine ⟨ret_int ?_, _, rfl⟩
    unfold signTo isEq2
    first
      | (rw [dif_pos (by omega)]; simp [*]; done)
      | (rw [dif_pos (by omega)]; simp [*]; omega)
      | (rw [dif_neg (by omega)]; simp)
      | (split <;> simp [*] <;> omega)
      | (split <;> simp [*])
end Go.Proofs.YtmfdpnjgljlkbaaDoor

namespace Go.Proofs.YtmfdpnjgljlkbaaDoor
open Go.RowKit

theorem ret_num {a b : Int} {c d : Bool} (h : a = b) (g : c = d) : Ending.returned (.tuple #[.int .u8 a, .bool c]) = .returned (.tuple #[.int .u8 b, .bool d]) := by rw [h, g]

set_option maxHeartbeats 1000000 in
theorem num_any (s : ByteArray) (w : World) (hs : s.size ≤ maxLen) (c : Bool) (hc : numOk s = c) :
    Calls Tryd.prog 101 #[.string s] w fun e w' => e = .returned (.tuple #[.int .u8 (numV s), .bool c]) ∧ w = w' := by
  unfold maxLen at hs
  have Hc := Lib.hid hc
  clear hc
  by_cases h : 1 ≤ s.size ∧ s.size ≤ 3
  · by_cases hz : (s[0].toNat : Int) = 48 ∧ 1 < s.size
    · have hno : numOk s = false := by unfold numOk; rw [dif_pos h]; simp [hz.1, hz.2]
      have Hn := Lib.hid hno
      obtain ⟨h1, h2⟩ := h
      obtain ⟨hz1, hz2⟩ := hz
      have hz1' : ((s[0].toNat : Int) == 48) = true := by simpa using hz1
      clear hno hz1
      go_enter Tryd.func101, Tryd.ntmps101
      go_wp2
      go_returns
      exact ⟨ret_num (by simp [numV, Hn.out]) (by rw [← Hc.out, Hn.out]), rfl⟩
    · have hgo : numOk s = (runTo isDig s 0 == s.size && decide (valTo s s.size ≤ 255)) := by
        unfold numOk; rw [dif_pos h]
        rw [show ((s[0].toNat : Int) == 48 && decide (1 < s.size)) = false from by
          rw [Bool.and_eq_false_iff]; by_cases h0 : (s[0].toNat : Int) = 48
          · exact .inr (by simp; omega)
          · exact .inl (by simpa using h0)]
        simp
      have Hg := Lib.hid hgo
      clear hgo
      obtain ⟨h1, h2⟩ := h
      have hp : 0 < s.size := h1
      have hz' : ¬ (s[0].toNat : Int) = 48 ∨ s.size ≤ 1 := by
        by_cases h0 : (s[0].toNat : Int) = 48
        · exact .inr (by omega)
        · exact .inl h0
      clear hz
      rcases hz' with hz | hz
      all_goals
        try (have hz1 : ((s[0].toNat : Int) == 48) = false := by simpa using hz)
        go_enter Tryd.func101, Tryd.ntmps101
        go_wp2
        all_goals
          go_loopg [4, 26] s.size (fun m v i wr => ∃ j : Nat, Hid (m = s.size - j) ∧ j ≤ s.size ∧ w = wr ∧ v = .int .i64 (valTo s j) ∧ i = .int .i64 j ∧ Hid (runTo isDig s 0 = runTo isDig s j) ∧ (valTo s j : Int) ≤ 999 ∧ (j ≤ 2 → (valTo s j : Int) ≤ 99) ∧ (j ≤ 1 → (valTo s j : Int) ≤ 9) ∧ (j ≤ 0 → (valTo s j : Int) ≤ 0))
          case atStart => exact ⟨0, Lib.hid rfl, Nat.zero_le _, rfl, rfl, rfl, Lib.hid rfl, by simp [valTo], by simp [valTo], by simp [valTo], by simp [valTo]⟩
          case round =>
            obtain ⟨j, hm, hj, rfl, rfl, rfl, he, b3, b2, b1, b0⟩ := hrel
            by_cases hlt : j < s.size
            · have b2' := b2 (by omega)
              by_cases hd : isDig s[j].toNat = true
              · have hd' := isDig_iff.1 hd
                obtain ⟨d1, d2⟩ := hd'
                have hcl : (cls ↑s[j].toNat != 4) = false := by have : (cls ↑s[j].toNat == 4) = true := hd; simpa using this
                have Hv := Lib.hid (valTo_succ hlt hd)
                have Hb : Hid ((j ≤ 1 → (valTo s j : Int) ≤ 9) ∧ (j ≤ 0 → (valTo s j : Int) ≤ 0)) := Lib.hid ⟨b1, b0⟩
                have Hd := Lib.hid hd
                clear b3 b2 b1 b0 hd
                go_wp2_with (go_at_call 90; refine (classOf_any _ _).mono ?_; rintro e w' ⟨rfl, rfl⟩)
                go_roundg (s.size - (j + 1))
                case measure => rw [hm.out]; omega
                case rel => exact ⟨j + 1, Lib.hid rfl, by omega, rfl, by rw [Hv.out], by go_num, Lib.hid (he.out.trans (runTo_step hlt Hd.out)), by rw [Hv.out]; omega, fun _ => by rw [Hv.out]; have := Hb.out.1 (by omega); omega, fun _ => by rw [Hv.out]; have := Hb.out.2 (by omega); omega, fun _ => by omega⟩
              · have hd' : isDig s[j].toNat = false := by simpa using hd
                have hcl : (cls ↑s[j].toNat != 4) = true := by have : (cls ↑s[j].toNat == 4) = false := hd'; simpa using this
                have hno : numOk s = false := by
                  rw [Hg.out, he.out, runTo_stop hlt hd']
                  simp; omega
                have Hn := Lib.hid hno
                clear b3 b2 b1 b0 hd hd' hno
                go_wp2_with (go_at_call 90; refine (classOf_any _ _).mono ?_; rintro e w' ⟨rfl, rfl⟩)
                go_returns
                exact ⟨ret_num (by simp [numV, Hn.out]) (by rw [← Hc.out, Hn.out]), rfl⟩
            · have hjs : j = s.size := by omega
              have hgo : numOk s = decide (valTo s s.size ≤ 255) := by
                rw [Hg.out, he.out, runTo_end (by omega)]; simp [hjs]
              have Hn := Lib.hid hgo
              have Hj := Lib.hid hjs
              clear hgo hjs b2 b1 b0
              by_cases hv : (valTo s j : Int) ≤ 255
              · go_wp2
                go_returns
                refine ⟨ret_num ?_ ?_, rfl⟩
                · rw [numV, Hn.out, ← Hj.out, decide_eq_true (by omega)]; simp
                · rw [← Hc.out, Hn.out, ← Hj.out]; simp; omega
              · go_wp2
                go_returns
                refine ⟨ret_num ?_ ?_, rfl⟩
                · rw [numV, Hn.out, ← Hj.out, decide_eq_false (by omega)]; simp
                · rw [← Hc.out, Hn.out, ← Hj.out]; simp; omega
  · have hno : numOk s = false := by unfold numOk; rw [dif_neg h]
    have Hn := Lib.hid hno
    clear hno
    have h' : s.size < 1 ∨ 3 < s.size := by omega
    clear h
    rcases h' with h | h
    all_goals
      go_enter Tryd.func101, Tryd.ntmps101
      go_wp2
      go_returns
      exact ⟨ret_num (by simp [numV, Hn.out]) (by rw [← Hc.out, Hn.out]), rfl⟩

set_option maxHeartbeats 2000000 in
theorem kept_any (s : ByteArray) (w : World) (c : Bool) (hc : kept s = c) :
    Calls Tryd.prog 91 #[.string s] w fun e w' => e = .returned (.bool c) ∧ w = w' := by
  have Hc := Lib.hid hc
  clear hc
  go_enter Tryd.func91, Tryd.ntmps91
  go_wp2
  all_goals
    go_returns
    refine ⟨ret_bool ?_, rfl⟩
    rw [← Hc.out]
    first | (simp only [kept, keptL, List.any_cons, List.any_nil, *]; done) | (simp [kept, keptL, *]; done) | (simp_all [kept, keptL]; done)

end Go.Proofs.YtmfdpnjgljlkbaaDoor

namespace Go.Proofs.YtmfdpnjgljlkbaaDoor
open Go.RowKit

set_option maxHeartbeats 1000000 in
theorem name_any (s : ByteArray) (w : World) (hs : s.size ≤ maxLen) (c : Bool) (hc : nameOk s = c) :
    Calls Tryd.prog 85 #[.string s] w fun e w' => e = .returned (.bool c) ∧ w = w' := by
  unfold maxLen at hs
  have Hc := Lib.hid hc
  clear hc
  by_cases h : 1 ≤ s.size ∧ s.size ≤ 16
  · have hno : nameOk s = (cls s[0].toNat == 3 && !kept s && runTo goes s 1 == s.size && !((s[0].toNat : Int) == 114 && decide (1 < s.size) && (digs s s.size == s.size - 1))) := by
      rw [← tailDig_iff h.1]; unfold nameOk; rw [dif_pos h]
    have Hn := Lib.hid hno
    clear hno
    obtain ⟨h1, h2⟩ := h
    have hp : 0 < s.size := h1
    by_cases hl : cls s[0].toNat = 3
    · have hl' : (cls ↑s[0].toNat == 3) = true := by simpa using hl
      have hl'' : (cls ↑s[0].toNat != 3) = false := by simpa using hl
      by_cases hk : kept s = true
      · have Hl := Lib.hid hl'
        have Hk := Lib.hid hk
        clear hl' hk hl
        go_enter Tryd.func85, Tryd.ntmps85
        go_wp2_with (first | (go_at_call 90; refine (classOf_any _ _).mono ?_; rintro e w' ⟨rfl, rfl⟩) | (go_at_call 91; refine (kept_any _ _ true Hk.out).mono ?_; rintro e w' ⟨rfl, rfl⟩))
        go_returns
        exact ⟨ret_bool (by rw [← Hc.out, Hn.out, Hk.out]; simp), rfl⟩
      · have hk' : kept s = false := by simpa using hk
        have Hl := Lib.hid hl'
        have Hk := Lib.hid hk'
        clear hl' hk hk' hl
        go_enter Tryd.func85, Tryd.ntmps85
        go_wp2_with (first | (go_at_call 90; refine (classOf_any _ _).mono ?_; rintro e w' ⟨rfl, rfl⟩) | (go_at_call 91; refine (kept_any _ _ false Hk.out).mono ?_; rintro e w' ⟨rfl, rfl⟩))
        go_loopg [3, 4] (s.size - 1) (fun m d i wr => ∃ j : Nat, Hid (m = s.size - j) ∧ 1 ≤ j ∧ j ≤ s.size ∧ w = wr ∧ d = .int .i64 (digs s j) ∧ i = .int .i64 j ∧ Hid (runTo goes s 1 = runTo goes s j) ∧ digs s j ≤ 16)
        case atStart => exact ⟨1, Lib.hid rfl, by omega, by omega, rfl, by simp [digs], rfl, Lib.hid rfl, by simp [digs]⟩
        case round =>
          obtain ⟨j, hm, hj1, hj2, rfl, rfl, rfl, he, hdb⟩ := hrel
          by_cases hlt : j < s.size
          · by_cases hg : goes s[j].toNat = true
            · have Hg := Lib.hid hg
              clear hg
              by_cases hd : isDig s[j].toNat = true
              · have hcl : (cls ↑s[j].toNat == 4) = true := hd
                have Hs : Hid (digs s (j + 1) = digs s j + 1) := Lib.hid (by rw [digs, dif_pos ⟨by omega, hlt⟩, if_pos hd])
                clear hd
                go_wp2_with (first | (go_at_call 92; refine (inWord_any _ _ true Hg.out).mono ?_; rintro e w' ⟨rfl, rfl⟩) | (go_at_call 90; refine (classOf_any _ _).mono ?_; rintro e w' ⟨rfl, rfl⟩))
                go_roundg (s.size - (j + 1))
                case measure => rw [hm.out]; omega
                case rel => exact ⟨j + 1, Lib.hid rfl, by omega, by omega, rfl, by rw [Hs.out]; go_num, by go_num, Lib.hid (he.out.trans (runTo_step hlt Hg.out)), by have := digs_le s (j + 1); omega⟩
              · have hcl : (cls ↑s[j].toNat == 4) = false := by simpa [isDig] using hd
                have Hs : Hid (digs s (j + 1) = digs s j) := Lib.hid (by rw [digs, dif_pos ⟨by omega, hlt⟩, if_neg hd]; rfl)
                clear hd
                go_wp2_with (first | (go_at_call 92; refine (inWord_any _ _ true Hg.out).mono ?_; rintro e w' ⟨rfl, rfl⟩) | (go_at_call 90; refine (classOf_any _ _).mono ?_; rintro e w' ⟨rfl, rfl⟩))
                go_roundg (s.size - (j + 1))
                case measure => rw [hm.out]; omega
                case rel => exact ⟨j + 1, Lib.hid rfl, by omega, by omega, rfl, by rw [Hs.out], by go_num, Lib.hid (he.out.trans (runTo_step hlt Hg.out)), by have := digs_le s (j + 1); omega⟩
            · have hg' : goes s[j].toNat = false := by simpa using hg
              have hno : nameOk s = false := by
                rw [Hn.out, he.out, runTo_stop hlt hg', show (j == s.size) = false from by simp; omega]; simp
              have Hno := Lib.hid hno
              have Hg := Lib.hid hg'
              clear hg hg' hno
              go_wp2_with (go_at_call 92; refine (inWord_any _ _ false Hg.out).mono ?_; rintro e w' ⟨rfl, rfl⟩)
              go_returns
              exact ⟨ret_bool (by rw [← Hc.out, Hno.out]), rfl⟩
          · have hjs : j = s.size := by omega
            have hno : nameOk s = !((s[0].toNat : Int) == 114 && decide (1 < s.size) && (digs s j == s.size - 1)) := by
              rw [Hn.out, he.out, runTo_end (by omega), Hl.out, Hk.out, hjs]; simp
            have hdl := digs_le s j
            have Hno := Lib.hid hno
            have Hj := Lib.hid hjs
            clear hno hjs
            by_cases h0 : (s[0].toNat : Int) = 114
            · by_cases h1' : digs s j = 0
              · have h1'' : ((digs s j : Int) == 0) = true := by simp [h1']
                have H0 : Hid (((s[0].toNat : Int) == 114) = true) := Lib.hid (by simpa using h0)
                have H1 := Lib.hid h1'
                have h0' : ((s[0].toNat : Int) != 114) = false := by simpa using h0
                clear h1' h0
                go_wp2
                go_returns
                refine ⟨ret_bool ?_, rfl⟩
                rw [← Hc.out, Hno.out, H0.out, H1.out]
                by_cases hh : 1 < s.size
                · rw [show (0 == s.size - 1) = false from by simp; omega]; simp
                · rw [decide_eq_false hh]; simp
              · have h1'' : ((digs s j : Int) == 0) = false := by simpa using h1'
                have H0 : Hid (((s[0].toNat : Int) == 114) = true) := Lib.hid (by simpa using h0)
                have h0' : ((s[0].toNat : Int) != 114) = false := by simpa using h0
                clear h0
                go_wp2
                all_goals
                  go_returns
                  refine ⟨ret_bool ?_, rfl⟩
                  rw [← Hc.out, Hno.out, H0.out, show decide (1 < s.size) = true from by simp; omega]
                  rw [Bool.eq_iff_iff]; simp; omega
            · have H0 : Hid (((s[0].toNat : Int) == 114) = false) := Lib.hid (by simpa using h0)
              have h0' : ((s[0].toNat : Int) != 114) = true := by simpa using h0
              clear h0
              go_wp2
              go_returns
              exact ⟨ret_bool (by rw [← Hc.out, Hno.out, H0.out]; simp), rfl⟩
    · have hl' : (cls ↑s[0].toNat != 3) = true := by simpa using hl
      have hno : nameOk s = false := by rw [Hn.out, show (cls ↑s[0].toNat == 3) = false from by simpa using hl]; simp
      have Hno := Lib.hid hno
      clear hno hl
      go_enter Tryd.func85, Tryd.ntmps85
      go_wp2_with (go_at_call 90; refine (classOf_any _ _).mono ?_; rintro e w' ⟨rfl, rfl⟩)
      go_returns
      exact ⟨ret_bool (by rw [← Hc.out, Hno.out]), rfl⟩
  · have hno : nameOk s = false := by unfold nameOk; rw [dif_neg h]
    have Hn := Lib.hid hno
    clear hno
    have h' : s.size < 1 ∨ 16 < s.size := by omega
    clear h
    rcases h' with h | h
    all_goals
      go_enter Tryd.func85, Tryd.ntmps85
      go_wp2
      go_returns
      exact ⟨ret_bool (by rw [← Hc.out, Hn.out]), rfl⟩
end Go.Proofs.YtmfdpnjgljlkbaaDoor

namespace Go.Proofs.YtmfdpnjgljlkbaaDoor

structure Tok where
  kind : Nat
  text : ByteArray
  pos : Nat

def tokKind (c : Int) : Nat := if c = 3 then 1 else if c = 4 then 2 else 3
/-- The class of the byte at k; that of no byte behind the end. -/
def clsAt (s : ByteArray) (k : Nat) : Int := if h : k < s.size then cls s[k].toNat else 2
def tokTo (s : ByteArray) (k : Nat) : Nat := if clsAt s k = 3 then wordTo s k else if clsAt s k = 4 then numTo s k else signTo s k
def tokAt (s : ByteArray) (k : Nat) : Tok := ⟨tokKind (clsAt s k), s.extract k (tokTo s k), k⟩

theorem passTo_ge (s : ByteArray) (k : Nat) : k ≤ passTo s k := by
  unfold passTo; simp only
  have h1 := runTo_ge (fun n => cls n == 1) s k
  split
  · split
    · exact Nat.le_trans h1 (runTo_ge _ _ _)
    · exact h1
  · exact h1
theorem passTo_le (s : ByteArray) (k : Nat) (h : k ≤ s.size) : passTo s k ≤ s.size := by
  unfold passTo; simp only
  have h1 := runTo_le (fun n => cls n == 1) s k h
  split
  · split
    · exact runTo_le _ _ _ h1
    · exact h1
  · exact h1
theorem signTo_le (s : ByteArray) (k : Nat) (h : k < s.size) : signTo s k ≤ s.size := by
  unfold signTo
  by_cases h' : isEq2 s k = true
  · rw [if_pos h']
    by_cases hh : k + 1 < s.size
    · omega
    · rw [isEq2, dif_neg hh] at h'; cases h'
  · rw [if_neg h']; omega
theorem tokTo_le (s : ByteArray) (k : Nat) (h : k < s.size) : tokTo s k ≤ s.size := by
  unfold tokTo; split
  · exact runTo_le _ _ _ h
  · split
    · exact runTo_le _ _ _ h
    · exact signTo_le s k h
theorem tokTo_gt (s : ByteArray) (k : Nat) : k < tokTo s k := by
  unfold tokTo; split
  · exact runTo_ge _ _ _
  · split
    · exact runTo_ge _ _ _
    · unfold signTo; split <;> omega

/-- The next token from offset k on, 'open': the line has a token; with what follows it. -/
def nextT (s : ByteArray) : Nat → Nat → Bool → Option Tok × Nat × Bool
  | 0, k, o => (none, k, o)
  | f + 1, k, o =>
    if clsAt s (passTo s k) ≠ 2 then (some (tokAt s (passTo s k)), tokTo s (passTo s k), true)
    else if o then (some ⟨4, ByteArray.empty, passTo s k⟩, min (passTo s k + 1) s.size, false)
    else if s.size ≤ passTo s k then (none, min (passTo s k + 1) s.size, false)
    else nextT s f (passTo s k + 1) false

theorem clsAt_lt {s : ByteArray} {k : Nat} (h : clsAt s k ≠ 2) : k < s.size := by
  unfold clsAt at h; split at h
  · assumption
  · exact absurd rfl h
def faultOf (t : Tok) : Int :=
  if t.kind = 1 then (if 16 < t.text.size then 42 else 0)
  else if t.kind = 2 then (if numOk t.text then 0 else 41)
  else if t.kind = 3 then (if clsAt t.text 0 = 6 then 0 else 40)
  else 0

theorem tl_loop (s : ByteArray) : ∀ (n i : Nat) (r : List UInt8), s.size - i = n → ByteArray.toList.loop s i r = r.reverse ++ s.data.toList.drop i := by
  intro n
  induction n with
  | zero => intro i r h; unfold ByteArray.toList.loop; rw [if_neg (by omega), List.drop_eq_nil_of_le (by simp; show s.size ≤ i; omega)]; simp
  | succ n ih =>
    intro i r h
    unfold ByteArray.toList.loop
    have hi : i < s.data.toList.length := by simp; show i < s.size; omega
    rw [if_pos (by omega), ih (i+1) _ (by omega), List.drop_eq_getElem_cons hi]
    have : s.get! i = s.data.toList[i] := by
      simp [ByteArray.get!, Array.getElem!_eq_getD]
      rw [Array.getElem?_eq_getElem (by simpa using hi)]; rfl
    simp [this]
theorem toList_data (s : ByteArray) : s.toList = s.data.toList := by
  unfold ByteArray.toList; rw [tl_loop s _ 0 [] rfl]; simp
theorem toList_nil {s : ByteArray} (h : s.size = 0) : s.toList = [] := by
  rw [toList_data]; exact List.eq_nil_of_length_eq_zero (by simpa using h)
theorem toList_ne {s : ByteArray} (h : 0 < s.size) : ¬ s.toList = [] := by
  rw [toList_data]; intro h'
  have h2 : s.data.toList.length = 0 := by rw [h']; rfl
  have h3 : s.data.size = 0 := by simpa using h2
  have h4 : s.size = 0 := h3
  omega
theorem toList_isEmpty {s : ByteArray} (h : 0 < s.size) : s.toList.isEmpty = false := by
  cases hl : s.toList with
  | nil => exact absurd hl (toList_ne h)
  | cons => rfl
theorem data_length (s : ByteArray) : s.data.toList.length = s.size := by simp
theorem data_get {s : ByteArray} {i : Nat} (h : i < s.size) : s.data.toList[i]'(by rw [data_length]; exact h) = s[i] := rfl
theorem eq_of_toList {a b : ByteArray} (h : a.toList = b.toList) : a = b := by
  rw [toList_data, toList_data] at h
  exact ByteArray.ext (Array.ext' h)
end Go.Proofs.YtmfdpnjgljlkbaaDoor

namespace Go.Proofs.YtmfdpnjgljlkbaaDoor
open Go.RowKit

/-- A token as the program holds it. -/
def Tok.val (t : Tok) : Value := .agg #[.int .u8 t.kind, .string t.text, .int .i64 t.pos]

theorem Scan.alloc {w : World} {b : Nat} {s : ByteArray} {k : Nat} {o : Bool} (h : Scan w b s k o) (x : Obj) : Scan (w.alloc x) b s k o := Blk.alloc (h := h) x
theorem Scan.drew {w : World} {b : Nat} {s : ByteArray} {k : Nat} {o : Bool} (h : Scan w b s k o) : Scan w.drew b s k o := h
theorem Scan.other {w : World} {b : Nat} {s : ByteArray} {k : Nat} {o : Bool} (h : Scan w b s k o) (a : Addr) (hne : b ≠ a.block) (v : Value) : Scan (w.setCell a v) b s k o := Blk.setOther h a hne v
theorem Scan.open' {w : World} {b : Nat} {s : ByteArray} {k : Nat} {o : Bool} (h : Scan w b s k o) (x : Bool) : Scan (w.setCell ⟨b, 2, none⟩ (.bool x)) b s k x := Blk.set (h := h) 2 _
theorem Scan.lt {w : World} {b : Nat} {s : ByteArray} {k : Nat} {o : Bool} (h : Scan w b s k o) : b < w.heap.size := Blk.lt h

set_option maxHeartbeats 1000000 in
theorem token_any (b : Nat) (s : ByteArray) (k : Nat) (o : Bool) (w : World) (hS : Scan w b s k o) (hs : s.size ≤ 16384) (hk : k < s.size) :
    Calls Tryd.prog 99 #[.pointer (some ⟨b, 0, none⟩)] w fun e w' => e = .returned (tokAt s k).val ∧ Scan w' b s (tokTo s k) o ∧ w.grownBy w' (some b) := by
  have c0 := hS.cell 0 rfl
  have c1 := hS.cell 1 rfl
  have f1 := hS.frozen 1
  have hlt := hS.lt
  have hto := tokTo_le s k hk
  have hgt := tokTo_gt s k
  have hca : clsAt s k = cls s[k].toNat := by unfold clsAt; rw [dif_pos hk]
  have S1 : ∀ x n, Scan ((w.alloc x).drewN n) b s k o := fun x n => Blk.alloc (h := hS) x
  by_cases h3 : cls s[k].toNat = 3
  · have h3' : (cls ↑s[k].toNat == 3) = true := by simpa using h3
    have ht : tokTo s k = wordTo s k := by unfold tokTo; rw [hca, if_pos h3]
    have HT := Lib.hid ht
    have HV : Hid (tokAt s k = ⟨1, s.extract k (wordTo s k), k⟩) := Lib.hid (by unfold tokAt tokKind; rw [ht, hca]; rw [if_pos h3])
    rw [ht] at hto hgt
    clear ht hca
    go_enter Tryd.func99, Tryd.ntmps99
    go_wp2
    go_quiet ((first | (go_at_call 90; first | with_reducible exact quiet_add (classOf_any _ _) | with_reducible exact Calls.quiet_of (classOf_any _ _) | with_reducible exact quiet_add_left (classOf_any _ _) | with_reducible exact quiet_left (classOf_any _ _))))
    go_wp2_with (go_at_call 103; refine (wordEnd_any b s k o _ (S1 _ _) hs hk).mono ?_; rintro e w' ⟨rfl, rfl⟩)
    go_region
    go_wp2
    go_returns
    refine ⟨by rw [HV.out]; rfl, ?_, ?_⟩
    · rw [HT.out]; (repeat (first | with_reducible exact hS | with_reducible refine Scan.drew ?_ | with_reducible refine Scan.drewN ?_ _ | with_reducible refine Scan.alloc ?_ _ | refine Scan.other ?_ _ (Nat.ne_of_lt hlt) _ | refine Scan.at (k := k) ?_ _ | refine Scan.at' ?_))
    · (repeat (first | with_reducible exact only_refl _ _ | with_reducible refine only_drew ?_ | with_reducible refine only_drewN ?_ _ | with_reducible refine only_alloc ?_ _ | with_reducible refine only_setCell ?_ (by first | exact .inl rfl | exact .inr (Nat.le_refl _) | exact .inr (by simp)) _))
  · by_cases h4 : cls s[k].toNat = 4
    · have h3' : (cls ↑s[k].toNat == 3) = false := by simpa using h3
      have h4' : (cls ↑s[k].toNat == 4) = true := by simpa using h4
      have ht : tokTo s k = numTo s k := by unfold tokTo; rw [hca, if_neg h3, if_pos h4]
      have HT := Lib.hid ht
      have HV : Hid (tokAt s k = ⟨2, s.extract k (numTo s k), k⟩) := Lib.hid (by unfold tokAt tokKind; rw [ht, hca]; rw [if_neg h3, if_pos h4])
      rw [ht] at hto hgt
      clear ht hca
      go_enter Tryd.func99, Tryd.ntmps99
      go_wp2
      go_quiet ((first | (go_at_call 90; first | with_reducible exact quiet_add (classOf_any _ _) | with_reducible exact Calls.quiet_of (classOf_any _ _) | with_reducible exact quiet_add_left (classOf_any _ _) | with_reducible exact quiet_left (classOf_any _ _))))
      go_wp2_with (go_at_call 104; refine (numEnd_any b s k o _ (S1 _ _) hs hk).mono ?_; rintro e w' ⟨rfl, rfl⟩)
      go_region
      go_wp2
      go_returns
      refine ⟨by rw [HV.out]; rfl, ?_, ?_⟩
      · rw [HT.out]; (repeat (first | with_reducible exact hS | with_reducible refine Scan.drew ?_ | with_reducible refine Scan.drewN ?_ _ | with_reducible refine Scan.alloc ?_ _ | refine Scan.other ?_ _ (Nat.ne_of_lt hlt) _ | refine Scan.at (k := k) ?_ _ | refine Scan.at' ?_))
      · (repeat (first | with_reducible exact only_refl _ _ | with_reducible refine only_drew ?_ | with_reducible refine only_drewN ?_ _ | with_reducible refine only_alloc ?_ _ | with_reducible refine only_setCell ?_ (by first | exact .inl rfl | exact .inr (Nat.le_refl _) | exact .inr (by simp)) _))
    · have h3' : (cls ↑s[k].toNat == 3) = false := by simpa using h3
      have h4' : (cls ↑s[k].toNat == 4) = false := by simpa using h4
      have ht : tokTo s k = signTo s k := by unfold tokTo; rw [hca, if_neg h3, if_neg h4]
      have HT := Lib.hid ht
      have HV : Hid (tokAt s k = ⟨3, s.extract k (signTo s k), k⟩) := Lib.hid (by unfold tokAt tokKind; rw [ht, hca]; rw [if_neg h3, if_neg h4])
      rw [ht] at hto hgt
      clear ht hca
      go_enter Tryd.func99, Tryd.ntmps99
      go_wp2
      go_quiet ((first | (go_at_call 90; first | with_reducible exact quiet_add (classOf_any _ _) | with_reducible exact Calls.quiet_of (classOf_any _ _) | with_reducible exact quiet_add_left (classOf_any _ _) | with_reducible exact quiet_left (classOf_any _ _))))
      go_wp2_with (go_at_call 102; refine (signEnd_any b s k o _ (S1 _ _) hs hk).mono ?_; rintro e w' ⟨rfl, nn, rfl⟩)
      go_region
      go_wp2
      go_returns
      refine ⟨by rw [HV.out]; rfl, ?_, ?_⟩
      · rw [HT.out]; (repeat (first | with_reducible exact hS | with_reducible refine Scan.drew ?_ | with_reducible refine Scan.drewN ?_ _ | with_reducible refine Scan.alloc ?_ _ | refine Scan.other ?_ _ (Nat.ne_of_lt hlt) _ | refine Scan.at (k := k) ?_ _ | refine Scan.at' ?_))
      · (repeat (first | with_reducible exact only_refl _ _ | with_reducible refine only_drew ?_ | with_reducible refine only_drewN ?_ _ | with_reducible refine only_alloc ?_ _ | with_reducible refine only_setCell ?_ (by first | exact .inl rfl | exact .inr (Nat.le_refl _) | exact .inr (by simp)) _))
end Go.Proofs.YtmfdpnjgljlkbaaDoor

namespace Go.Proofs.YtmfdpnjgljlkbaaDoor
open Go.RowKit

theorem ret_tok {t u : Tok} {c d : Bool} (h : t = u) (g : c = d) : Ending.returned (.tuple #[t.val, .bool c]) = .returned (.tuple #[u.val, .bool d]) := by rw [h, g]

set_option maxHeartbeats 4000000 in
theorem next_any (b : Nat) (s : ByteArray) (k : Nat) (o : Bool) (w : World) (hS : Scan w b s k o) (hs : s.size ≤ 16384) (hk : k ≤ s.size) (f : Nat) (hf : s.size < f + k)
    (t : Option Tok) (k' : Nat) (o' : Bool) (hn : nextT s f k o = (t, k', o')) :
    Calls Tryd.prog 95 #[.pointer (some ⟨b, 0, none⟩)] w fun e w' => e = .returned (.tuple #[(t.getD ⟨0, ByteArray.empty, 0⟩).val, .bool t.isSome]) ∧ Scan w' b s k' o' ∧ w.grownBy w' (some b) := by
  have hlt := hS.lt
  go_enter Tryd.func95, Tryd.ntmps95
  go_wp2
  go_loopg [] f (fun m wr => ∃ (j : Nat) (oj : Bool), s.size < m + j ∧ j ≤ s.size ∧ Scan wr b s j oj ∧ w.grownBy wr (some b) ∧ Blk wr w.heap.size [.int .u8 0, .string ⟨#[]⟩, .int .i64 0] 122 ∧ Hid (nextT s m j oj = (t, k', o')))
  case atStart => exact ⟨k, o, hf, hk, hS.alloc _, (by (repeat (first | with_reducible exact only_refl _ _ | with_reducible refine only_drew ?_ | with_reducible refine only_drewN ?_ _ | with_reducible refine only_alloc ?_ _ | with_reducible refine only_setCell ?_ (by first | exact .inl rfl | exact .inr (Nat.le_refl _) | exact .inr (by simp)) _))), Blk.new _ _ _, Lib.hid hn⟩
  case round =>
    obtain ⟨j, oj, hfj, hj, hSj, hg, hR, hnj⟩ := hrel
    clear hS
    obtain ⟨m, rfl⟩ : ∃ m, gk = m + 1 := ⟨gk - 1, by omega⟩
    have hp1 := passTo_ge s j
    have hp2 := passTo_le s j hj
    have hne : w.heap.size ≠ b := by omega
    generalize hpj : passTo s j = p at hp1 hp2
    by_cases hc : clsAt s p = 2
    · have ha : (if h : p < s.size then cls s[p].toNat == 2 else true) = true := by
        unfold clsAt at hc; split
        · rename_i h; rw [dif_pos h] at hc; simpa using hc
        · rfl
      have Ha := Lib.hid ha
      have Hp := Lib.hid hpj
      have Hn : Hid ((if oj then (some ⟨4, ByteArray.empty, p⟩, min (p + 1) s.size, false) else if s.size ≤ p then (none, min (p + 1) s.size, false) else nextT s m (p + 1) false) = (t, k', o')) :=
        Lib.hid (by have := hnj.out; rw [nextT, hpj, if_neg (by simp [hc])] at this; exact this)
      clear ha hpj hc hnj hn
      go_wp2_with fail
      refine (pass_any b s j oj _ hSj hs hj).mono ?_
      rintro e w1 ⟨rfl, hS1, hg1⟩
      rw [Hp.out] at hS1
      have hR1 := hR.grown hg1 (by simp; omega)
      have g1 := only_trans hg hg1
      clear hSj hg hR hg1
      go_wp2_with fail
      refine (atEnd_any b s p oj _ hS1 true Ha.out).mono ?_
      rintro e w2 ⟨rfl, n2, rfl⟩
      have hS2 := hS1.drewN n2
      have hR2 := hR1.drewN n2
      have g2 := only_drewN g1 n2
      generalize w1.drewN n2 = w2 at hS2 hR2 g2
      clear hS1 hR1 g1
      have c0 := hS2.cell 0 rfl
      have c1 := hS2.cell 1 rfl
      have c2 := hS2.cell 2 rfl
      have hne2 : w.heap.size ≠ w2.heap.size := by have := hR2.lt; omega
      by_cases hl : s.size ≤ p
      · skip
        go_wp2_with fail
        refine (over_any b s p oj _ (hS2.alloc _) true (by simpa using hl)).mono ?_
        rintro e w3 ⟨rfl, n3, rfl⟩
        go_wp2_with fail
        generalize hW : World.drewN _ _ = w4
        have hS4 : Scan w4 b s p oj := by rw [← hW]; exact hS2.alloc _
        have hR4 : Blk w4 w.heap.size [.int .u8 0, .string ⟨#[]⟩, .int .i64 0] 122 := by rw [← hW]; exact hR2.alloc _
        have hT4 : Blk w4 w2.heap.size [.int .u8 4, .string ⟨#[]⟩, .int .i64 p] 122 := by rw [← hW]; exact Blk.new _ _ _
        have g4 : w.grownBy w4 (some b) := by rw [← hW]; exact only_drewN (only_alloc g2 _) _
        have hne3 : w2.heap.size ≠ b := by have := hR2.lt; omega
        have HW := Lib.hid hW
        clear hW hS2 hR2 g2 c0 c1 c2
        have c0 := hS4.cell 0 rfl
        have c1 := hS4.cell 1 rfl
        have c2 := hS4.cell 2 rfl
        have f1 := hS4.frozen 1
        have f2 := hS4.frozen 2
        have r0 := hR4.cell 0 rfl
        have r1 := hR4.cell 1 rfl
        have r2 := hR4.cell 2 rfl
        have q0 := hR4.frozen 0
        have q1 := hR4.frozen 1
        have q2 := hR4.frozen 2
        have t0 := hT4.cell 0 rfl
        have t1 := hT4.cell 1 rfl
        have t2 := hT4.cell 2 rfl
        have H4 := Lib.hid (⟨hS4, g4⟩ : Scan w4 b s p oj ∧ w.grownBy w4 (some b))
        have Hl := Lib.hid hl
        clear hS4 g4
        cases oj
        · go_region
          go_wp2
          refine bodyPost_ret (v := .tuple #[.agg #[.int .u8 0, .string ⟨#[]⟩, .int .i64 0], .bool false]) (by simp [results, Tryd.results95, go_sem, r0, r1, r2]) rfl ?_
          have hn := Hn.out
          have := Hl.out
          simp only [Bool.false_eq_true, if_false, if_pos this, Prod.mk.injEq] at hn
          obtain ⟨rfl, rfl, rfl⟩ := hn
          obtain ⟨hS4, g4⟩ := H4.out
          refine ⟨rfl, ?_, ?_⟩
          · rw [show min (p + 1) s.size = s.size from by omega]
            (repeat (first | with_reducible exact hS4 | with_reducible refine Scan.drew ?_ | with_reducible refine Scan.drewN ?_ _ | with_reducible refine Scan.alloc ?_ _ | refine Scan.other ?_ _ (Nat.ne_of_lt hlt) _ | refine Scan.open' (o := false) ?_ _ | refine Scan.at (k := p) ?_ _ | refine Scan.at' ?_))
          · (repeat (first | with_reducible exact only_refl _ _ | with_reducible refine only_drew ?_ | with_reducible refine only_drewN ?_ _ | with_reducible refine only_alloc ?_ _ | with_reducible refine only_setCell ?_ (by first | exact .inl rfl | exact .inr (Nat.le_refl _) | exact .inr (by simp)) _ | with_reducible exact g4))
        · go_region
          go_wp2
          refine bodyPost_ret (v := .tuple #[.agg #[.int .u8 4, .string ⟨#[]⟩, .int .i64 p], .bool true]) (by simp [results, Tryd.results95, go_sem, r0, r1, r2]) rfl ?_
          have hn := Hn.out
          simp only [if_true, Prod.mk.injEq] at hn
          obtain ⟨rfl, rfl, rfl⟩ := hn
          obtain ⟨hS4, g4⟩ := H4.out
          have := Hl.out
          refine ⟨rfl, ?_, ?_⟩
          · rw [show min (p + 1) s.size = s.size from by omega]
            (repeat (first | with_reducible exact hS4 | with_reducible refine Scan.drew ?_ | with_reducible refine Scan.drewN ?_ _ | with_reducible refine Scan.alloc ?_ _ | refine Scan.other ?_ _ (Nat.ne_of_lt hlt) _ | refine Scan.open' (o := true) ?_ _ | refine Scan.at (k := p) ?_ _ | refine Scan.at' ?_))
          · (repeat (first | with_reducible exact only_refl _ _ | with_reducible refine only_drew ?_ | with_reducible refine only_drewN ?_ _ | with_reducible refine only_alloc ?_ _ | with_reducible refine only_setCell ?_ (by first | exact .inl rfl | exact .inr (Nat.le_refl _) | exact .inr (by simp)) _ | with_reducible exact g4))
      · skip
        go_wp2_with fail
        refine (over_any b s p oj _ (hS2.alloc _) false (by simpa using hl)).mono ?_
        rintro e w3 ⟨rfl, n3, rfl⟩
        go_wp2_with fail
        generalize hW : World.drewN _ _ = w4
        have hS4 : Scan w4 b s p oj := by rw [← hW]; exact hS2.alloc _
        have hR4 : Blk w4 w.heap.size [.int .u8 0, .string ⟨#[]⟩, .int .i64 0] 122 := by rw [← hW]; exact hR2.alloc _
        have hT4 : Blk w4 w2.heap.size [.int .u8 4, .string ⟨#[]⟩, .int .i64 p] 122 := by rw [← hW]; exact Blk.new _ _ _
        have g4 : w.grownBy w4 (some b) := by rw [← hW]; exact only_drewN (only_alloc g2 _) _
        have hne3 : w2.heap.size ≠ b := by have := hR2.lt; omega
        have HW := Lib.hid hW
        clear hW hS2 hR2 g2 c0 c1 c2
        have c0 := hS4.cell 0 rfl
        have c1 := hS4.cell 1 rfl
        have c2 := hS4.cell 2 rfl
        have f1 := hS4.frozen 1
        have f2 := hS4.frozen 2
        have r0 := hR4.cell 0 rfl
        have r1 := hR4.cell 1 rfl
        have r2 := hR4.cell 2 rfl
        have q0 := hR4.frozen 0
        have q1 := hR4.frozen 1
        have q2 := hR4.frozen 2
        have t0 := hT4.cell 0 rfl
        have t1 := hT4.cell 1 rfl
        have t2 := hT4.cell 2 rfl
        have H4 := Lib.hid (⟨hS4, g4⟩ : Scan w4 b s p oj ∧ w.grownBy w4 (some b))
        have Hl := Lib.hid hl
        clear hS4 g4
        cases oj
        · go_region
          go_wp2
          go_roundg m
          case measure => omega
          case rel =>
            have hn := Hn.out
            have := Hl.out
            simp only [Bool.false_eq_true, if_false, if_neg this] at hn
            obtain ⟨hS4, g4⟩ := H4.out
            refine ⟨p + 1, false, by omega, by omega, ?_, ?_, ?_, Lib.hid hn⟩
            · (repeat (first | with_reducible exact hS4 | with_reducible refine Scan.drew ?_ | with_reducible refine Scan.drewN ?_ _ | with_reducible refine Scan.alloc ?_ _ | refine Scan.other ?_ _ (Nat.ne_of_lt hlt) _ | refine Scan.open' (o := false) ?_ _ | refine Scan.at (k := p) ?_ _ | refine Scan.at' ?_))
            · (repeat (first | with_reducible exact only_refl _ _ | with_reducible refine only_drew ?_ | with_reducible refine only_drewN ?_ _ | with_reducible refine only_alloc ?_ _ | with_reducible refine only_setCell ?_ (by first | exact .inl rfl | exact .inr (Nat.le_refl _) | exact .inr (by simp)) _ | with_reducible exact g4))
            · exact Blk.drew (Blk.setOther hR4 _ hne _)
        · go_region
          go_wp2
          refine bodyPost_ret (v := .tuple #[.agg #[.int .u8 4, .string ⟨#[]⟩, .int .i64 p], .bool true]) (by simp [results, Tryd.results95, go_sem, r0, r1, r2]) rfl ?_
          have hn := Hn.out
          simp only [if_true, Prod.mk.injEq] at hn
          obtain ⟨rfl, rfl, rfl⟩ := hn
          obtain ⟨hS4, g4⟩ := H4.out
          have := Hl.out
          refine ⟨rfl, ?_, ?_⟩
          · rw [show min (p + 1) s.size = p + 1 from by omega]
            (repeat (first | with_reducible exact hS4 | with_reducible refine Scan.drew ?_ | with_reducible refine Scan.drewN ?_ _ | with_reducible refine Scan.alloc ?_ _ | refine Scan.other ?_ _ (Nat.ne_of_lt hlt) _ | refine Scan.open' (o := true) ?_ _ | refine Scan.at (k := p) ?_ _ | refine Scan.at' ?_))
          · (repeat (first | with_reducible exact only_refl _ _ | with_reducible refine only_drew ?_ | with_reducible refine only_drewN ?_ _ | with_reducible refine only_alloc ?_ _ | with_reducible refine only_setCell ?_ (by first | exact .inl rfl | exact .inr (Nat.le_refl _) | exact .inr (by simp)) _ | with_reducible exact g4))
    · have hpl := clsAt_lt hc
      have ha : (if h : p < s.size then cls s[p].toNat == 2 else true) = false := by
        rw [dif_pos hpl]; unfold clsAt at hc; rw [dif_pos hpl] at hc; simpa using hc
      have hres : (some (tokAt s p), tokTo s p, true) = (t, k', o') := by
        have := hnj.out; rw [nextT, hpj, if_pos hc] at this; exact this
      simp only [Prod.mk.injEq] at hres
      obtain ⟨rfl, rfl, rfl⟩ := hres
      have Ha := Lib.hid ha
      have Hp := Lib.hid hpj
      clear ha hpj hc hf hnj hn
      go_wp2_with fail
      refine (pass_any b s j oj _ hSj hs hj).mono ?_
      rintro e w1 ⟨rfl, hS1, hg1⟩
      rw [Hp.out] at hS1
      have hR1 := hR.grown hg1 (by simp; omega)
      have g1 := only_trans hg hg1
      clear hSj hg hR hg1
      go_wp2_with fail
      refine (atEnd_any b s p oj _ hS1 false Ha.out).mono ?_
      rintro e w2 ⟨rfl, n2, rfl⟩
      have f2 := hS1.frozen 2
      have c2 := hS1.cell 2 rfl
      go_wp2_with fail
      refine (token_any b s p true _ ((hS1.drewN n2).open' true) hs hpl).mono ?_
      rintro e w3 ⟨rfl, hS3, hg3⟩
      have hR3 := (Blk.setOther (hR1.drewN n2) ⟨b, 2, none⟩ hne (.bool true)).grown hg3 (by simp; omega)
      have r0 := hR3.cell 0 rfl
      have r1 := hR3.cell 1 rfl
      have r2 := hR3.cell 2 rfl
      have q0 := hR3.frozen 0
      have q1 := hR3.frozen 1
      have q2 := hR3.frozen 2
      have g3 := only_trans (only_setCell (only_drewN g1 n2) (p := ⟨b, 2, none⟩) (.inl rfl) (.bool true)) hg3
      clear c2 f2 hS1 hR1 hg3
      have H3 := Lib.hid (⟨hS3, g3, hR3⟩ : Scan w3 b s (tokTo s p) true ∧ w.grownBy w3 (some b) ∧ Blk w3 w.heap.size _ _)
      generalize htk : tokAt s p = tk
      have Htk := Lib.hid htk
      clear htk
      obtain ⟨kd, tx, ps⟩ := tk
      simp only [Tok.val]
      go_wp2
      refine bodyPost_ret (v := .tuple #[.agg #[.int .u8 kd, .string tx, .int .i64 ps], .bool true]) (by simp [results, Tryd.results95, go_sem, r0, r1, r2]) rfl ?_
      obtain ⟨hS3, g3, _⟩ := H3.out
      refine ⟨by rw [Htk.out]; rfl, ?_, ?_⟩
      · (repeat (first | with_reducible exact hS3 | with_reducible refine Scan.drew ?_ | with_reducible refine Scan.drewN ?_ _ | with_reducible refine Scan.alloc ?_ _ | refine Scan.other ?_ _ (Nat.ne_of_lt hlt) _ | refine Scan.at (k := p) ?_ _ | refine Scan.at' ?_))
      · (repeat (first | with_reducible exact only_refl _ _ | with_reducible refine only_drew ?_ | with_reducible refine only_drewN ?_ _ | with_reducible refine only_alloc ?_ _ | with_reducible refine only_setCell ?_ (by first | exact .inl rfl | exact .inr (Nat.le_refl _) | exact .inr (by simp)) _ | with_reducible exact g3))
end Go.Proofs.YtmfdpnjgljlkbaaDoor

namespace Go.Proofs.YtmfdpnjgljlkbaaDoor
open Go.RowKit

section
variable {P : Program}
theorem run_append_at (w : World) (base : Nat) (t ty e : TypeId) (i : TypeInfo) (z : Value) (size bytes : Nat) (ht : P.underlying t = some (.slice e)) (hi : P.info? e = some i) (hz : i.zero = some z)
    (hsize : i.size = size) (hby : i.bytes = bytes) (hzs : z.cells.size = size) (hsz : 0 < size)
    (v : Value) (n : Nat) (xs : List Value) (hown : w.ownsRow base e size v n xs)
    (a : Addr) (m c : Nat) (news : List Value) (hl : news.length = m * size) (hnews : ∀ j u, news[j]? = some u → w.cell? (a.add j) = some u) (h1 : ∀ u ∈ news, u.oneCell' = true)
    (h63 : n + m ≤ maxLen) (hbytes : (n + m) * bytes ≤ 140737488355328) (hbase : base ≤ w.heap.size) (hm : 0 < m) :
    ∃ g' cap' w', (Builtin.append_ #[t, t] ty #[v, .slice (some a) m c]).run P w = .ok (.slice (some ⟨g', 0, none⟩) (n + m) cap') w' ∧ w'.ownsRow base e size (.slice (some ⟨g', 0, none⟩) (n + m) cap') (n + m) (xs ++ news) ∧ w.grownBy w' v.ownBlock ∧
      (v.ownBlock = some g' ∨ g' = w.heap.size) := by
  obtain ⟨v', w', hrun, r1, r2, r3⟩ := run_append_own (P := P) w base t ty e i z size bytes ht hi hz hsize hby hzs hsz v n xs hown a m c news hl hnews h1 h63 hbytes hbase
  have hne : v' ≠ .slice none 0 0 := fun h => by have := (r3.1 h).2; omega
  rcases r1.2 with ⟨h, _⟩ | ⟨g', cap', cur', rfl, rest⟩
  · exact absurd h hne
  · refine ⟨g', cap', w', hrun, r1, r2, ?_⟩
    subst hsize
    rcases hown.2 with ⟨rfl, rfl⟩ | ⟨g, cap, cur, rfl, hbg, hg, hnc, hcm, hcs, htake⟩
    · have hr := run_append_nil (P := P) w t ty e i z ht hi hz a m c news hl hnews (by omega) (by simp only [maxLen] at h63; omega) (by subst hby; have hb := hbytes; simp only [Nat.zero_add] at hb; omega)
      rw [hrun] at hr
      simp only [Result.ok.injEq, Value.slice.injEq, Option.some.injEq, Addr.mk.injEq] at hr
      exact .inr hr.1.1.1
    · by_cases hroom : n + m ≤ cap
      · have hfit : n * i.size + news.length ≤ cur.size := by rw [hl, hcs, ← Nat.add_mul]; exact Nat.mul_le_mul_right _ hroom
        have hr := run_append_room (P := P) w t ty e i ht hi g n cap cur hg a m c news hl hnews h1 hroom hfit
        rw [hrun] at hr
        simp only [Result.ok.injEq, Value.slice.injEq, Option.some.injEq, Addr.mk.injEq] at hr
        exact .inl (by simp [Value.ownBlock, hr.1.1.1])
      · have holds : ∀ j u, xs[j]? = some u → w.cell? ((⟨g, 0, none⟩ : Addr).add j) = some u := hown.cells (g := g) rfl
        have hr := run_append_grow (P := P) w t ty e i z ht hi hz ⟨g, 0, none⟩ n cap xs hown.1 holds a m c news hl hnews (by omega) (by simp only [maxLen] at h63; omega) (growslice_fits (by omega) (by subst hby; exact hbytes))
        rw [hrun] at hr
        simp only [Result.ok.injEq, Value.slice.injEq, Option.some.injEq, Addr.mk.injEq] at hr
        exact .inr hr.1.1.1

theorem wpListIn_append_at {F : Fence} {n : Nat} (w : World) {ops : Array Oper} {rest : List Oper} {o : Oper} {a : Act} {Q : Exit → Act → World → Prop}
    (hg : o.guard = none) (s x : Operand) (t : TypeId) (hop : o.op = Op.call { callee := Callee.builtin Builtin.append, args := #[s, x], argTypes := #[t, t] })
    (base : Nat) (e : TypeId) (i : TypeInfo) (z : Value) (size bytes : Nat) (h1 : P.underlying t = some (.slice e)) (h2 : P.info? e = some i) (h3 : i.zero = some z) (h4 : i.size = size) (h5 : i.bytes = bytes) (h6 : z.cells.size = size) (h7 : 0 < size)
    (v : Value) (k : Nat) (xs : List Value) (hs : a.eval s = v) (hown : w.ownsRow base e size v k xs) (ad : Addr) (m c : Nat) (news : List Value) (hx : a.eval x = .slice (some ad) m c) (hn : news.length = m * size)
    (hc : ∀ j u, news[j]? = some u → w.cell? (ad.add j) = some u) (h1c : ∀ u ∈ news, u.oneCell' = true) (b1 : k + m ≤ maxLen) (b2 : (k + m) * bytes ≤ 140737488355328) (b3 : base ≤ w.heap.size) (b4 : 0 < m)
    (hK : ∀ g' cap' w', w'.ownsRow base e size (.slice (some ⟨g', 0, none⟩) (k + m) cap') (k + m) (xs ++ news) → w.grownBy w' v.ownBlock → (v.ownBlock = some g' ∨ g' = w.heap.size) → wpListIn F n P ops Q rest (a.put o.dst (.slice (some ⟨g', 0, none⟩) (k + m) cap')) w') :
    wpListIn F n P ops Q (o :: rest) a w := by
  refine wpListIn_plain hg fun K hK' => ?_
  obtain ⟨g', cap', w', hrun, r1, r2, r3⟩ := run_append_at (P := P) w base t o.type e i z size bytes h1 h2 h3 h4 h5 h6 h7 v k xs hown ad m c news hn hc h1c b1 b2 b3 b4
  unfold Oper.wpIn
  refine ⟨?_, ?_⟩
  · simp [Oper.about, hop, resolve, Target.leads, Sem.run_pure]
  · rw [Oper.semAt_plain F _ _ (by rw [hop]; intro c hc'; cases hc')]
    simp [execOp, hop, resolve, invoke, builtin, hs, hx, hrun, Result.andThen]
    exact hK' _ _ (hK g' cap' w' r1 r2 r3)

theorem wpList_append_at (w : World) {ops : Array Oper} {rest : List Oper} {o : Oper} {a : Act} {Q : Exit → Act → World → Prop}
    (hg : o.guard = none) (s x : Operand) (t : TypeId) (hop : o.op = Op.call { callee := Callee.builtin Builtin.append, args := #[s, x], argTypes := #[t, t] })
    (base : Nat) (e : TypeId) (i : TypeInfo) (z : Value) (size bytes : Nat) (h1 : P.underlying t = some (.slice e)) (h2 : P.info? e = some i) (h3 : i.zero = some z) (h4 : i.size = size) (h5 : i.bytes = bytes) (h6 : z.cells.size = size) (h7 : 0 < size)
    (v : Value) (k : Nat) (xs : List Value) (hs : a.eval s = v) (hown : w.ownsRow base e size v k xs) (ad : Addr) (m c : Nat) (news : List Value) (hx : a.eval x = .slice (some ad) m c) (hn : news.length = m * size)
    (hc : ∀ j u, news[j]? = some u → w.cell? (ad.add j) = some u) (h1c : ∀ u ∈ news, u.oneCell' = true) (b1 : k + m ≤ maxLen) (b2 : (k + m) * bytes ≤ 140737488355328) (b3 : base ≤ w.heap.size) (b4 : 0 < m)
    (hK : ∀ g' cap' w', w'.ownsRow base e size (.slice (some ⟨g', 0, none⟩) (k + m) cap') (k + m) (xs ++ news) → w.grownBy w' v.ownBlock → (v.ownBlock = some g' ∨ g' = w.heap.size) → wpList P ops Q rest (a.put o.dst (.slice (some ⟨g', 0, none⟩) (k + m) cap')) w') :
    wpList P ops Q (o :: rest) a w := by
  refine wpList_plain hg fun K hK' => ?_
  obtain ⟨g', cap', w', hrun, r1, r2, r3⟩ := run_append_at (P := P) w base t o.type e i z size bytes h1 h2 h3 h4 h5 h6 h7 v k xs hown ad m c news hn hc h1c b1 b2 b3 b4
  unfold Oper.wp
  simp [execOp, hop, resolve, invoke, builtin, hs, hx, hrun, Result.andThen, Oper.upon]
  exact hK' _ _ (hK g' cap' w' r1 r2 r3)

/-- Where the array lies behind an append: in its old block, or in the next new one. -/
def LiesAt (w : World) (v v' : Value) : Prop := v'.ownBlock = v.ownBlock ∨ v'.ownBlock = some w.heap.size

theorem run_append_at_string (w : World) (base : Nat) (t u ty e : TypeId) (i : TypeInfo) (ht : P.underlying t = some (.slice e)) (hu : P.underlying u = some .string) (hi : P.info? e = some i) (hz : i.zero = some (.int .u8 0))
    (hsize : i.size = 1) (hby : i.bytes = 1)
    (v : Value) (n : Nat) (xs : List Value) (hown : w.ownsRow base e 1 v n xs) (s : ByteArray)
    (h63 : n + s.size ≤ maxLen) (hbytes : n + s.size ≤ 140737488355328) (hbase : base ≤ w.heap.size) :
    ∃ v' w', (Builtin.append_ #[t, u] ty #[v, .string s]).run P w = .ok v' w' ∧ w'.ownsRow base e 1 v' (n + s.size) (xs ++ Lib.strCells s) ∧ w.grownBy w' v.ownBlock ∧ LiesAt w v v' := by
  obtain ⟨v', w', hrun, r1, r2, r3⟩ := Lib.run_append_own_string (P := P) w base t u ty e i ht hu hi hz hsize hby v n xs hown s h63 hbytes hbase
  refine ⟨v', w', hrun, r1, r2, ?_⟩
  rcases hown.2 with ⟨rfl, rfl⟩ | ⟨g, cap, cur, rfl, hbg, hg, hnc, hcm, hcs, htake⟩
  · by_cases h0 : s.size = 0
    · exact .inl (by rw [r3.2 ⟨rfl, h0⟩])
    · have hr := run_append_nil_string (P := P) w t u ty e i _ ht hu hi hz s (by omega) (by simp only [maxLen] at h63; omega) (by rw [hby]; omega)
      rw [hrun] at hr
      simp only [Result.ok.injEq] at hr
      exact .inr (by rw [hr.1]; rfl)
  · by_cases hroom : n + s.size ≤ cap
    · have hr := Lib.run_append_room_string (P := P) w t u ty e i ht hu hi hsize g n cap cur hg s hroom (by rw [hcs]; omega)
      rw [hrun] at hr
      simp only [Result.ok.injEq] at hr
      exact .inl (by rw [hr.1]; rfl)
    · have holds : ∀ j u, xs[j]? = some u → w.cell? ((⟨g, 0, none⟩ : Addr).add j) = some u := hown.cells (g := g) rfl
      have hr := Lib.run_append_grow_string (P := P) w t u ty e i _ ht hu hi hz ⟨g, 0, none⟩ n cap xs (by rw [hown.1, hsize]) holds s (by omega) (by simp only [maxLen] at h63; omega) (growslice_fits (by omega) (by rw [hby]; omega))
      rw [hrun] at hr
      simp only [Result.ok.injEq] at hr
      exact .inr (by rw [hr.1]; rfl)

theorem wpList_append_at_string (w : World) {ops : Array Oper} {rest : List Oper} {o : Oper} {a : Act} {Q : Exit → Act → World → Prop}
    (hg : o.guard = none) (sl x : Operand) (t u : TypeId) (hop : o.op = .call { callee := .builtin .append, args := #[sl, x], argTypes := #[t, u] })
    (base : Nat) (e : TypeId) (i : TypeInfo) (ht : P.underlying t = some (.slice e)) (hu : P.underlying u = some .string) (hi : P.info? e = some i) (hz : i.zero = some (.int .u8 0))
    (hsize : i.size = 1) (hby : i.bytes = 1)
    (v : Value) (n : Nat) (xs : List Value) (hs : a.eval sl = v) (hown : w.ownsRow base e 1 v n xs) (s : ByteArray) (hx : a.eval x = .string s)
    (h63 : n + s.size ≤ maxLen) (hbytes : n + s.size ≤ 140737488355328) (hbase : base ≤ w.heap.size)
    (hK : ∀ v' w', w'.ownsRow base e 1 v' (n + s.size) (xs ++ Lib.strCells s) → w.grownBy w' v.ownBlock → LiesAt w v v' → wpList P ops Q rest (a.put o.dst v') w') : wpList P ops Q (o :: rest) a w := by
  refine wpList_plain hg fun K hK' => ?_
  obtain ⟨v', w', hrun, r1, r2, r3⟩ := run_append_at_string (P := P) w base t u o.type e i ht hu hi hz hsize hby v n xs hown s h63 hbytes hbase
  unfold Oper.wp
  simp [execOp, hop, resolve, invoke, builtin, hs, hx, hrun, Result.andThen, Oper.upon]
  exact hK' _ _ (hK v' w' r1 r2 r3)
end
theorem ownsRow_agree {w w' : World} {base : Nat} {e : TypeId} {size : Nat} {v : Value} {n : Nat} {xs : List Value} (h : w.ownsRow base e size v n xs) (he : ∀ b ∈ v.ownBlock.toList, w'.heap[b]? = w.heap[b]?) : w'.ownsRow base e size v n xs := by
  obtain ⟨h1, h2⟩ := h
  refine ⟨h1, ?_⟩
  rcases h2 with h2 | ⟨g, cap, cur, hv, hg, hh, r⟩
  · exact .inl h2
  · subst hv
    exact .inr ⟨g, cap, cur, rfl, hg, (he g (by simp [Value.ownBlock])).trans hh, r⟩
end Go.Proofs.YtmfdpnjgljlkbaaDoor

namespace Go.Proofs.YtmfdpnjgljlkbaaDoor
open Go.RowKit Go.Shelf

/-- Of what was there, only blocks in fp have changed. -/
structure Frm (fp : List Nat) (w w' : World) : Prop where
  os : w'.os = w.os
  tape : w'.tape = w.tape
  output : w'.output = w.output
  size : w.heap.size ≤ w'.heap.size
  block : ∀ b, b < w.heap.size → b ∉ fp → w'.heap[b]? = w.heap[b]?

theorem Frm.refl (fp : List Nat) (w : World) : Frm fp w w := ⟨rfl, rfl, rfl, Nat.le_refl _, fun _ _ _ => rfl⟩
theorem Frm.mono {fp fp' : List Nat} {w w' : World} (h : Frm fp w w') (hs : ∀ b ∈ fp, b ∈ fp' ∨ w.heap.size ≤ b) : Frm fp' w w' :=
  ⟨h.os, h.tape, h.output, h.size, fun b hb hn => h.block b hb fun hm => by rcases hs b hm with h1 | h1; exact hn h1; omega⟩
theorem Frm.trans {fp : List Nat} {a b c : World} (h : Frm fp a b) (k : Frm fp b c) : Frm fp a c :=
  ⟨k.os.trans h.os, k.tape.trans h.tape, k.output.trans h.output, Nat.le_trans h.size k.size, fun i hi hn => (k.block i (Nat.lt_of_lt_of_le hi h.size) hn).trans (h.block i hi hn)⟩
theorem Frm.trans_new {fp fq : List Nat} {a b c : World} (h : Frm fp a b) (k : Frm fq b c) (hq : ∀ x ∈ fq, x ∈ fp ∨ a.heap.size ≤ x) : Frm fp a c :=
  ⟨k.os.trans h.os, k.tape.trans h.tape, k.output.trans h.output, Nat.le_trans h.size k.size, fun i hi hn => (k.block i (Nat.lt_of_lt_of_le hi h.size) (fun hm => by rcases hq i hm with h1 | h1; exact hn h1; omega)).trans (h.block i hi hn)⟩
theorem Frm.of_grown {w w' : World} {row : Option Nat} (h : w.grownBy w' row) (fp : List Nat) (hr : ∀ k, row = some k → k ∈ fp) : Frm fp w w' :=
  ⟨h.os, h.tape, h.output, h.size, fun b hb hn => h.block b hb fun e => hn (hr b e.symm)⟩
theorem Frm.of_below {w w' : World} (h : Below w.heap.size w w') (fp : List Nat) : Frm fp w w' := ⟨h.os, h.tape, h.output, h.size, fun b hb _ => h.block b hb⟩
theorem Frm.below {w w' : World} {B : Nat} {fp : List Nat} (h : Frm fp w w') (hB : B ≤ w.heap.size) (hf : ∀ b ∈ fp, B ≤ b) : Below B w w' :=
  ⟨h.os, h.tape, h.output, h.size, fun b hb => h.block b (by omega) fun hm => by have := hf b hm; omega⟩
theorem Frm.drewN {fp : List Nat} {a w : World} (h : Frm fp a w) (n : Nat) : Frm fp a (w.drewN n) := ⟨h.os, h.tape, h.output, h.size, h.block⟩
theorem Frm.drew {fp : List Nat} {a w : World} (h : Frm fp a w) : Frm fp a w.drew := ⟨h.os, h.tape, h.output, h.size, h.block⟩
theorem Frm.alloc {fp : List Nat} {a w : World} (h : Frm fp a w) (o : Obj) : Frm fp a (w.alloc o) :=
  ⟨h.os, h.tape, h.output, Nat.le_trans h.size (by simp), fun i hi hne => (Below.heap_alloc w o i (Nat.lt_of_lt_of_le hi h.size)).trans (h.block i hi hne)⟩
theorem Frm.setCell {fp : List Nat} {a w : World} (h : Frm fp a w) {p : Addr} (hp : p.block ∈ fp ∨ a.heap.size ≤ p.block) (u : Value) : Frm fp a (w.setCell p u) :=
  ⟨h.os, h.tape, h.output, by simpa [World.setCell] using h.size, fun i hi hne => (Below.heap_setCell w p u i (by
    rintro rfl
    rcases hp with hp | hp
    · exact hne hp
    · omega)).trans (h.block i hi hne)⟩
theorem Frm.putObj {fp : List Nat} {a w : World} (h : Frm fp a w) {r : Nat} (hp : r ∈ fp ∨ a.heap.size ≤ r) (o : Obj) : Frm fp a (w.putObj r o) :=
  ⟨h.os, h.tape, h.output, by simpa using h.size, fun i hi hne => (World.putObj_heap_other (by
    rintro rfl
    rcases hp with hp | hp
    · exact hne hp
    · omega)).trans (h.block i hi hne)⟩
theorem Blk.frm {w w' : World} {b : Nat} {cs : List Value} {t : TypeId} {fp : List Nat} (h : Blk w b cs t) (hf : Frm fp w w') (hn : b ∉ fp) : Blk w' b cs t :=
  (hf.block b h.lt hn).trans h

theorem wide_fn (f : FuncId) : Fence.wide.fn f = True := rfl
theorem wide_depth : Fence.wide.depth = none := rfl
theorem wide_fn_in (l : Nat) (f : FuncId) : (Fence.wide.inRound l).fn f = True := rfl
theorem wide_depth_in (l : Nat) : (Fence.wide.inRound l).depth = none := rfl

section
variable {α : Type}
/-- What a caller's facts owe: they hang on the blocks of their footprint alone, which are there. -/
structure Local (J : List α → List Nat → World → Prop) : Prop where
  stable : ∀ pre fp W W', J pre fp W → W.heap.size ≤ W'.heap.size → (∀ b ∈ fp, W'.heap[b]? = W.heap[b]?) → J pre fp W'
  lt : ∀ pre fp W, J pre fp W → ∀ b ∈ fp, b < W.heap.size

/-- The contract of an iterator: it yields 'all' in order, unless a round says no more; it leans on the blocks in own, and writes only those in wr. -/
def SeqFp (n : Nat) (P : Program) (gf : Nat) (lb : Array Value) (encs : α → Array Value) (all : List α) (own wr : List Nat) (w0 : World) : Prop :=
  ∀ (l : Nat) (J Jx : List α → List Nat → World → Prop) (W : World) (fp : List Nat), Frm [] w0 W → Local J → Local Jx →
    (∀ pre x W1 fp1, J pre fp1 W1 → pre ++ [x] <+: all → YieldAt Fence.wide (n - 1) P l (encs x) W1 fun e W' => ∃ fp', Frm fp1 W1 W' ∧ (∀ b ∈ fp', b ∈ fp1 ∨ W1.heap.size ≤ b) ∧
      ((e = .returned (.bool true) ∧ J (pre ++ [x]) fp' W') ∨ (e = .returned (.bool false) ∧ Jx (pre ++ [x]) fp' W'))) →
    J [] fp W → (∀ b ∈ own, b ∉ fp) →
    CallsIn Fence.wide n P gf (#[.func (.yield l) #[] #[]] ++ lb) W fun e W' => (∃ v, e = .returned v) ∧ Frm (wr ++ fp) W W' ∧ ∃ fp', (J all fp' W' ∨ ∃ pre, pre <+: all ∧ Jx pre fp' W')

/-- How the body of a round may be left. -/
def fpPost (I : List α → List Nat → World → Prop) (Ix : Code → List α → List Nat → World → Prop) (xs : List α) (fp : List Nat) (W W2 : World) : Exit → Act → World → Prop
  | .normal, _, W3 => Frm fp W2 W3 ∧ ∃ fp', (∀ b ∈ fp', b ∈ fp ∨ W.heap.size ≤ b) ∧ I xs fp' W3
  | .ret, _, W3 => Frm fp W2 W3 ∧ ∃ fp', (∀ b ∈ fp', b ∈ fp ∨ W.heap.size ≤ b) ∧ Ix .ret xs fp' W3
  | .exit id, _, W3 => Frm fp W2 W3 ∧ ∃ fp', (∀ b ∈ fp', b ∈ fp ∨ W.heap.size ≤ b) ∧ Ix (.exit id) xs fp' W3
  | .goto t, _, W3 => Frm fp W2 W3 ∧ ∃ fp', (∀ b ∈ fp', b ∈ fp ∨ W.heap.size ≤ b) ∧ Ix (.goto t) xs fp' W3
  | .panic _, _, _ => False
  | .outgrown, _, _ => False

theorem wpIn_rangeFunc_fp {P : Program} {n : Nat} {g : Operand} {ps : Array Tmp} {assign body : Code} {Q : Exit → Act → World → Prop} {a : Act} {w : World}
    {gf : Nat} {lb : Array Value} (hg : a.eval g = .func (.func gf) #[] lb) (eg : ∀ args w, (callFunc gf args).run P w = .ok (.enter gf args) w)
    {encs : α → Array Value} {all : List α} {own wr : List Nat} (hseq : SeqFp (n - 1) P gf lb encs all own wr w) (hps : ∀ x, (encs x).size = ps.size)
    (I : List α → List Nat → World → Prop) (Ix : Code → List α → List Nat → World → Prop) (hI : Local I) (hIx : ∀ c, Local (Ix c)) (fp0 : List Nat) (h0 : I [] fp0 w) (hown : ∀ b ∈ own, b ∉ fp0 ∧ b < w.heap.size)
    (Ax : α → World → Act → World → Prop)
    (hassign : ∀ (l : Nat) (x : α) (W : World) (K : Act → World → Prop), (∀ a₁ W₁, Ax x W a₁ W₁ → K a₁ W₁) →
      assign.wpIn (Fence.wide.inRound l) (n - 1 - 1) P (Exit.then K (fun _ _ _ => False)) { tmps := (ps.zip (encs x)).foldl (fun t (p, v) => t.setIfInBounds p v) a.tmps, defers := [] } W)
    (hAx : ∀ x W a₁ W₁, Ax x W a₁ W₁ → Frm [] W W₁)
    (hbody : ∀ (l : Nat) (pre : List α) (x : α) (W W₁ W₂ : World) (a₁ : Act) (fp : List Nat), I pre fp W → pre ++ [x] <+: all → Ax x W a₁ W₁ → Frm [l] W₁ W₂ → W₂.heap.size = W₁.heap.size → l ∉ fp → l < W.heap.size →
      body.wpIn (Fence.wide.inRound l) (n - 1 - 1) P (fpPost I Ix (pre ++ [x]) fp W W₂) a₁ W₂)
    (hdone : ∀ (D : Nat) (fp : List Nat) (W : World), I all fp W → W.heap[D]? = some (.deferred (some [])) → Frm (wr ++ fp0) w W → w.heap.size ≤ D → D ∉ fp → Q .normal { a with defers := { target := .collected D, args := #[] } :: a.defers } W)
    (hstop : ∀ (D : Nat) (c : Code) (pre : List α) (fp : List Nat) (W : World), pre <+: all → Ix c pre fp W → W.heap[D]? = some (.deferred (some [])) → Frm (wr ++ fp0) w W → w.heap.size ≤ D → D ∉ fp →
      c.wpIn Fence.wide n P Q { a with defers := { target := .collected D, args := #[] } :: a.defers } W) :
    (Code.rangeFunc g ps assign body).wpIn Fence.wide n P Q a w := by
  refine wpIn_rangeFunc ?_
  intro fn hfn
  rw [show Fence.wide.round = none from rfl]
  obtain ⟨rec, hrec⟩ : ∃ rec : LoopState → Option Code → Loop, rec = fun st pe => { state := st, pending := pe, fn, tmps := a.tmps, params := ps, assign, body, defers := w.heap.size } := ⟨_, rfl⟩
  obtain ⟨W1, hW1⟩ : ∃ W1, (w.alloc (.deferred (some []))).alloc (.loop (rec .ready none)) = W1 := ⟨_, rfl⟩
  obtain ⟨D, hD⟩ : ∃ D, D = w.heap.size := ⟨_, rfl⟩
  obtain ⟨L, hL⟩ : ∃ L, L = w.heap.size + 1 := ⟨_, rfl⟩
  have hL1 : W1.heap[L]? = some (.loop (rec .ready none)) := by
    rw [← hW1, hL]; have := World.alloc_heap_new (w.alloc (.deferred (some []))) (.loop (rec .ready none)); rwa [World.size_alloc] at this
  have hK1 : W1.heap[D]? = some (.deferred (some [])) := by
    rw [← hW1, hD]; exact (Below.heap_alloc _ _ _ (by simp)).trans (World.alloc_heap_new w _)
  have hf1 : Frm [] w W1 := by rw [← hW1]; exact ((Frm.refl _ _).alloc _).alloc _
  have hlt0 := hI.lt _ _ _ h0
  have hI1 : I [] fp0 W1 := hI.stable _ _ _ _ h0 hf1.size fun b hb => hf1.block b (hlt0 b hb) (by simp)
  refine ⟨w.heap.size + 1, [{ target := .collected w.heap.size, args := #[] }], W1, { target := .fn (.func gf) lb, args := #[.func (.yield (w.heap.size + 1)) #[] #[]] }, W1, gf,
    #[.func (.yield (w.heap.size + 1)) #[] #[]] ++ lb, W1, ?_, ?_, ?_, ?_, fun h => by simp [Fence.wide] at h, ?_⟩
  · rw [← hW1, hrec]; exact run_enterLoop_outer _ _ _ _ _
  · simp only [resolve, hg]
    simp [go_sem]
  · intro f' hf'; trivial
  · simp [invoke, go_sem, eg]
  · rw [← hL, ← hD]
    -- the caller's facts with the two of book-keeping
    have hloc : ∀ (K : List α → List Nat → World → Prop) (st : LoopState) (pe : Option Code), Local K →
        Local (fun pre fp W => ∃ fq, fp = L :: D :: fq ∧ L ∉ fq ∧ D ∉ fq ∧ K pre fq W ∧ W.heap[L]? = some (.loop (rec st pe)) ∧ W.heap[D]? = some (.deferred (some []))) := by
      intro K st pe hK
      refine ⟨?_, ?_⟩
      · rintro pre fp W W' ⟨fq, rfl, h1, h2, h3, h4, h5⟩ hz hag
        exact ⟨fq, rfl, h1, h2, hK.stable _ _ _ _ h3 hz (fun b hb => hag b (by simp [hb])), (hag L (by simp)).trans h4, (hag D (by simp)).trans h5⟩
      · rintro pre fp W ⟨fq, rfl, h1, h2, h3, h4, h5⟩ b hb
        simp only [List.mem_cons] at hb
        rcases hb with rfl | rfl | hb
        · exact (Array.getElem?_eq_some_iff.1 h4).1
        · exact (Array.getElem?_eq_some_iff.1 h5).1
        · exact hK.lt _ _ _ h3 b hb
    have hLf : L ∉ fp0 := fun h => by have := hlt0 _ h; omega
    have hDf : D ∉ fp0 := fun h => by have := hlt0 _ h; omega
    refine (hseq L
      (fun pre fp W => ∃ fq, fp = L :: D :: fq ∧ L ∉ fq ∧ D ∉ fq ∧ I pre fq W ∧ W.heap[L]? = some (.loop (rec .ready none)) ∧ W.heap[D]? = some (.deferred (some [])))
      (fun pre fp W => ∃ c fq, fp = L :: D :: fq ∧ L ∉ fq ∧ D ∉ fq ∧ Ix c pre fq W ∧ W.heap[L]? = some (.loop (rec .done (some c))) ∧ W.heap[D]? = some (.deferred (some [])))
      W1 (L :: D :: fp0) hf1 (hloc I _ _ hI) ?_ ?_ ⟨fp0, rfl, hLf, hDf, hI1, hL1, hK1⟩ ?_).mono ?_
    · refine ⟨?_, ?_⟩
      · rintro pre fp W W' ⟨c, h⟩ hz hag
        exact ⟨c, (hloc (Ix c) .done (some c) (hIx c)).stable pre fp W W' h hz hag⟩
      · rintro pre fp W ⟨c, h⟩ b hb
        exact (hloc (Ix c) .done (some c) (hIx c)).lt pre fp W h b hb
    · -- one round
      rintro pre x W fp1 ⟨fq, rfl, hLq, hDq, hi, hl, hk⟩ hpx
      have hlt : L < W.heap.size := (Array.getElem?_eq_some_iff.1 hl).1
      have hltD : D < W.heap.size := (Array.getElem?_eq_some_iff.1 hk).1
      have hDL : D ≠ L := by omega
      have hy := run_yield (P := P) (args := encs x) hl (by rw [hrec]; exact hps x)
      rw [hrec] at hy
      refine ⟨fn, _, assign, body, hy, roundIn_of_wpIn hfn (hassign _ x W _ fun a₁ W₁ hax => ?_)⟩
      have hf := hAx _ _ _ _ hax
      have hl1 : W₁.heap[L]? = some (.loop (rec .ready none)) := (hf.block L hlt (by simp)).trans hl
      have hk1 : W₁.heap[D]? = some (.deferred (some [])) := (hf.block D hltD (by simp)).trans hk
      have hlt1 : L < W₁.heap.size := (Array.getElem?_eq_some_iff.1 hl1).1
      refine ⟨_, run_beginRound hl1 (by rw [hrec]), ?_⟩
      have hl2 : (W₁.putObj L (.loop { rec .ready none with state := .busy })).heap[L]? = some (.loop { rec .ready none with state := .busy }) := World.putObj_heap_same hlt1
      have hk2 : (W₁.putObj L (.loop { rec .ready none with state := .busy })).heap[D]? = some (.deferred (some [])) := (World.putObj_heap_other hDL).trans hk1
      have hf2 : Frm [L] W₁ (W₁.putObj L (.loop { rec .ready none with state := .busy })) := (Frm.refl _ _).putObj (.inl (by simp)) _
      refine wpIn_mono (hbody _ pre x W W₁ _ a₁ fq hi hpx hax hf2 (by simp) hLq hlt) ?_
      have hlt2 : L < (W₁.putObj L (.loop { rec .ready none with state := .busy })).heap.size := by simpa using hlt1
      have hltD2 : D < (W₁.putObj L (.loop { rec .ready none with state := .busy })).heap.size := by have := hf.size; simp; omega
      have fin : ∀ (jump : Option Code) (W3 : World), Frm fq (W₁.putObj L (.loop { rec .ready none with state := .busy })) W3 →
          (Instr.endRound L jump).run P W3 = .ok (.bool jump.isNone) (W3.putObj L (.loop (rec (if jump.isNone then .ready else .done) jump))) ∧
          (W3.putObj L (.loop (rec (if jump.isNone then .ready else .done) jump))).heap[L]? = some (.loop (rec (if jump.isNone then .ready else .done) jump)) ∧
          (W3.putObj L (.loop (rec (if jump.isNone then .ready else .done) jump))).heap[D]? = some (.deferred (some [])) ∧ L < W3.heap.size ∧
          Frm (L :: D :: fq) W (W3.putObj L (.loop (rec (if jump.isNone then .ready else .done) jump))) := fun jump W3 hk3 => by
        have hl3 := (hk3.block L hlt2 hLq).trans hl2
        have := run_endRound (P := P) jump hl3
        have hlt3 := (Array.getElem?_eq_some_iff.1 hl3).1
        rw [hrec] at this ⊢
        refine ⟨this, World.putObj_heap_same hlt3, (World.putObj_heap_other hDL).trans ((hk3.block D hltD2 hDq).trans hk2), hlt3, ?_⟩
        refine Frm.putObj ?_ (.inl (by simp)) _
        refine ((hf.mono (by simp)).trans (Frm.putObj (Frm.refl _ _) (.inl (by simp)) _)).trans (hk3.mono (fun b hb => .inl (by simp [hb])))
      have put : ∀ (K : List α → List Nat → World → Prop), Local K → ∀ (xs : List α) (fp' : List Nat) (W3 : World) (o : Obj), K xs fp' W3 → L ∉ fp' → K xs fp' (W3.putObj L o) := fun K hK xs fp' W3 o h hn =>
        hK.stable _ _ _ _ h (by simp) (fun b hb => World.putObj_heap_other (fun e => hn (e ▸ hb)))
      have hnot : ∀ fp' : List Nat, (∀ b ∈ fp', b ∈ fq ∨ W.heap.size ≤ b) → L ∉ fp' ∧ D ∉ fp' := fun fp' h =>
        ⟨fun hm => by rcases h _ hm with h1 | h1; exact hLq h1; omega, fun hm => by rcases h _ hm with h1 | h1; exact hDq h1; omega⟩
      have hin : ∀ fp' : List Nat, (∀ b ∈ fp', b ∈ fq ∨ W.heap.size ≤ b) → ∀ b ∈ L :: D :: fp', b ∈ L :: D :: fq ∨ W.heap.size ≤ b := fun fp' h b hb => by
        simp only [List.mem_cons] at hb ⊢
        rcases hb with rfl | rfl | hb
        · simp
        · simp
        · rcases h b hb with h1 | h1
          · simp [h1]
          · exact .inr h1
      rintro e a3 W3 hp
      cases e with
      | normal =>
        obtain ⟨hk3, fp', hfp, hi3⟩ := hp
        obtain ⟨hr, hl4, hk4, _, hfr⟩ := fin none W3 hk3
        obtain ⟨n1, n2⟩ := hnot _ hfp
        exact ⟨_, _, hr, L :: D :: fp', hfr, hin _ hfp, .inl ⟨rfl, fp', rfl, n1, n2, put I hI _ _ _ _ hi3 n1, hl4, hk4⟩⟩
      | ret =>
        obtain ⟨hk3, fp', hfp, hi3⟩ := hp
        obtain ⟨hr, hl4, hk4, _, hfr⟩ := fin (some .ret) W3 hk3
        obtain ⟨n1, n2⟩ := hnot _ hfp
        exact ⟨_, _, hr, L :: D :: fp', hfr, hin _ hfp, .inr ⟨rfl, .ret, fp', rfl, n1, n2, put _ (hIx _) _ _ _ _ hi3 n1, hl4, hk4⟩⟩
      | exit id =>
        obtain ⟨hk3, fp', hfp, hi3⟩ := hp
        obtain ⟨hr, hl4, hk4, _, hfr⟩ := fin (some (.exit id)) W3 hk3
        obtain ⟨n1, n2⟩ := hnot _ hfp
        exact ⟨_, _, hr, L :: D :: fp', hfr, hin _ hfp, .inr ⟨rfl, .exit id, fp', rfl, n1, n2, put _ (hIx _) _ _ _ _ hi3 n1, hl4, hk4⟩⟩
      | goto t =>
        obtain ⟨hk3, fp', hfp, hi3⟩ := hp
        obtain ⟨hr, hl4, hk4, _, hfr⟩ := fin (some (.goto t)) W3 hk3
        obtain ⟨n1, n2⟩ := hnot _ hfp
        exact ⟨_, _, hr, L :: D :: fp', hfr, hin _ hfp, .inr ⟨rfl, .goto t, fp', rfl, n1, n2, put _ (hIx _) _ _ _ _ hi3 n1, hl4, hk4⟩⟩
      | panic ch => exact hp.elim
      | outgrown => exact hp.elim
    · intro b hb
      obtain ⟨h1, h2⟩ := hown b hb
      simp only [List.mem_cons, not_or]
      exact ⟨by omega, by omega, h1⟩
    · -- behind the iterator
      have hall : ∀ W2 : World, Frm (wr ++ (L :: D :: fp0)) W1 W2 → Frm (wr ++ fp0) w W2 := fun W2 hfr =>
        ⟨hfr.os.trans hf1.os, hfr.tape.trans hf1.tape, hfr.output.trans hf1.output, Nat.le_trans hf1.size hfr.size, fun b hb hn => by
          simp only [List.mem_append, not_or] at hn
          refine (hfr.block b (by have := hf1.size; omega) ?_).trans (hf1.block b hb (by simp))
          simp only [List.mem_append, List.mem_cons, not_or]
          exact ⟨hn.1, by omega, by omega, hn.2⟩⟩
      rintro e W2 ⟨⟨v, rfl⟩, hfr, fp', (⟨fq, rfl, hLq, hDq, hi, hl, hk⟩ | ⟨pre, hpre, c, fq, rfl, hLq, hDq, hi, hl, hk⟩)⟩
      · refine ⟨none, _, by have := run_endLoop (P := P) hl (by rw [hrec]; simp); rw [hrec] at this; exact this, ?_⟩
        rw [hD] at hk hDq ⊢
        refine hdone _ fq _ (hI.stable _ _ _ _ hi (by simp) (fun b hb => World.putObj_heap_other (fun e => hLq (e ▸ hb)))) ((World.putObj_heap_other (by omega)).trans hk) ?_ (Nat.le_refl _) hDq
        exact (hall _ hfr).putObj (.inr (by omega)) _
      · refine ⟨some c, _, by have := run_endLoop (P := P) hl (by rw [hrec]; simp); rw [hrec] at this; exact this, ?_⟩
        rw [hD] at hk hDq ⊢
        exact hstop _ c pre fq _ hpre ((hIx c).stable _ _ _ _ hi (by simp) (fun b hb => World.putObj_heap_other (fun e => hLq (e ▸ hb)))) ((World.putObj_heap_other (by omega)).trans hk) ((hall _ hfr).putObj (.inr (by omega)) _) (Nat.le_refl _) hDq
end
end Go.Proofs.YtmfdpnjgljlkbaaDoor

namespace Go.Proofs.YtmfdpnjgljlkbaaDoor
open Go.RowKit

theorem nextT_le {s : ByteArray} : ∀ {f k o t k' o'}, nextT s f k o = (some t, k', o') → k ≤ s.size → k' ≤ s.size ∧ 2 * (s.size - k') + o'.toNat < 2 * (s.size - k) + o.toNat
  | 0, k, o, t, k', o', h, hk => by simp [nextT] at h
  | f + 1, k, o, t, k', o', h, hk => by
    have h1 := passTo_ge s k
    have h2 := passTo_le s k hk
    rw [nextT] at h
    split at h
    · rename_i hc
      have h3 := clsAt_lt hc
      have h4 := tokTo_le s _ h3
      have h5 := tokTo_gt s (passTo s k)
      simp only [Prod.mk.injEq] at h
      obtain ⟨_, rfl, rfl⟩ := h
      exact ⟨h4, by simp; omega⟩
    · split at h
      · rename_i ho
        simp only [Prod.mk.injEq] at h
        obtain ⟨_, rfl, rfl⟩ := h
        subst ho
        exact ⟨by omega, by simp; omega⟩
      · split at h
        · simp at h
        · obtain ⟨a, b⟩ := nextT_le h (by omega)
          exact ⟨a, by simp at b; omega⟩

/-- All tokens from a state on, whatever their faults. -/
def toksF (s : ByteArray) : Nat → Nat → Bool → List Tok
  | 0, _, _ => []
  | f + 1, k, o =>
    match nextT s (s.size + 1) k o with
    | (some t, k', o') => t :: toksF s f k' o'
    | (none, _, _) => []
def toks (s : ByteArray) : List Tok := toksF s (2 * s.size + 1) 0 false

theorem toksF_len (s : ByteArray) : ∀ f k o, (toksF s f k o).length ≤ f
  | 0, _, _ => Nat.le_refl _
  | f + 1, k, o => by
    rw [toksF]; split
    · simp; exact toksF_len s f _ _
    · simp

theorem nextT_ok {s : ByteArray} : ∀ {f k o t k' o'}, nextT s f k o = (some t, k', o') → (t.kind = 1 ∨ t.kind = 2 ∨ (t.kind = 3 ∧ 0 < t.text.size) ∨ t.kind = 4) ∧ t.text.size ≤ s.size
  | 0, k, o, t, k', o', h => by simp [nextT] at h
  | f + 1, k, o, t, k', o', h => by
    rw [nextT] at h
    split at h
    · rename_i hc
      have h3 := clsAt_lt hc
      have h4 := tokTo_le s _ h3
      have h5 := tokTo_gt s (passTo s k)
      simp only [Prod.mk.injEq, Option.some.injEq] at h
      obtain ⟨rfl, _, _⟩ := h
      have hz : (s.extract (passTo s k) (tokTo s (passTo s k))).size = tokTo s (passTo s k) - passTo s k := by
        rw [ByteArray.size_extract]; omega
      refine ⟨?_, by simp only [tokAt]; rw [hz]; omega⟩
      unfold tokAt tokKind
      simp only
      split
      · exact .inl rfl
      · split
        · exact .inr (.inl rfl)
        · exact .inr (.inr (.inl ⟨rfl, by rw [hz]; omega⟩))
    · split at h
      · simp only [Prod.mk.injEq, Option.some.injEq] at h
        obtain ⟨rfl, _, _⟩ := h
        exact ⟨by simp, by simp⟩
      · split at h
        · simp at h
        · exact nextT_ok h

theorem faultOf_3 {tx : ByteArray} {ps : Nat} (h : 0 < tx.size) : faultOf ⟨3, tx, ps⟩ = if cls tx[0].toNat = 6 then 0 else 40 := by
  unfold faultOf clsAt; simp [h]

set_option maxHeartbeats 1000000 in
theorem fault_any (kd : Nat) (tx : ByteArray) (ps : Nat) (w : World) (hk : kd = 1 ∨ kd = 2 ∨ (kd = 3 ∧ 0 < tx.size) ∨ kd = 4) (hs : tx.size ≤ 16384) :
    Calls Tryd.prog 96 #[(Tok.mk kd tx ps).val] w fun e w' => e = .returned (.int .i64 (faultOf ⟨kd, tx, ps⟩)) ∧ w.grownBy w' none := by
  unfold Tok.val
  simp only
  rcases hk with rfl | rfl | ⟨rfl, h0⟩ | rfl
  · by_cases hl : 16 < tx.size
    all_goals
      have Hf : Hid (faultOf ⟨1, tx, ps⟩ = if 16 < tx.size then 42 else 0) := Lib.hid (by simp [faultOf])
      go_enter Tryd.func96, Tryd.ntmps96
      go_wp2
      go_returns
      exact ⟨ret_int (by rw [Hf.out]; simp; omega), World.grownBy_alloc _ _ _⟩
  · cases hn : numOk tx
    all_goals
      have Hf : Hid (faultOf ⟨2, tx, ps⟩ = if numOk tx then 0 else 41) := Lib.hid (by simp [faultOf])
      have Hn := Lib.hid hn
      have hm : tx.size ≤ maxLen := by unfold maxLen; omega
      clear hn
      go_enter Tryd.func96, Tryd.ntmps96
      go_wp2_with (go_at_call 101; refine (num_any _ _ hm _ Hn.out).mono ?_; rintro e w' ⟨rfl, rfl⟩)
      go_returns
      exact ⟨ret_int (by rw [Hf.out, Hn.out]; simp), World.grownBy_alloc _ _ _⟩
  · have Hf := Lib.hid (faultOf_3 (ps := ps) h0)
    by_cases hc : cls tx[0].toNat = 6
    · have hc1 : (cls ↑tx[0].toNat != 6) = false := by simpa using hc
      have Hc := Lib.hid hc
      clear hc
      go_enter Tryd.func96, Tryd.ntmps96
      go_wp2_with (go_at_call 90; refine (classOf_any _ _).mono ?_; rintro e w' ⟨rfl, rfl⟩)
      go_returns
      exact ⟨ret_int (by rw [Hf.out, if_pos Hc.out]), World.grownBy_alloc _ _ _⟩
    · have hc1 : (cls ↑tx[0].toNat != 6) = true := by simpa using hc
      have Hc := Lib.hid hc
      clear hc
      go_enter Tryd.func96, Tryd.ntmps96
      go_wp2_with (go_at_call 90; refine (classOf_any _ _).mono ?_; rintro e w' ⟨rfl, rfl⟩)
      go_returns
      exact ⟨ret_int (by rw [Hf.out, if_neg Hc.out]), World.grownBy_alloc _ _ _⟩
  · go_enter Tryd.func96, Tryd.ntmps96
    go_wp2
    go_returns
    exact ⟨ret_int (by simp [faultOf]), World.grownBy_alloc _ _ _⟩
end Go.Proofs.YtmfdpnjgljlkbaaDoor

namespace Go.Proofs.YtmfdpnjgljlkbaaDoor
open Go.RowKit Go.Shelf
attribute [local go_sem] Oper.semAt_some wide_fn wide_depth wide_fn_in wide_depth_in

/-- What tokens hands to the loop's body. -/
def tokEnc (t : Tok) : Array Value := #[t.val, .int .i64 (faultOf t)]
def Tok.cells (t : Tok) : List Value := [.int .u8 t.kind, .string t.text, .int .i64 t.pos]
def Tok.none : Tok := ⟨0, ByteArray.empty, 0⟩

def boolNat : Value → Nat | .bool true => 1 | _ => 0
/-- How much of the source is still before the scanner. -/
def scanM (s : ByteArray) (b : Nat) (wr : World) : Nat :=
  match wr.heap[b]? with
  | some (.cells cs _ _) => 2 * (s.size - (intOf (cs.getD 1 undef)).toNat) + boolNat (cs.getD 2 undef)
  | _ => 0
theorem scanM_eq {wr : World} {b : Nat} {s : ByteArray} {k : Nat} {o : Bool} (h : Scan wr b s k o) : scanM s b wr = 2 * (s.size - k) + o.toNat := by
  have h' : wr.heap[b]? = some (.cells [Value.string s, .int .i64 k, .bool o].toArray 132 (0, 0)) := h
  unfold scanM
  rw [h']
  cases o <;> simp [intOf, boolNat]

theorem nextT_none {s : ByteArray} : ∀ {f k o k' o'}, nextT s f k o = (none, k', o') → k ≤ s.size → k' ≤ s.size ∧ 2 * (s.size - k') + o'.toNat ≤ 2 * (s.size - k) + o.toNat
  | 0, k, o, k', o', h, hk => by
    simp only [nextT, Prod.mk.injEq, true_and] at h
    obtain ⟨rfl, rfl⟩ := h; exact ⟨hk, Nat.le_refl _⟩
  | f + 1, k, o, k', o', h, hk => by
    have h1 := passTo_ge s k
    have h2 := passTo_le s k hk
    rw [nextT] at h
    split at h
    · simp at h
    · split at h
      · simp at h
      · split at h
        · simp only [Prod.mk.injEq, true_and] at h
          obtain ⟨rfl, rfl⟩ := h
          exact ⟨by omega, by simp; omega⟩
        · obtain ⟨a, b⟩ := nextT_none h (by omega)
          exact ⟨a, by simp at b; omega⟩

theorem next_is (b : Nat) (s : ByteArray) (k : Nat) (o : Bool) (w : World) (hS : Scan w b s k o) (hs : s.size ≤ 16384) (hk : k ≤ s.size)
    (t : Option Tok) (k' : Nat) (o' : Bool) (hn : Hid (nextT s (s.size + 1) k o = (t, k', o'))) (kd : Nat) (tx : ByteArray) (ps : Nat) (ht : Hid (t.getD Tok.none = ⟨kd, tx, ps⟩)) :
    Calls Tryd.prog 95 #[.pointer (some ⟨b, 0, none⟩)] w fun e w' => e = .returned (.tuple #[.agg #[.int .u8 kd, .string tx, .int .i64 ps], .bool t.isSome]) ∧ Scan w' b s k' o' ∧ w.grownBy w' (some b) :=
  (next_any b s k o w hS hs hk (s.size + 1) (by omega) t k' o' hn.out).mono fun e w' ⟨he, h2⟩ => ⟨by rw [he]; have := ht.out; unfold Tok.none at this; rw [this]; rfl, h2⟩

theorem toksF_next {s : ByteArray} {f k : Nat} {o : Bool} {t : Option Tok} {k' : Nat} {o' : Bool} (hn : nextT s (s.size + 1) k o = (t, k', o')) (hk : k ≤ s.size) (hf : 2 * (s.size - k) + o.toNat < f) :
    ∃ f', toksF s f k o = t.toList ++ (if t.isSome then toksF s f' k' o' else []) ∧ (t.isSome = true → 2 * (s.size - k') + o'.toNat < f') ∧ f' + 1 = f := by
  obtain ⟨f', rfl⟩ : ∃ f', f = f' + 1 := ⟨f - 1, by omega⟩
  refine ⟨f', ?_, ?_, rfl⟩
  · rw [toksF, hn]; cases t <;> simp
  · cases t with
    | none => simp
    | some t => intro _; have := (nextT_le hn hk).2; omega

/-- What holds at the head of each round of tokens. -/
def TokInv (s : ByteArray) (B Bx : Nat) (J : List Tok → List Nat → World → Prop) (fp0 : List Nat) (W : World) (pre : List Tok) (fp : List Nat) (k : Nat) (o : Bool) (T : Nat) (tk : Option Tok) (wr : World) : Prop :=
  Scan wr B s k o ∧ k ≤ s.size ∧ Blk wr Bx [.pointer (some ⟨B, 0, none⟩)] 138 ∧ J pre fp wr ∧ (∀ b ∈ fp, b ∈ fp0 ∨ W.heap.size ≤ b) ∧ T ∉ fp ∧ B ∉ fp ∧ Bx ∉ fp ∧ T ≠ B ∧ T ≠ Bx ∧ W.heap.size ≤ T ∧ Frm (B :: fp0) W wr ∧
    (∃ f, (tk.isSome = true → 2 * (s.size - k) + o.toNat < f) ∧ toks s = pre ++ tk.toList ++ (if tk.isSome then toksF s f k o else [])) ∧ (∀ t, tk = some t → ∃ j q, nextT s (s.size + 1) j q = (some t, k, o))

theorem yield_one {n l : Nat} {P : Program} {args : Array Value} {W : World} {fp : List Nat} {J Jx : List Nat → World → Prop}
    (h : YieldAt Fence.wide n P l args W fun e W' => ∃ fp', Frm fp W W' ∧ (∀ b ∈ fp', b ∈ fp ∨ W.heap.size ≤ b) ∧ ((e = .returned (.bool true) ∧ J fp' W') ∨ (e = .returned (.bool false) ∧ Jx fp' W'))) :
    YieldAt Fence.wide n P l args W fun e W' => ∃ c : Bool, e = .returned (.bool c) ∧ Hid (∃ fp', Frm fp W W' ∧ (∀ b ∈ fp', b ∈ fp ∨ W.heap.size ≤ b) ∧ (if c then J fp' W' else Jx fp' W')) :=
  h.mono fun e W' ⟨fp', h1, h2, h3⟩ => by
    rcases h3 with ⟨rfl, h3⟩ | ⟨rfl, h3⟩
    · exact ⟨true, rfl, Lib.hid ⟨fp', h1, h2, by simpa using h3⟩⟩
    · exact ⟨false, rfl, Lib.hid ⟨fp', h1, h2, by simpa using h3⟩⟩

set_option maxRecDepth 100000 in
set_option maxHeartbeats 4000000 in
theorem tokens1_seq (n : Nat) (B Bx : Nat) (s : ByteArray) (hs : s.size ≤ 16384) (w0 : World) (hS0 : Scan w0 B s 0 false) (hX0 : Blk w0 Bx [.pointer (some ⟨B, 0, none⟩)] 138) (hne : B ≠ Bx) :
    SeqFp n Tryd.prog 94 #[.pointer (some ⟨Bx, 0, none⟩)] tokEnc (toks s) [B, Bx] [B] w0 := by
  intro l J Jx W fp0 hW hJ hJx hY h0 hown
  have hS := hW.block B hS0.lt (by simp)
  have hX := hX0.frm hW (by simp)
  replace hS : Scan W B s 0 false := hS.trans hS0
  obtain ⟨ho1, ho2⟩ : B ∉ fp0 ∧ Bx ∉ fp0 := ⟨hown B (by simp), hown Bx (by simp)⟩
  obtain ⟨t1, k1, o1, hn1⟩ : ∃ t k o, nextT s (s.size + 1) 0 false = (t, k, o) := ⟨_, _, _, rfl⟩
  have hmix : (Tryd.prog).follows .mixedOrders = true := by kernel_rfl
  obtain ⟨kd, tx, ps, ht1⟩ : ∃ kd tx ps, t1.getD Tok.none = ⟨kd, tx, ps⟩ := ⟨_, _, _, rfl⟩
  have hx0 := hX.cell 0 rfl
  have Hn1 := Lib.hid hn1
  have Ht1 := Lib.hid ht1
  have hlts := hS.lt
  have hltx := hX.lt
  have hltf := Lib.hid (hJ.lt _ _ _ h0)
  clear hn1 ht1
  refine callsIn_of_wp Tryd.func94 rfl trivial ?_ rfl
  simp only [Tryd.ntmps94, List.size_toArray, List.length_cons, List.length_nil, Nat.reduceAdd, Nat.reduceSub, Array.replicate_succ, Array.replicate_zero, List.push_toArray, List.append_toArray, List.nil_append, List.cons_append]
  gi_wp2_with (gi_at_call 95; refine (callsIn_wide.2 (next_is B s 0 false _ hS hs (Nat.zero_le _) t1 k1 o1 Hn1 kd tx ps Ht1)).mono ?_; rintro e w1 ⟨rfl, hS1, hg1⟩)
  gi_loopw [3, 4] (fun tp okv wr => ∃ (pre : List Tok) (fp : List Nat) (k : Nat) (o : Bool) (T : Nat) (tk : Option Tok) (kd : Nat) (tx : ByteArray) (ps : Nat), tp = .pointer (some ⟨T, 0, none⟩) ∧ okv = .bool tk.isSome ∧ Hid (tk.getD Tok.none = ⟨kd, tx, ps⟩) ∧
      Blk wr T [.int .u8 kd, .string tx, .int .i64 ps] 122 ∧ TokInv s B Bx J fp0 W pre fp k o T tk wr)
    (fun _ okv wr => scanM s B wr + boolNat okv)
  case atStart =>
    have hz := hg1.size
    obtain ⟨f', h1, h2, h3⟩ := toksF_next (f := 2 * s.size + 1) Hn1.out (Nat.zero_le _) (by simp)
    refine ⟨[], fp0, k1, o1, w1.heap.size, t1, kd, tx, ps, rfl, rfl, Ht1, Blk.new _ _ _, hS1.alloc _, ?_, (hX.grown hg1 (by simp [hne.symm])).alloc _, ?_, fun b hb => .inl hb, ?_, ho1, ho2, by omega, by omega, hz, ?_, ⟨f', h2, by simpa [toks] using h1⟩, ?_⟩
    · cases t1 with
      | none => exact (nextT_none Hn1.out (Nat.zero_le _)).1
      | some t => exact (nextT_le Hn1.out (Nat.zero_le _)).1
    · refine hJ.stable _ _ _ _ h0 (by simp; omega) fun b hb => ?_
      have hb' := hltf.out b hb
      rw [Below.heap_alloc _ _ _ (by omega)]
      exact hg1.block b hb' (by rintro h; cases h; exact ho1 hb)
    · intro hm; have := hltf.out _ hm; omega
    · exact (Frm.of_grown hg1 _ (by simp)).alloc _
    · rintro t rfl; exact ⟨0, false, Hn1.out⟩
  case round =>
    obtain ⟨pre, fp, k, o, T, tk, kd, tx, ps, rfl, rfl, Htk, hT, hinv⟩ := hrel
    clear hS hX hx0 Hn1 Ht1 hS1 hg1
    obtain ⟨hS, hk, hX, hJp, hfp, n1, n2, n3, n4, n5, hTz, hfr, hf, hj⟩ := hinv
    cases tk with
    | none =>
      gi_wp2
      go_end0
      obtain ⟨f, _, hf2⟩ := hf
      refine ⟨⟨_, rfl⟩, hfr, fp, .inl ?_⟩
      · simp at hf2; rw [hf2]; exact hJp
    | some t =>
      obtain ⟨j, q, hnt⟩ := hj t rfl
      obtain ⟨f, hf1, hf2⟩ := hf
      obtain ⟨hkd, hsz⟩ := nextT_ok hnt
      simp only [Option.getD_some] at Htk
      obtain rfl : t = ⟨kd, tx, ps⟩ := Htk.out
      simp only at hkd hsz
      have c0 := hT.cell 0 rfl
      have c1 := hT.cell 1 rfl
      have c2 := hT.cell 2 rfl
      have Hf2 := Lib.hid hf2
      have Hkd := Lib.hid hkd
      have Hf1 := Lib.hid hf1
      clear hf2 hkd hf1 hj
      have hpx : pre ++ [⟨kd, tx, ps⟩] <+: toks s := ⟨_, by rw [Hf2.out]; rfl⟩
      have HY := Lib.hid hY
      have HJ := Lib.hid hJ
      clear hY hJ
      gi_wp2
      gi_region_with_o (first
        | (gi_at_call 96
           go_must (
             refine (callsIn_wide.2 (fault_any kd tx ps _ Hkd.out (by omega))).mono ?_
             rintro e w2 ⟨rfl, hg2⟩
             have hT2 := hT.grown (w := wr.drew) hg2 (by simp)
             have c02 := hT2.cell 0 rfl
             have c12 := hT2.cell 1 rfl
             have c22 := hT2.cell 2 rfl
             have hJ2 : J pre fp w2 := HJ.out.stable _ _ _ _ hJp hg2.size (fun b hb => hg2.block b (HJ.out.lt _ _ _ hJp b hb) (by simp))
             have HH := Lib.hid (yield_one (HY.out pre ⟨kd, tx, ps⟩ w2 fp hJ2 hpx))
             obtain ⟨fn, tmps, assign, body, hy, hR⟩ := HH.out
             simp only [tokEnc, Tok.val] at hy))
        | (refine hR.mono ?_; rintro e w3 ⟨c, rfl, hc⟩))
      all_goals
        obtain ⟨fp3, hf3, hm3, hc3⟩ := hc.out
        have hS2 : Scan w2 B s k o := Blk.grown (w := wr.drew) hS hg2 (by simp)
        have hX2 := Blk.grown (w := wr.drew) hX hg2 (by simp)
        have hS3 : Scan w3 B s k o := Blk.frm hS2 hf3 n2
        have hX3 := Blk.frm hX2 hf3 n3
        have hT3 := Blk.frm hT2 hf3 n1
        have hfr2 : Frm (B :: fp0) W w2 := hfr.drew.trans_new (Frm.of_grown hg2 [] (by simp)) (by simp)
        have hfr3 : Frm (B :: fp0) W w3 := hfr2.trans_new hf3 (fun x hx => by rcases hfp x hx with h | h; exact .inl (by simp [h]); exact .inr h)
        have hz2 := hfr2.size
        have hfp3 : ∀ b ∈ fp3, b ∈ fp0 ∨ W.heap.size ≤ b := fun b hb => by
          rcases hm3 b hb with h | h
          · exact hfp b h
          · exact .inr (by omega)
        have hlt2 := hS2.lt
        have hltx2 := hX2.lt
        have hltT2 := hT2.lt
        have m1 : T ∉ fp3 := fun h => by rcases hm3 _ h with h | h; exact n1 h; omega
        have m2 : B ∉ fp3 := fun h => by rcases hm3 _ h with h | h; exact n2 h; omega
        have m3 : Bx ∉ fp3 := fun h => by rcases hm3 _ h with h | h; exact n3 h; omega
        cases c with
        | false =>
          gi_wp2
          refine bodyPost_ret (results_none rfl _ _ _) rfl ?_
          exact ⟨⟨_, rfl⟩, hfr3, fp3, .inr ⟨_, hpx, by simpa using hc3⟩⟩
        | true =>
          obtain ⟨t4, k4, o4, hn4⟩ : ∃ t k' o', nextT s (s.size + 1) k o = (t, k', o') := ⟨_, _, _, rfl⟩
          obtain ⟨kd4, tx4, ps4, ht4⟩ : ∃ kd tx ps, t4.getD Tok.none = ⟨kd, tx, ps⟩ := ⟨_, _, _, rfl⟩
          have Hn4 := Lib.hid hn4
          have Ht4 := Lib.hid ht4
          clear hn4 ht4
          have d0 := hT3.cell 0 rfl
          have d1 := hT3.cell 1 rfl
          have d2 := hT3.cell 2 rfl
          have hx3 := hX3.cell 0 rfl
          have hSa := hS3.alloc (.cells #[.int .u8 kd, .string tx, .int .i64 ps] 122)
          have hNa := Blk.new w3 #[.int .u8 kd, .string tx, .int .i64 ps] 122
          have hlt3 := hS3.lt
          have hltx3 := hX3.lt
          have hneT : w3.heap.size ≠ B := by omega
          have hneX : w3.heap.size ≠ Bx := by omega
          have hgeW : W.heap.size ≤ w3.heap.size := hfr3.size
          gi_wp2_with (gi_at_call 95; refine (callsIn_wide.2 (next_is B s k o _ hSa hs hk t4 k4 o4 Hn4 kd4 tx4 ps4 Ht4)).mono ?_; rintro e w4 ⟨rfl, hS4, hg4⟩; have hN4 := hNa.grown hg4 (by simp; omega); have e0 := hN4.cell 0 rfl; have e1 := hN4.cell 1 rfl; have e2 := hN4.cell 2 rfl; have g0 := hN4.frozen 0; have g1 := hN4.frozen 1; have g2 := hN4.frozen 2)
          go_roundw
          case rel =>
            obtain ⟨f', q1, q2, q3⟩ := toksF_next Hn4.out hk (Hf1.out rfl)
            have hz4 := hg4.size
            simp at hz4
            have hltp := HJ.out.lt _ _ _ (show J (pre ++ [⟨kd, tx, ps⟩]) fp3 w3 from by simpa using hc3)
            have hnT : w3.heap.size ∉ fp3 := fun h => by have := hltp _ h; omega
            refine ⟨pre ++ [⟨kd, tx, ps⟩], fp3, k4, o4, w3.heap.size, t4, kd4, tx4, ps4, rfl, rfl, Ht4, ?_, ?_⟩
            · exact ((hN4.set 0 _).set 1 _).set 2 _
            · have hS5 : Scan (((w4.setCell ⟨w3.heap.size, 0, none⟩ (.int .u8 kd4)).setCell ⟨w3.heap.size, 1, none⟩ (.string tx4)).setCell ⟨w3.heap.size, 2, none⟩ (.int .i64 ps4)) B s k4 o4 := by
                (repeat (first | with_reducible exact hS4 | with_reducible refine Scan.drew ?_ | with_reducible refine Scan.drewN ?_ _ | with_reducible refine Scan.alloc ?_ _ | refine Scan.other ?_ _ hneT.symm _ | refine Scan.at (k := k) ?_ _ | refine Scan.at' ?_))
              refine ⟨hS5, ?_, ?_, ?_, hfp3, hnT, m2, m3, hneT, by omega, by omega, ?_, ⟨f', q2, ?_⟩, ?_⟩
              · cases t4 with
                | none => exact (nextT_none Hn4.out hk).1
                | some t => exact (nextT_le Hn4.out hk).1
              · exact Blk.setOther (Blk.setOther (Blk.setOther ((hX3.alloc _).grown hg4 (by simp [hne.symm])) _ hneX.symm _) _ hneX.symm _) _ hneX.symm _
              · refine HJ.out.stable _ _ _ _ (by simpa using hc3) (by simp; omega) fun b hb => ?_
                have hb' := hltp b hb
                have hb4 : b ≠ w3.heap.size := by omega
                rw [Below.heap_setCell _ _ _ _ hb4, Below.heap_setCell _ _ _ _ hb4, Below.heap_setCell _ _ _ _ hb4]
                rw [hg4.block b (by simp; omega) (by rintro h; cases h; exact m2 hb), Below.heap_alloc _ _ _ hb']
              · refine Frm.setCell (Frm.setCell (Frm.setCell ?_ (.inr hgeW) _) (.inr hgeW) _) (.inr hgeW) _
                exact (hfr3.alloc _).trans_new (Frm.of_grown hg4 [B] (by simp)) (by simp)
              · rw [Hf2.out]; simp; exact q1
              · rintro t rfl; exact ⟨_, _, Hn4.out⟩
          case measure =>
            have hS5 : Scan (((w4.setCell ⟨w3.heap.size, 0, none⟩ (.int .u8 kd4)).setCell ⟨w3.heap.size, 1, none⟩ (.string tx4)).setCell ⟨w3.heap.size, 2, none⟩ (.int .i64 ps4)) B s k4 o4 := by
                (repeat (first | with_reducible exact hS4 | with_reducible refine Scan.drew ?_ | with_reducible refine Scan.drewN ?_ _ | with_reducible refine Scan.alloc ?_ _ | refine Scan.other ?_ _ hneT.symm _ | refine Scan.at (k := k) ?_ _ | refine Scan.at' ?_))
            rw [scanM_eq hS5, scanM_eq hS]
            cases t4 with
            | none => have := (nextT_none Hn4.out hk).2; simp [boolNat]; omega
            | some t => have := (nextT_le Hn4.out hk).2; simp [boolNat]; omega
end Go.Proofs.YtmfdpnjgljlkbaaDoor

namespace Go.Proofs.YtmfdpnjgljlkbaaDoor
open Go.RowKit Go.Shelf
attribute [local go_sem] Oper.semAt_some wide_fn wide_depth wide_fn_in wide_depth_in

def cellsOf (ts : List Tok) : List Value := ts.flatMap Tok.cells

/-- The first token with a fault. -/
def firstBad : List Tok → Option Tok
  | [] => none
  | t :: r => if faultOf t = 0 then firstBad r else some t
def lexBad (s : ByteArray) : Option (Nat × Int) := if 16384 < s.size then some (0, 3) else (firstBad (toks s)).map fun t => (t.pos, faultOf t)

/-- What Lex answers: the place and the number of an error, or the tokens in memory of its own. -/
def LexPost (s : ByteArray) (w : World) (e : Ending) (w' : World) : Prop :=
  Below w.heap.size w w' ∧
    ((∃ p f, lexBad s = some (p, f) ∧ e = .returned (.tuple #[.slice none 0 0, .int .i64 (p : Nat), .int .i64 f])) ∨
     (lexBad s = none ∧ ∃ sv, e = .returned (.tuple #[sv, .int .i64 0, .int .i64 0]) ∧ w'.ownsRow w.heap.size 122 3 sv (toks s).length (cellsOf (toks s)) ∧ (sv = .slice none 0 0 ↔ toks s = [])))

theorem tokens_any (b : Nat) (w : World) : Calls Tryd.prog 89 #[.pointer (some ⟨b, 0, none⟩)] w fun e w' =>
    e = .returned (.func (.func 94) #[] #[.pointer (some ⟨w.heap.size, 0, none⟩)]) ∧ w.alloc (.cells #[.pointer (some ⟨b, 0, none⟩)] 138) = w' := by
  go_enter Tryd.func89, Tryd.ntmps89
  go_wp2
  go_returns
  exact ⟨rfl, rfl⟩

set_option maxHeartbeats 1000000 in
theorem lex_long (s : ByteArray) (w : World) (hl : 16384 < s.size) (hs : s.size ≤ maxLen) : Calls Tryd.prog 84 #[.string s] w (LexPost s w) := by
  unfold maxLen at hs
  have Hb : Hid (lexBad s = some (0, 3)) := Lib.hid (by unfold lexBad; rw [if_pos hl])
  go_enter Tryd.func84, Tryd.ntmps84
  go_wp2
  go_returns
  exact ⟨by go_grown, .inl ⟨0, 3, Hb.out, rfl⟩⟩

/-- What holds between two rounds: the tokens so far lie in a slice of the call's own; no fault yet. -/
def LexI (R : Nat) (pre : List Tok) (fp : List Nat) (W : World) : Prop :=
  ∃ sv, fp = R :: (R + 1) :: (R + 1 + 1) :: sv.ownBlock.toList ∧ Blk W R [sv] 117 ∧ Blk W (R + 1) [.int .i64 0] 3 ∧ Blk W (R + 1 + 1) [.int .i64 0] 39 ∧
    W.ownsRow (R + 1 + 1 + 1 + 1 + 1) 122 3 sv pre.length (cellsOf pre) ∧ (sv = .slice none 0 0 ↔ pre = []) ∧ firstBad pre = none ∧ R + 1 + 1 + 1 + 1 + 1 ≤ W.heap.size
/-- What holds when a round has met a fault. -/
def LexIx (R : Nat) (c : Code) (pre : List Tok) (fp : List Nat) (W : World) : Prop :=
  c = .ret ∧ fp = [R, R + 1, R + 1 + 1] ∧ ∃ t, firstBad pre = some t ∧ Blk W R [.slice none 0 0] 117 ∧ Blk W (R + 1) [.int .i64 t.pos] 3 ∧ Blk W (R + 1 + 1) [.int .i64 (faultOf t)] 39



theorem Blk.agree {w w' : World} {b : Nat} {cs : List Value} {t : TypeId} (h : Blk w b cs t) (he : w'.heap[b]? = w.heap[b]?) : Blk w' b cs t := he.trans h
theorem lexI_local (R : Nat) : Local (LexI R) := by
  refine ⟨?_, ?_⟩
  · rintro pre fp W W' ⟨sv, rfl, h1, h2, h3, h4, h5, h6, h7⟩ hz hag
    exact ⟨sv, rfl, h1.agree (hag _ (by simp)), h2.agree (hag _ (by simp)), h3.agree (hag _ (by simp)), ownsRow_agree h4 (fun b hb => hag b (by simp only [List.mem_cons]; exact .inr (.inr (.inr hb)))), h5, h6, Nat.le_trans h7 hz⟩
  · rintro pre fp W ⟨sv, rfl, h1, h2, h3, h4, h5⟩ b hb
    simp only [List.mem_cons] at hb
    rcases hb with rfl | rfl | rfl | hb
    · exact h1.lt
    · exact h2.lt
    · exact h3.lt
    · exact (h4.lt b (by simpa using hb)).2
theorem lexIx_local (R : Nat) (c : Code) : Local (LexIx R c) := by
  refine ⟨?_, ?_⟩
  · rintro pre fp W W' ⟨hc, rfl, t, ht, h1, h2, h3⟩ _ hag
    exact ⟨hc, rfl, t, ht, h1.agree (hag _ (by simp)), h2.agree (hag _ (by simp)), h3.agree (hag _ (by simp))⟩
  · rintro pre fp W ⟨hc, rfl, t, ht, h1, h2, h3⟩ b hb
    simp only [List.mem_cons, List.not_mem_nil, or_false] at hb
    rcases hb with rfl | rfl | rfl
    · exact h1.lt
    · exact h2.lt
    · exact h3.lt
theorem firstBad_none_snoc {pre : List Tok} {t : Tok} (h : firstBad pre = none) : firstBad (pre ++ [t]) = if faultOf t = 0 then none else some t := by
  induction pre with
  | nil => simp [firstBad]
  | cons a r ih =>
    rw [firstBad] at h
    split at h
    · rename_i h0; rw [List.cons_append, firstBad, if_pos h0]; exact ih h
    · cases h
theorem firstBad_prefix {pre all : List Tok} {t : Tok} (h : firstBad pre = some t) (hp : pre <+: all) : firstBad all = some t := by
  obtain ⟨q, rfl⟩ := hp
  induction pre with
  | nil => simp [firstBad] at h
  | cons a r ih =>
    rw [List.cons_append]
    rw [firstBad] at h ⊢
    split at h
    · rename_i h0; rw [if_pos h0]; exact ih h
    · rename_i h0; rw [if_neg h0]; exact h
theorem toks_len (s : ByteArray) : (toks s).length ≤ 2 * s.size + 1 := toksF_len _ _ _ _
theorem cell_three_new (w : World) (a b c : Value) (t : TypeId) : ∀ j u, [a, b, c][j]? = some u → (w.alloc (.cells #[a, b, c] t)).cell? ((⟨w.heap.size, 0, none⟩ : Addr).add j) = some u := by
  intro j u hj
  match j, hj with
  | 0, hj => simp at hj; subst hj; simp [Addr.add]
  | 1, hj => simp at hj; subst hj; simp [Addr.add]
  | 2, hj => simp at hj; subst hj; simp [Addr.add]
  | j + 3, hj => simp at hj
theorem tok_info : ((Tryd.prog).info? 122).map (fun i => (i.zero, i.size, i.bytes)) = some (some (.agg #[.int .u8 0, .string ⟨#[]⟩, .int .i64 0]), 3, 32) := by kernel_rfl

theorem cellsOf_snoc (pre : List Tok) (t : Tok) : cellsOf (pre ++ [t]) = cellsOf pre ++ [.int .u8 t.kind, .string t.text, .int .i64 t.pos] := by
  simp [cellsOf, Tok.cells]
theorem lexI_step {R : Nat} {pre : List Tok} {t : Tok} {W W₂ w1 : World} {sv : Value} {a : Act} {g' cap' : Nat} {X : Obj} (hb : firstBad (pre ++ [t]) = none) (hsz : W.heap.size ≤ W₂.heap.size) (hbase : R + 1 + 1 + 1 + 1 + 1 ≤ W₂.heap.size)
    (hR : Blk W₂ R [sv] 117) (hR1 : Blk W₂ (R + 1) [.int .i64 0] 3) (hR2 : Blk W₂ (R + 1 + 1) [.int .i64 0] 39) (hrow : W₂.ownsRow (R + 1 + 1 + 1 + 1 + 1) 122 3 sv pre.length (cellsOf pre))
    (hown' : w1.ownsRow (R + 1 + 1 + 1 + 1 + 1) 122 3 (.slice (some ⟨g', 0, none⟩) (pre.length + 1) cap') (pre.length + 1) (cellsOf pre ++ [.int .u8 t.kind, .string t.text, .int .i64 t.pos]))
    (hgrow : (W₂.alloc X).grownBy w1 sv.ownBlock) (hblk : sv.ownBlock = some g' ∨ g' = (W₂.alloc X).heap.size) :
    fpPost (LexI R) (LexIx R) (pre ++ [t]) (R :: (R + 1) :: (R + 1 + 1) :: sv.ownBlock.toList) W W₂ Exit.normal a (w1.setCell ⟨R, 0, none⟩ (.slice (some ⟨g', 0, none⟩) (pre.length + 1) cap')) := by
  have hrl := hrow.lt
  have hgl := (hown'.lt g' rfl).1
  refine ⟨?_, R :: (R + 1) :: (R + 1 + 1) :: [g'], ?_, .slice (some ⟨g', 0, none⟩) (pre.length + 1) cap', rfl, ?_, ?_, ?_, ?_, by simp, hb, ?_⟩
  rotate_right
  · have := hgrow.size; simp at this ⊢; omega
  · refine Frm.setCell ?_ (.inl (by simp)) _
    exact ((Frm.refl _ _).alloc X).trans_new (Frm.of_grown hgrow (R :: (R + 1) :: (R + 1 + 1) :: sv.ownBlock.toList) (fun k hk => by simp [hk])) (fun x hx => .inl hx)
  · intro b hb
    simp only [List.mem_cons, List.not_mem_nil, or_false] at hb ⊢
    rcases hb with h | h | h | h
    · exact .inl (.inl h)
    · exact .inl (.inr (.inl h))
    · exact .inl (.inr (.inr (.inl h)))
    · rcases hblk with h1 | h1
      · exact .inl (.inr (.inr (.inr (by simp [h1, h]))))
      · exact .inr (by simp at h1; omega)
  · exact Blk.set1 ((hR.alloc X).grown hgrow (fun e => by have := hrl _ e.symm; omega)) _
  · exact Blk.setOther ((hR1.alloc X).grown hgrow (fun e => by have := hrl _ e.symm; omega)) _ (by simp) _
  · exact Blk.setOther ((hR2.alloc X).grown hgrow (fun e => by have := hrl _ e.symm; omega)) _ (by simp; omega) _
  · rw [cellsOf_snoc, List.length_append, List.length_singleton]
    exact ownsRow_setCell_below hown' (by simp; omega) _

theorem ownsRow_base {w : World} {base base' : Nat} {e : TypeId} {size : Nat} {v : Value} {n : Nat} {xs : List Value} (h : w.ownsRow base e size v n xs) (hb : base' ≤ base) : w.ownsRow base' e size v n xs := by
  obtain ⟨h1, h2⟩ := h
  refine ⟨h1, ?_⟩
  rcases h2 with h2 | ⟨g, cap, cur, hv, hg, r⟩
  · exact .inl h2
  · exact .inr ⟨g, cap, cur, hv, by omega, r⟩
theorem lex_below {w W W' : World} {a b c d e : Obj} (_ : Frm ([w.heap.size + 1 + 1 + 1] ++ [w.heap.size, w.heap.size + 1, w.heap.size + 1 + 1]) (((((w.alloc a).alloc b).alloc c).alloc d).alloc e) W)
    (h : Frm ([w.heap.size + 1 + 1 + 1] ++ [w.heap.size, w.heap.size + 1, w.heap.size + 1 + 1]) (((((w.alloc a).alloc b).alloc c).alloc d).alloc e) W') : Below w.heap.size w W' := by
  refine Below.trans (b := ((((w.alloc a).alloc b).alloc c).alloc d).alloc e) (by go_grown) (h.below (by simp; omega) ?_)
  intro x hx
  simp only [List.cons_append, List.nil_append, List.mem_cons, List.not_mem_nil, or_false] at hx
  omega

theorem lexIx_stop {R : Nat} {pre : List Tok} {t : Tok} {W W₂ : World} {sv : Value} {a : Act} (hb : firstBad (pre ++ [t]) = some t)
    (hR : Blk W₂ R [sv] 117) (hR1 : Blk W₂ (R + 1) [.int .i64 0] 3) (hR2 : Blk W₂ (R + 1 + 1) [.int .i64 0] 39) :
    fpPost (LexI R) (LexIx R) (pre ++ [t]) (R :: (R + 1) :: (R + 1 + 1) :: sv.ownBlock.toList) W W₂ Exit.ret a
      (((W₂.setCell ⟨R, 0, none⟩ (.slice none 0 0)).setCell ⟨R + 1, 0, none⟩ (.int .i64 t.pos)).setCell ⟨R + 1 + 1, 0, none⟩ (.int .i64 (faultOf t))).drew := by
  refine ⟨?_, [R, R + 1, R + 1 + 1], fun b hb => .inl ?_, rfl, rfl, t, hb, ?_, ?_, ?_⟩
  · (repeat (first | with_reducible exact Frm.refl _ _ | with_reducible refine Frm.drew ?_ | with_reducible refine Frm.drewN ?_ _ | with_reducible refine Frm.alloc ?_ _ | with_reducible refine Frm.setCell ?_ (.inl (by simp)) _))
  · simp only [List.mem_cons, List.not_mem_nil, or_false] at hb ⊢
    rcases hb with h | h | h
    · exact .inl h
    · exact .inr (.inl h)
    · exact .inr (.inr (.inl h))
  · (repeat (first | with_reducible exact hR | with_reducible refine Blk.drew ?_ | with_reducible refine Blk.drewN ?_ _ | with_reducible refine Blk.alloc ?_ _ | with_reducible refine Blk.set1 (x := sv) ?_ _ | with_reducible refine Blk.setOther ?_ _ (by first | (simp; done) | (simp; omega)) _))
  · (repeat (first | with_reducible exact hR1 | with_reducible refine Blk.drew ?_ | with_reducible refine Blk.drewN ?_ _ | with_reducible refine Blk.alloc ?_ _ | with_reducible refine Blk.set1 (x := .int .i64 0) ?_ _ | with_reducible refine Blk.setOther ?_ _ (by first | (simp; done) | (simp; omega)) _))
  · (repeat (first | with_reducible exact hR2 | with_reducible refine Blk.drew ?_ | with_reducible refine Blk.drewN ?_ _ | with_reducible refine Blk.alloc ?_ _ | with_reducible refine Blk.set1 (x := .int .i64 0) ?_ _ | with_reducible refine Blk.setOther ?_ _ (by first | (simp; done) | (simp; omega)) _))

set_option maxRecDepth 100000 in
set_option maxHeartbeats 4000000 in
theorem lex_in (n : Nat) (s : ByteArray) (w : World) (hs : s.size ≤ 16384) : CallsIn Fence.wide n Tryd.prog 84 #[.string s] w (LexPost s w) := by
  have hd : decide (16384 < (s.size : Int)) = false := by simp; omega
  have hmix : (Tryd.prog).follows .mixedOrders = true := by kernel_rfl
  refine callsIn_of_wp_marks Tryd.func84 rfl trivial ?_ rfl
  simp only [Tryd.ntmps84, List.size_toArray, List.length_cons, List.length_nil, Nat.reduceAdd, Nat.reduceSub, Array.replicate_succ, Array.replicate_zero, List.push_toArray, List.append_toArray, List.nil_append, List.cons_append]
  gi_wp2_with (gi_at_call 89; refine (callsIn_wide.2 (tokens_any _ _)).mono ?_; rintro e w1 ⟨rfl, rfl⟩)
  refine wpIn_rangeFunc_fp (α := Tok) (all := toks s) (own := [w.heap.size + 1 + 1 + 1, w.heap.size + 1 + 1 + 1 + 1]) (wr := [w.heap.size + 1 + 1 + 1]) rfl (enters_of Tryd.func94 (by kernel_rfl) rfl) (tokens1_seq _ _ _ s hs _ ?c1 ?c2 (by simp)) (fun _ => rfl)
    (LexI w.heap.size) (LexIx w.heap.size) (lexI_local _) (lexIx_local _) [w.heap.size, w.heap.size + 1, w.heap.size + 1 + 1] ?start ?own
    (fun x W a₁ W₁ => a₁ = { tmps := #[.string s, undef, .pointer (some ⟨w.heap.size, 0, none⟩), .pointer (some ⟨w.heap.size + 1, 0, none⟩), .pointer (some ⟨w.heap.size + 1 + 1, 0, none⟩), .pointer (some ⟨w.heap.size + 1 + 1 + 1, 0, none⟩), .pointer (some ⟨W.heap.size, 0, none⟩),
      .int .i64 (faultOf x), .string s, .int .i64 s.size, .bool false, .string s, .agg #[.string s, .int .i64 0], .agg #[.string s, .int .i64 0, .bool false], .func (.func 94) #[] #[.pointer (some ⟨w.heap.size + 1 + 1 + 1 + 1, 0, none⟩)],
      .agg #[.int .u8 x.kind, .string x.text, .int .i64 x.pos], .int .i64 (faultOf x), undef, undef, undef, undef, undef, undef, undef, undef, undef, undef], defers := [] } ∧
      W₁ = W.alloc (.cells #[.int .u8 x.kind, .string x.text, .int .i64 x.pos] 122)) ?assign ?hAx ?body ?done ?stop
  case c1 => exact (Blk.newAt (by simp)).alloc _
  case c2 => exact Blk.newAt (by simp)
  case start => exact ⟨.slice none 0 0, rfl, ((((Blk.newAt (by simp)).alloc _).alloc _).alloc _).alloc _, (((Blk.newAt (by simp)).alloc _).alloc _).alloc _, ((Blk.newAt (by simp)).alloc _).alloc _, World.ownsRow_nil _ _ _ _, by simp, rfl, by simp⟩
  case own => simp; omega
  case hAx => rintro x W a₁ W₁ ⟨_, rfl⟩; exact (Frm.refl _ _).alloc _
  case assign =>
    intro l x W K hK
    obtain ⟨kd, tx, ps⟩ := x
    simp only [tokEnc, Tok.val]
    have HK := Lib.hid hK
    clear hK
    gi_wp2
    exact HK.out _ _ ⟨rfl, rfl⟩
  case body =>
    rintro l pre ⟨kd, tx, ps⟩ W W₁ W₂ a₁ fp hI hpx ⟨rfl, rfl⟩ hl hz hlf hlW
    simp only at *
    have hT : Blk W₂ W.heap.size [.int .u8 kd, .string tx, .int .i64 ps] 122 := (Blk.new W #[.int .u8 kd, .string tx, .int .i64 ps] _).frm hl (by simp; omega)
    have hI2 : LexI w.heap.size pre fp W₂ := (lexI_local _).stable _ _ W _ hI (by have := hl.size; simp at this; omega) fun b hb => by
      have hb' := (lexI_local _).lt _ _ _ hI b hb
      exact (hl.block b (by simp; omega) (by rintro hm; simp at hm; subst hm; exact hlf hb)).trans (Below.heap_alloc _ _ _ hb')
    obtain ⟨sv, rfl, hR, hR1, hR2, hrow, hnil, hbad, hbase⟩ := hI2
    have hb2 := firstBad_none_snoc (t := ⟨kd, tx, ps⟩) hbad
    have hlen := hpx.length_le
    have hlen2 := toks_len s
    simp only [List.length_append, List.length_cons, List.length_nil] at hlen
    have hplen : pre.length ≤ 40000 := by omega
    have hrl := hrow.lt
    have c0 := hT.cell 0 rfl
    have c1 := hT.cell 1 rfl
    have c2 := hT.cell 2 rfl
    have r0 := hR.cell 0 rfl
    have r1 := hR1.cell 0 rfl
    have r2 := hR2.cell 0 rfl
    have f0 := hR.frozen 0
    have f1 := hR1.frozen 0
    have f2 := hR2.frozen 0
    have Hsz : W.heap.size ≤ W₂.heap.size := by have := hl.size; simp at this; omega
    have HI := Lib.hid hI
    have Hl := Lib.hid hl
    have Hz := Lib.hid hz
    clear hI hl hz
    by_cases hf : faultOf ⟨kd, tx, ps⟩ = 0
    · rw [hf]
      rw [if_pos hf] at hb2
      obtain ⟨i0, hi, hz0, hz1, hz2⟩ := info_parts tok_info
      have Hb := Lib.hid hb2
      have Hn := Lib.hid hnil
      have Hbad := Lib.hid hbad
      clear hf hb2 hnil hbad
      gi_wp2_with (gi_at_builtin; go_must (refine wpListIn_append_at _ rfl _ _ 117 rfl (w.heap.size + 1 + 1 + 1 + 1 + 1) 122 i0 (.agg #[.int .u8 0, .string ⟨#[]⟩, .int .i64 0]) 3 32 Tryd.underlying117 hi hz0 hz1 hz2 rfl (by decide) _ _ _ rfl (hrow.alloc _) ⟨W₂.heap.size, 0, none⟩ 1 1 [.int .u8 kd, .string tx, .int .i64 ps] rfl rfl (cell_three_new _ _ _ _ _) (by simp [Value.oneCell']) (by unfold maxLen; omega) (by omega) (by simp; omega) (by decide) ?_; intro g' cap' w1 hown' hgrow hblk; have hR' := (hR.alloc (.cells #[.int .u8 kd, .string tx, .int .i64 ps] 122)).grown hgrow (fun e => by have := hrl _ e.symm; omega); have d0 := hR'.cell 0 rfl; have e0 := hR'.frozen 0))
      exact lexI_step (t := ⟨kd, tx, ps⟩) Hb.out Hsz hbase hR hR1 hR2 hrow hown' hgrow hblk
    · have hf' : (faultOf ⟨kd, tx, ps⟩ != 0) = true := by simpa using hf
      rw [if_neg hf] at hb2
      have Hb := Lib.hid hb2
      have Hn := Lib.hid hnil
      have Hbad := Lib.hid hbad
      clear hf hb2 hnil hbad
      gi_wp2
      gi_region_with_o (fail)
      all_goals
        gi_wp2
        exact lexIx_stop (sv := sv) (by rw [Hb.out]) hR hR1 hR2
  case done =>
    intro D fp W hI hK hfr hD hDf
    obtain ⟨sv, rfl, hR, hR1, hR2, hrow, hnil, hbad, hbase⟩ := hI
    simp only [List.mem_cons, not_or] at hDf
    obtain ⟨d0, d1, d2, d3⟩ := hDf
    have hlb : lexBad s = none := by unfold lexBad; rw [if_neg (by omega), hbad]; rfl
    have Hfr := Lib.hid hfr
    have Hn := Lib.hid hnil
    have Hlb := Lib.hid hlb
    have Hdm := Lib.hid d3
    have HrW := Lib.hid hrow
    have hsv : ∃ a n c, sv = .slice a n c := by
      rcases hrow.2 with ⟨rfl, _⟩ | ⟨g, cap, cur, rfl, _⟩ <;> exact ⟨_, _, _, rfl⟩
    obtain ⟨ap, an, ac, rfl⟩ := hsv
    have c0 := hR.cell 0 rfl
    have c1 := hR1.cell 0 rfl
    have c2 := hR2.cell 0 rfl
    have f0 := hR.frozen 0
    have f1 := hR1.frozen 0
    have f2 := hR2.frozen 0
    clear hnil hbad hlb hfr d3 hrow
    gi_wp2
    have hK3 : (((W.setCell ⟨w.heap.size, 0, none⟩ (.slice ap an ac)).setCell ⟨w.heap.size + 1, 0, none⟩ (.int .i64 0)).setCell ⟨w.heap.size + 1 + 1, 0, none⟩ (.int .i64 0)).heap[D]? = some (.deferred (some [])) := by
      rw [Below.heap_setCell _ _ _ _ d2, Below.heap_setCell _ _ _ _ d1, Below.heap_setCell _ _ _ _ d0]; exact hK
    refine ⟨by simp, .inl ⟨_, _, rfl, run_takeDeferred hK3, ?_⟩⟩
    have e0 : (((((W.setCell ⟨w.heap.size, 0, none⟩ (.slice ap an ac)).setCell ⟨w.heap.size + 1, 0, none⟩ (.int .i64 0)).setCell ⟨w.heap.size + 1 + 1, 0, none⟩ (.int .i64 0)).putObj D (.deferred none)).cell? ⟨w.heap.size, 0, none⟩ = some (.slice ap an ac)) :=
      Blk.cell (Blk.agree (w := ((W.setCell _ _).setCell _ _).setCell _ _) (show Blk _ _ [.slice ap an ac] 117 by (repeat (first | with_reducible exact hR | with_reducible refine Blk.drew ?_ | with_reducible refine Blk.drewN ?_ _ | with_reducible refine Blk.alloc ?_ _ | with_reducible refine Blk.set1 (x := .slice ap an ac) ?_ _ | with_reducible refine Blk.setOther ?_ _ (by first | (simp; done) | (simp; omega)) _))) (World.putObj_heap_other (Ne.symm d0))) 0 rfl
    have e1 : (((((W.setCell ⟨w.heap.size, 0, none⟩ (.slice ap an ac)).setCell ⟨w.heap.size + 1, 0, none⟩ (.int .i64 0)).setCell ⟨w.heap.size + 1 + 1, 0, none⟩ (.int .i64 0)).putObj D (.deferred none)).cell? ⟨w.heap.size + 1, 0, none⟩ = some (.int .i64 0)) :=
      Blk.cell (Blk.agree (w := ((W.setCell _ _).setCell _ _).setCell _ _) (show Blk _ _ [.int .i64 0] 3 by (repeat (first | with_reducible exact hR1 | with_reducible refine Blk.drew ?_ | with_reducible refine Blk.drewN ?_ _ | with_reducible refine Blk.alloc ?_ _ | with_reducible refine Blk.set1 (x := .int .i64 0) ?_ _ | with_reducible refine Blk.setOther ?_ _ (by first | (simp; done) | (simp; omega)) _))) (World.putObj_heap_other (Ne.symm d1))) 0 rfl
    have e2 : (((((W.setCell ⟨w.heap.size, 0, none⟩ (.slice ap an ac)).setCell ⟨w.heap.size + 1, 0, none⟩ (.int .i64 0)).setCell ⟨w.heap.size + 1 + 1, 0, none⟩ (.int .i64 0)).putObj D (.deferred none)).cell? ⟨w.heap.size + 1 + 1, 0, none⟩ = some (.int .i64 0)) :=
      Blk.cell (Blk.agree (w := ((W.setCell _ _).setCell _ _).setCell _ _) (show Blk _ _ [.int .i64 0] 39 by (repeat (first | with_reducible exact hR2 | with_reducible refine Blk.drew ?_ | with_reducible refine Blk.drewN ?_ _ | with_reducible refine Blk.alloc ?_ _ | with_reducible refine Blk.set1 (x := .int .i64 0) ?_ _ | with_reducible refine Blk.setOther ?_ _ (by first | (simp; done) | (simp; omega)) _))) (World.putObj_heap_other (Ne.symm d2))) 0 rfl
    refine ⟨.tuple #[.slice ap an ac, .int .i64 0, .int .i64 0], by simp [results, Tryd.results84, go_sem, e0, e1, e2], ?_, .inr ⟨Hlb.out, .slice ap an ac, rfl, ?_, Hn.out⟩⟩
    · refine lex_below (W := W) Hfr.out ?_
      refine Frm.putObj ?_ (.inr hD) _
      exact (((Hfr.out.setCell (.inl (by simp)) _).setCell (.inl (by simp)) _).setCell (.inl (by simp)) _)
    · refine ownsRow_agree (ownsRow_base HrW.out (by omega)) fun b hb => ?_
      have h1 := HrW.out.lt b (by simpa using hb)
      have h2 : b ≠ D := fun h => Hdm.out (h ▸ hb)
      rw [World.putObj_heap_other h2, Below.heap_setCell _ _ _ _ (by simp; omega), Below.heap_setCell _ _ _ _ (by simp; omega), Below.heap_setCell _ _ _ _ (by simp; omega)]
  case stop =>
    rintro D c pre fp W hpre ⟨rfl, rfl, t, ht, hR, hR1, hR2⟩ hK hfr hD hDf
    simp only [List.mem_cons, List.not_mem_nil, or_false, not_or] at hDf
    obtain ⟨d0, d1, d2⟩ := hDf
    have hlb : lexBad s = some (t.pos, faultOf t) := by unfold lexBad; rw [if_neg (by omega), firstBad_prefix ht hpre]; rfl
    gi_wp2
    refine ⟨by simp, .inl ⟨_, _, rfl, run_takeDeferred hK, ?_⟩⟩
    have e0 := Blk.cell (hR.agree (World.putObj_heap_other (o := .deferred none) (Ne.symm d0))) 0 rfl
    have e1 := Blk.cell (hR1.agree (World.putObj_heap_other (o := .deferred none) (Ne.symm d1))) 0 rfl
    have e2 := Blk.cell (hR2.agree (World.putObj_heap_other (o := .deferred none) (Ne.symm d2))) 0 rfl
    refine ⟨.tuple #[.slice none 0 0, .int .i64 t.pos, .int .i64 (faultOf t)], by simp [results, Tryd.results84, go_sem, e0, e1, e2], ?_, .inl ⟨_, _, hlb, rfl⟩⟩
    exact lex_below (W := W) hfr (hfr.putObj (.inr hD) _)

/-- Lex, for every string. -/
theorem lex_any (s : ByteArray) (w : World) (hs : s.size ≤ maxLen) : Calls Tryd.prog 84 #[.string s] w (LexPost s w) := by
  by_cases hl : 16384 < s.size
  · exact lex_long s w hl hs
  · exact (callsIn_wide (n := 9)).1 (lex_in 9 s w (by omega))
end Go.Proofs.YtmfdpnjgljlkbaaDoor

namespace Go.Proofs.YtmfdpnjgljlkbaaDoor

theorem nextT_fuel {s : ByteArray} : ∀ {f g k o}, k ≤ s.size → s.size < f + k → s.size < g + k → nextT s f k o = nextT s g k o
  | 0, g, k, o, hk, hf, hg => by omega
  | f + 1, 0, k, o, hk, hf, hg => by omega
  | f + 1, g + 1, k, o, hk, hf, hg => by
    have h1 := passTo_ge s k
    rw [nextT, nextT]
    split
    · rfl
    · split
      · rfl
      · split
        · rfl
        · exact nextT_fuel (by omega) (by omega) (by omega)
theorem toksF_fuel {s : ByteArray} : ∀ {f g k o}, k ≤ s.size → 2 * (s.size - k) + o.toNat < f → 2 * (s.size - k) + o.toNat < g → toksF s f k o = toksF s g k o
  | 0, g, k, o, hk, hf, hg => by omega
  | f + 1, 0, k, o, hk, hf, hg => by omega
  | f + 1, g + 1, k, o, hk, hf, hg => by
    rw [toksF, toksF]
    split
    · rename_i t k' o' hn
      obtain ⟨h1, h2⟩ := nextT_le hn hk
      rw [toksF_fuel (f := f) (g := g) h1 (by omega) (by omega)]
    · rfl
/-- The tokens from offset k on. -/
def restT (s : ByteArray) (k : Nat) (o : Bool) : List Tok := toksF s (2 * (s.size - k) + o.toNat + 1) k o
theorem restT_eq {s : ByteArray} {k : Nat} {o : Bool} (hk : k ≤ s.size) : restT s k o = (match nextT s (s.size + 1) k o with | (some t, k', o') => t :: restT s k' o' | (none, _, _) => []) := by
  rcases hn : nextT s (s.size + 1) k o with ⟨_ | t, k', o'⟩
  · simp [restT, toksF, hn]
  · obtain ⟨h1, h2⟩ := nextT_le hn hk
    have e1 : restT s k o = t :: toksF s (2 * (s.size - k) + o.toNat) k' o' := by rw [restT, toksF, hn]
    rw [e1, toksF_fuel h1 h2 (Nat.lt_succ_self _)]
    rfl
theorem restT_some {s : ByteArray} {k : Nat} {o : Bool} {t : Tok} {k' : Nat} {o' : Bool} (hk : k ≤ s.size) (h : nextT s (s.size + 1) k o = (some t, k', o')) : restT s k o = t :: restT s k' o' := by
  rw [restT_eq hk, h]
theorem restT_none {s : ByteArray} {k : Nat} {o : Bool} {k' : Nat} {o' : Bool} (hk : k ≤ s.size) (h : nextT s (s.size + 1) k o = (none, k', o')) : restT s k o = [] := by
  rw [restT_eq hk, h]
theorem restT_same {s : ByteArray} {k j : Nat} {o q : Bool} (hk : k ≤ s.size) (hj : j ≤ s.size) (h : nextT s (s.size + 1) k o = nextT s (s.size + 1) j q) : restT s k o = restT s j q := by
  rw [restT_eq hk, restT_eq hj, h]
theorem toks_rest (s : ByteArray) : toks s = restT s 0 false := by
  unfold toks restT; simp

theorem passTo_blank {s : ByteArray} {k : Nat} (h : k < s.size) (hc : cls s[k].toNat = 1) : passTo s k = passTo s (k + 1) := by
  unfold passTo
  rw [runTo_step h (by simpa using hc)]
theorem passTo_here {s : ByteArray} {k : Nat} (hb : ∀ h : k < s.size, cls s[k].toNat ≠ 1 ∧ cls s[k].toNat ≠ 7) : passTo s k = k := by
  unfold passTo
  by_cases h : k < s.size
  · obtain ⟨h1, h7⟩ := hb h
    rw [runTo_stop h (by simpa using h1)]
    simp [h, h7]
  · rw [runTo_end (by omega)]; simp [h]
theorem passTo_hash {s : ByteArray} {k : Nat} (h : k < s.size) (hc : cls s[k].toNat = 7) : passTo s k = runTo (fun n => cls n != 2) s k := by
  unfold passTo
  rw [runTo_stop h (by simp [hc])]
  simp [h, hc]
theorem runTo_stop_out {p : Int → Bool} {s : ByteArray} {a : Nat} (h : runTo p s a < s.size) : p s[runTo p s a].toNat = false := by
  have key : ∀ f a, s.size ≤ a + f → ∀ h : ext p s f a < s.size, p s[ext p s f a].toNat = false := by
    intro f
    induction f with
    | zero => intro a hf h; simp only [ext] at h; omega
    | succ f ih =>
      intro a hf h
      by_cases ha : a < s.size
      · by_cases hp : p s[a].toNat = true
        · have he : ext p s (f + 1) a = ext p s f (a + 1) := by simp [ext, ha, hp]
          have := ih (a + 1) (by omega) (by rw [← he]; exact h)
          simp only [he]; exact this
        · have he : ext p s (f + 1) a = a := by simp [ext, ha, hp]
          simp only [he]; simpa using hp
      · have he : ext p s (f + 1) a = a := by simp [ext, ha]
        rw [he] at h; omega
  exact key _ a (by omega) h

theorem rest_blank {s : ByteArray} {k : Nat} (o : Bool) (h : k < s.size) (hc : cls s[k].toNat = 1) : restT s k o = restT s (k + 1) o := by
  refine restT_same (by omega) (by omega) ?_
  rw [nextT, passTo_blank h hc]
  conv => rhs; rw [nextT]
theorem rest_hash {s : ByteArray} {k : Nat} (o : Bool) (h : k < s.size) (hc : cls s[k].toNat = 7) : restT s k o = restT s (runTo (fun n => cls n != 2) s k) o := by
  refine restT_same (by omega) (runTo_le _ _ _ (by omega)) ?_
  have hj : passTo s (runTo (fun n => cls n != 2) s k) = runTo (fun n => cls n != 2) s k := passTo_here fun hh => by
    have := runTo_stop_out hh
    simp at this
    omega
  rw [nextT, passTo_hash h hc, nextT, hj]
theorem rest_nl {s : ByteArray} {k : Nat} (o : Bool) (h : k < s.size) (hc : cls s[k].toNat = 2) : restT s k o = (if o then [⟨4, ByteArray.empty, k⟩] else []) ++ restT s (k + 1) false := by
  have hp : passTo s k = k := passTo_here fun _ => by omega
  have hca : clsAt s k = 2 := by unfold clsAt; rw [dif_pos h, hc]
  cases o with
  | true =>
    rw [restT_some (t := ⟨4, ByteArray.empty, k⟩) (k' := k + 1) (o' := false) (by omega) (by rw [nextT, hp, hca]; simp; omega)]
    simp
  | false =>
    have : nextT s (s.size + 1) k false = nextT s (s.size + 1) (k + 1) false := by
      rw [nextT, hp, hca]
      simp only [ne_eq, not_true_eq_false, if_false, Bool.false_eq_true]
      rw [if_neg (by omega)]
      exact nextT_fuel (by omega) (by omega) (by omega)
    rw [restT_same (by omega) (by omega) this]
    simp
theorem rest_tok {s : ByteArray} {k : Nat} (o : Bool) (h : k < s.size) (h1 : cls s[k].toNat ≠ 1) (h2 : cls s[k].toNat ≠ 2) (h7 : cls s[k].toNat ≠ 7) : restT s k o = tokAt s k :: restT s (tokTo s k) true := by
  have hp : passTo s k = k := passTo_here fun _ => ⟨h1, h7⟩
  have hca : clsAt s k ≠ 2 := by unfold clsAt; rw [dif_pos h]; exact h2
  exact restT_some (by omega) (by rw [nextT, hp, if_pos hca])
theorem rest_end {s : ByteArray} (o : Bool) : restT s s.size o = if o then [⟨4, ByteArray.empty, s.size⟩] else [] := by
  have hp : passTo s s.size = s.size := passTo_here fun h => by omega
  have hca : clsAt s s.size = 2 := by unfold clsAt; rw [dif_neg (by omega)]
  cases o with
  | true =>
    rw [restT_some (t := ⟨4, ByteArray.empty, s.size⟩) (k' := s.size) (o' := false) (by omega) (by rw [nextT, hp, hca]; simp)]
    have : restT s s.size false = [] := restT_none (k' := s.size) (o' := false) (by omega) (by rw [nextT, hp, hca]; simp)
    rw [this]; simp
  | false =>
    exact restT_none (k' := s.size) (o' := false) (by omega) (by rw [nextT, hp, hca]; simp)

/-- Whether the line has a token. -/
def openOf (pre : List Tok) : Bool := match pre.getLast? with | some t => t.kind != 4 | none => false
theorem openOf_snoc (pre : List Tok) (t : Tok) : openOf (pre ++ [t]) = (t.kind != 4) := by simp [openOf]
end Go.Proofs.YtmfdpnjgljlkbaaDoor

namespace Go.Proofs.YtmfdpnjgljlkbaaDoor

theorem extract_all (s : ByteArray) : s.extract 0 s.size = s := by simp
theorem clsAt_get {s : ByteArray} {k : Nat} (h : k < s.size) : clsAt s k = cls s[k].toNat := by unfold clsAt; rw [dif_pos h]

theorem one_word {s : ByteArray} (h0 : 0 < s.size) (hc : cls s[0].toNat = 3) (hr : runTo goes s 1 = s.size) : toks s = [⟨1, s, 0⟩, ⟨4, ByteArray.empty, s.size⟩] := by
  have ht : tokTo s 0 = s.size := by unfold tokTo; rw [clsAt_get h0, if_pos hc]; exact hr
  have ha : tokAt s 0 = ⟨1, s, 0⟩ := by unfold tokAt; rw [ht, clsAt_get h0, hc, extract_all]; rfl
  rw [toks_rest, rest_tok false h0 (by omega) (by omega) (by omega), ha, ht, rest_end]; rfl
theorem one_num {s : ByteArray} (h0 : 0 < s.size) (hc : cls s[0].toNat = 4) (hr : runTo isDig s 1 = s.size) : toks s = [⟨2, s, 0⟩, ⟨4, ByteArray.empty, s.size⟩] := by
  have ht : tokTo s 0 = s.size := by unfold tokTo; rw [clsAt_get h0, if_neg (by omega), if_pos hc]; exact hr
  have ha : tokAt s 0 = ⟨2, s, 0⟩ := by unfold tokAt; rw [ht, clsAt_get h0, hc, extract_all]; rfl
  rw [toks_rest, rest_tok false h0 (by omega) (by omega) (by omega), ha, ht, rest_end]; rfl

/-- What a name, a register and a keyword have in common. -/
def wordy (s : ByteArray) : Bool := if h : 0 < s.size then decide (s.size ≤ 16) && cls s[0].toNat == 3 && runTo goes s 1 == s.size else false
theorem wordy_toks {s : ByteArray} (h : wordy s = true) : toks s = [⟨1, s, 0⟩, ⟨4, ByteArray.empty, s.size⟩] ∧ lexBad s = none := by
  unfold wordy at h
  split at h
  · rename_i h0
    simp only [Bool.and_eq_true, decide_eq_true_eq, beq_iff_eq] at h
    obtain ⟨⟨h1, h2⟩, h3⟩ := h
    have ht := one_word h0 h2 h3
    refine ⟨ht, ?_⟩
    unfold lexBad
    rw [if_neg (by omega), ht]
    have : ¬ 16 < s.size := by omega
    simp [firstBad, faultOf, this]
  · cases h
theorem name_wordy {s : ByteArray} (h : nameOk s = true) : wordy s = true := by
  unfold nameOk at h; unfold wordy
  split at h
  · rename_i hs
    rw [dif_pos (by omega)]
    simp only [Bool.and_eq_true] at h
    obtain ⟨⟨⟨h1, _⟩, h3⟩, _⟩ := h
    simp only [Bool.and_eq_true, decide_eq_true_eq]
    exact ⟨⟨hs.2, h1⟩, h3⟩
  · cases h
theorem isDig_goes {n : Int} (h : isDig n = true) : goes n = true := by unfold isDig at h; unfold goes; simp [h]
theorem reg_shape {s : ByteArray} (h : regOk s = true) : ∃ hs : s.size = 2, (s[0].toNat : Int) = 114 ∧ isDig s[1].toNat = true := by
  unfold regOk at h
  split at h
  · rename_i hs
    simp only [Bool.and_eq_true, beq_iff_eq, decide_eq_true_eq] at h
    exact ⟨hs, h.1.1, isDig_iff.2 ⟨h.1.2, by omega⟩⟩
  · cases h
theorem reg_wordy {s : ByteArray} (h : regOk s = true) : wordy s = true := by
  obtain ⟨hs, h0, h1⟩ := reg_shape h
  unfold wordy
  rw [dif_pos (by omega), h0, runTo_step (by omega) (isDig_goes h1), runTo_end (by omega), hs]
  rfl
theorem kept_mem {s : ByteArray} (h : kept s = true) : s.toList ∈ keptL := by
  unfold kept at h; simpa using h
def keptChk (l : List UInt8) : Bool := wordy ⟨l.toArray⟩ && !regOk ⟨l.toArray⟩ && !numOk ⟨l.toArray⟩
theorem kept_all : keptL.all keptChk = true := by decide +kernel
theorem kept_chk {s : ByteArray} (h : kept s = true) : wordy s = true ∧ regOk s = false ∧ numOk s = false := by
  have h1 := List.all_eq_true.1 kept_all _ (kept_mem h)
  have h2 : (⟨s.toList.toArray⟩ : ByteArray) = s := eq_of_toList (by rw [toList_data])
  unfold keptChk at h1
  rw [h2] at h1
  simp only [Bool.and_eq_true, Bool.not_eq_true'] at h1
  exact ⟨h1.1.1, h1.1.2, h1.2⟩
theorem num_shape {s : ByteArray} (h : numOk s = true) : ∃ hs : 1 ≤ s.size ∧ s.size ≤ 3, isDig s[0].toNat = true ∧ runTo isDig s 1 = s.size := by
  have h' := h
  unfold numOk at h
  split at h
  · rename_i hs
    simp only [Bool.and_eq_true, beq_iff_eq] at h
    have hr := h.1.2
    have hd : isDig s[0].toNat = true := by
      cases hd : isDig s[0].toNat with
      | true => rfl
      | false => rw [runTo_stop (by omega) hd] at hr; omega
    rw [runTo_step (by omega) hd] at hr
    exact ⟨hs, hd, hr⟩
  · cases h
theorem num_toks {s : ByteArray} (h : numOk s = true) : toks s = [⟨2, s, 0⟩, ⟨4, ByteArray.empty, s.size⟩] ∧ lexBad s = none := by
  obtain ⟨hs, h0, h1⟩ := num_shape h
  have hc : cls s[0].toNat = 4 := by unfold isDig at h0; simpa using h0
  have ht := one_num (by omega) hc h1
  refine ⟨ht, ?_⟩
  unfold lexBad
  rw [if_neg (by omega), ht]
  simp [firstBad, faultOf, h]
theorem wordy_num {s : ByteArray} (h : wordy s = true) : numOk s = false := by
  cases hn : numOk s with
  | false => rfl
  | true =>
    obtain ⟨hs, h0, h1⟩ := num_shape hn
    have hc : cls s[0].toNat = 4 := by unfold isDig at h0; simpa using h0
    unfold wordy at h
    rw [dif_pos (by omega)] at h
    simp [hc] at h
theorem name_reg {s : ByteArray} (h : nameOk s = true) : regOk s = false := by
  cases hr : regOk s with
  | false => rfl
  | true =>
    obtain ⟨hs, h0, h1⟩ := reg_shape hr
    have ht : tailDig s = true := by
      unfold tailDig; rw [runTo_step (by omega) h1, runTo_end (by omega), hs]; rfl
    unfold nameOk at h
    rw [dif_pos (by omega)] at h
    simp [h0, ht, hs] at h
theorem name_kept {s : ByteArray} (h : nameOk s = true) : kept s = false := by
  unfold nameOk at h
  split at h
  · simp only [Bool.and_eq_true, Bool.not_eq_true'] at h
    exact h.1.1.2
  · cases h
theorem reg_kept {s : ByteArray} (h : regOk s = true) : kept s = false := by
  cases hk : kept s with
  | false => rfl
  | true => rw [(kept_chk hk).2.1] at h; cases h
end Go.Proofs.YtmfdpnjgljlkbaaDoor
