/-
  Plain Lean: how far runs of bytes go, where a word, a number, a sign ends. Nothing of the program. Conditions: none.
-/
import Derived.Test.YtckpkgnnbnfoeaaBase
namespace Go.Proofs.Ytckpkgnnbnfoeaa

def cls (n : Int) : Int :=
  if 97 ≤ n ∧ n ≤ 122 ∨ 65 ≤ n ∧ n ≤ 90 then 3
  else if 48 ≤ n ∧ n ≤ 57 then 4
  else if n = 32 ∨ n = 9 then 1
  else if n = 10 then 2
  else if n = 95 then 5
  else if n = 35 then 7
  else if n = 61 ∨ n = 43 ∨ n = 45 ∨ n = 94 ∨ n = 38 ∨ n = 124 ∨ n = 33 ∨ n = 40 ∨ n = 41 ∨ n = 58 ∨ n = 60 then 6
  else 0

def goes (n : Int) : Bool := cls n == 3 || cls n == 4 || cls n == 5

/-- From index i on, over at most f bytes: the first index at which p does not hold. -/
def ext (p : Int → Bool) (s : ByteArray) : Nat → Nat → Nat
  | 0, i => i
  | f + 1, i => if h : i < s.size then (if p s[i].toNat then ext p s f (i + 1) else i) else i

def runTo (p : Int → Bool) (s : ByteArray) (i : Nat) : Nat := ext p s (s.size - i) i

theorem runTo_end {p : Int → Bool} {s : ByteArray} {i : Nat} (h : s.size ≤ i) : runTo p s i = i := by
  unfold runTo; rw [Nat.sub_eq_zero_of_le h]; rfl
theorem runTo_step {p : Int → Bool} {s : ByteArray} {i : Nat} (h : i < s.size) (hp : p s[i].toNat = true) : runTo p s i = runTo p s (i + 1) := by
  unfold runTo
  obtain ⟨f, hf⟩ : ∃ f, s.size - i = f + 1 := ⟨s.size - i - 1, by omega⟩
  rw [hf, show s.size - (i + 1) = f from by omega]
  simp [ext, h, hp]
theorem runTo_stop {p : Int → Bool} {s : ByteArray} {i : Nat} (h : i < s.size) (hp : p s[i].toNat = false) : runTo p s i = i := by
  unfold runTo
  obtain ⟨f, hf⟩ : ∃ f, s.size - i = f + 1 := ⟨s.size - i - 1, by omega⟩
  rw [hf]
  simp [ext, h, hp]
theorem ext_ge (p : Int → Bool) (s : ByteArray) : ∀ f i, i ≤ ext p s f i
  | 0, i => Nat.le_refl _
  | f + 1, i => by
    unfold ext; split
    · split
      · exact Nat.le_trans (by omega) (ext_ge p s f (i + 1))
      · exact Nat.le_refl _
    · exact Nat.le_refl _
theorem ext_le (p : Int → Bool) (s : ByteArray) : ∀ f i, i ≤ s.size → ext p s f i ≤ s.size
  | 0, i, h => h
  | f + 1, i, h => by
    unfold ext; split
    · split
      · exact ext_le p s f (i + 1) (by omega)
      · exact h
    · exact h
theorem runTo_ge (p : Int → Bool) (s : ByteArray) (i : Nat) : i ≤ runTo p s i := ext_ge _ _ _ _
theorem runTo_le (p : Int → Bool) (s : ByteArray) (i : Nat) (h : i ≤ s.size) : runTo p s i ≤ s.size := ext_le _ _ _ _ h

/-- Beyond blanks and a comment. -/
def passTo (s : ByteArray) (k : Nat) : Nat :=
  let j := runTo (fun n => cls n == 1) s k
  if h : j < s.size then (if cls s[j].toNat == 7 then runTo (fun n => cls n != 2) s j else j) else j
def wordTo (s : ByteArray) (k : Nat) : Nat := runTo goes s (k + 1)
def isDig (n : Int) : Bool := cls n == 4
def numTo (s : ByteArray) (k : Nat) : Nat := runTo isDig s (k + 1)
def isEq2 (s : ByteArray) (k : Nat) : Bool :=
  if h : k + 1 < s.size then ((s[k].toNat : Int) == 61 || (s[k].toNat : Int) == 33) && (s[k + 1].toNat : Int) == 61 else false
def signTo (s : ByteArray) (k : Nat) : Nat := if isEq2 s k then k + 2 else k + 1

theorem isDig_iff {n : Int} : isDig n = true ↔ 48 ≤ n ∧ n ≤ 57 := by
  unfold isDig cls; rw [beq_iff_eq]
  constructor
  · intro h; repeat' split at h
    all_goals omega
  · intro h; rw [if_neg (by omega), if_pos h]

def keptL : List (List UInt8) := [[116, 101, 115, 116], [105, 110, 105, 116], [116, 104, 114, 101, 97, 100], [115, 111, 109, 101], [110, 111, 110, 101], [97, 108, 108], [97, 99, 113], [114, 101, 108], [115, 119, 97, 112], [102, 101, 116, 99, 104], [99, 97, 115], [102, 101, 110, 99, 101], [108, 111, 97, 100, 115], [115, 116, 111, 114, 101, 115], [115, 107, 105, 112], [105, 102], [116, 114, 117, 101]]
def kept (s : ByteArray) : Bool := keptL.any (s.toList == ·)

/-- The value of the first i bytes as decimal digits. -/
def valTo (s : ByteArray) : Nat → Nat
  | 0 => 0
  | i + 1 => 10 * valTo s i + (if h : i < s.size then s[i].toNat - 48 else 0)
def numOk (s : ByteArray) : Bool :=
  if h : 1 ≤ s.size ∧ s.size ≤ 3 then !((s[0].toNat : Int) == 48 && decide (1 < s.size)) && runTo isDig s 0 == s.size && decide (valTo s s.size ≤ 255) else false
def numV (s : ByteArray) : Nat := if numOk s then valTo s s.size else 0

theorem valTo_succ {s : ByteArray} {i : Nat} (h : i < s.size) (hd : isDig s[i].toNat = true) : (valTo s (i + 1) : Int) = 10 * (valTo s i : Int) + ((s[i].toNat : Int) - 48) := by
  have := isDig_iff.1 hd
  rw [valTo, dif_pos h]; omega

def regOk (s : ByteArray) : Bool := if h : s.size = 2 then (s[0].toNat : Int) == 114 && decide (48 ≤ (s[1].toNat : Int)) && decide ((s[1].toNat : Int) ≤ 55) else false
def regV (s : ByteArray) : Int := if h : s.size = 2 then (if regOk s then (s[1].toNat : Int) - 48 else 0) else 0

/-- How many of the bytes 1 to i - 1 are digits. -/
def digs (s : ByteArray) : Nat → Nat
  | 0 => 0
  | i + 1 => digs s i + (if h : 0 < i ∧ i < s.size then (if isDig s[i].toNat then 1 else 0) else 0)
theorem digs_le (s : ByteArray) : ∀ i, digs s i ≤ i - 1
  | 0 => Nat.le_refl _
  | 1 => by simp [digs]
  | i + 2 => by
    have := digs_le s (i + 1)
    rw [digs]; split
    · split <;> omega
    · omega
theorem digs_all (s : ByteArray) : ∀ f i, 1 ≤ i → i + f = s.size → ((runTo isDig s i = s.size ∧ digs s i = i - 1) ↔ digs s s.size = s.size - 1)
  | 0, i, h1, hi => by
    have : i = s.size := by omega
    subst this; rw [runTo_end (Nat.le_refl _)]; simp
  | f + 1, i, h1, hi => by
    have ih := digs_all s f (i + 1) (by omega) (by omega)
    have hl : i < s.size := by omega
    by_cases hd : isDig s[i].toNat = true
    · rw [runTo_step hl hd]
      have : digs s (i + 1) = digs s i + 1 := by rw [digs, dif_pos ⟨by omega, hl⟩, if_pos hd]
      rw [← ih, this]
      have := digs_le s i
      constructor
      · rintro ⟨a, b⟩; exact ⟨a, by omega⟩
      · rintro ⟨a, b⟩; exact ⟨a, by omega⟩
    · have hd' : isDig s[i].toNat = false := by simpa using hd
      rw [runTo_stop hl hd']
      have : digs s (i + 1) = digs s i := by rw [digs, dif_pos ⟨by omega, hl⟩, if_neg hd]; rfl
      have := digs_le s i
      rw [← ih]
      constructor
      · rintro ⟨a, b⟩; omega
      · rintro ⟨a, b⟩; omega
/-- All bytes from the second on are digits. -/
def tailDig (s : ByteArray) : Bool := runTo isDig s 1 == s.size
theorem tailDig_iff {s : ByteArray} (h : 1 ≤ s.size) : tailDig s = (digs s s.size == s.size - 1) := by
  have := digs_all s (s.size - 1) 1 (Nat.le_refl _) (by omega)
  have h0 : digs s 1 = 0 := by simp [digs]
  rw [h0] at this
  unfold tailDig
  rw [Bool.eq_iff_iff, beq_iff_eq, beq_iff_eq, ← this]
  simp
def nameOk (s : ByteArray) : Bool :=
  if h : 1 ≤ s.size ∧ s.size ≤ 16 then cls s[0].toNat == 3 && !kept s && runTo goes s 1 == s.size && !((s[0].toNat : Int) == 114 && decide (1 < s.size) && tailDig s) else false
end Go.Proofs.Ytckpkgnnbnfoeaa
