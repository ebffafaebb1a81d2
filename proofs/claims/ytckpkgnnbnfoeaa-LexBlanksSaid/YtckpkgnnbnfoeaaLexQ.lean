/-
  Plain Lean: the tokens of a source. Nothing of the program. Conditions: none.
-/
import Derived.Test.YtckpkgnnbnfoeaaLexD
namespace Go.Proofs.Ytckpkgnnbnfoeaa

structure Tok where
  kind : Nat
  text : ByteArray
  pos : Nat

def tokKind (c : Int) : Nat := if c = 3 then 1 else if c = 4 then 2 else 3
/-- The class of the byte at k; that of no byte behind the end. -/
def clsAt (s : ByteArray) (k : Nat) : Int := if h : k < s.size then cls s[k].toNat else 2
def tokTo (s : ByteArray) (k : Nat) : Nat := if clsAt s k = 3 then wordTo s k else if clsAt s k = 4 then numTo s k else signTo s k
def tokAt (s : ByteArray) (k : Nat) : Tok := ⟨tokKind (clsAt s k), s.extract k (tokTo s k), k⟩

theorem passTo_ge (s : ByteArray) (k : Nat) : k ≤ passTo s k := by
  unfold passTo; simp only
  have h1 := runTo_ge (fun n => cls n == 1) s k
  split
  · split
    · exact Nat.le_trans h1 (runTo_ge _ _ _)
    · exact h1
  · exact h1
theorem passTo_le (s : ByteArray) (k : Nat) (h : k ≤ s.size) : passTo s k ≤ s.size := by
  unfold passTo; simp only
  have h1 := runTo_le (fun n => cls n == 1) s k h
  split
  · split
    · exact runTo_le _ _ _ h1
    · exact h1
  · exact h1
theorem signTo_le (s : ByteArray) (k : Nat) (h : k < s.size) : signTo s k ≤ s.size := by
  unfold signTo
  by_cases h' : isEq2 s k = true
  · rw [if_pos h']
    by_cases hh : k + 1 < s.size
    · omega
    · rw [isEq2, dif_neg hh] at h'; cases h'
  · rw [if_neg h']; omega
theorem tokTo_le (s : ByteArray) (k : Nat) (h : k < s.size) : tokTo s k ≤ s.size := by
  unfold tokTo; split
  · exact runTo_le _ _ _ h
  · split
    · exact runTo_le _ _ _ h
    · exact signTo_le s k h
theorem tokTo_gt (s : ByteArray) (k : Nat) : k < tokTo s k := by
  unfold tokTo; split
  · exact runTo_ge _ _ _
  · split
    · exact runTo_ge _ _ _
    · unfold signTo; split <;> omega

/-- The next token from offset k on, 'open': the line has a token; with what follows it. -/
def nextT (s : ByteArray) : Nat → Nat → Bool → Option Tok × Nat × Bool
  | 0, k, o => (none, k, o)
  | f + 1, k, o =>
    if clsAt s (passTo s k) ≠ 2 then (some (tokAt s (passTo s k)), tokTo s (passTo s k), true)
    else if o then (some ⟨4, ByteArray.empty, passTo s k⟩, min (passTo s k + 1) s.size, false)
    else if s.size ≤ passTo s k then (none, min (passTo s k + 1) s.size, false)
    else nextT s f (passTo s k + 1) false

theorem clsAt_lt {s : ByteArray} {k : Nat} (h : clsAt s k ≠ 2) : k < s.size := by
  unfold clsAt at h; split at h
  · assumption
  · exact absurd rfl h
def faultOf (t : Tok) : Int :=
  if t.kind = 1 then (if 16 < t.text.size then 42 else 0)
  else if t.kind = 2 then (if numOk t.text then 0 else 41)
  else if t.kind = 3 then (if clsAt t.text 0 = 6 then 0 else 40)
  else 0

theorem tl_loop (s : ByteArray) : ∀ (n i : Nat) (r : List UInt8), s.size - i = n → ByteArray.toList.loop s i r = r.reverse ++ s.data.toList.drop i := by
  intro n
  induction n with
  | zero => intro i r h; unfold ByteArray.toList.loop; rw [if_neg (by omega), List.drop_eq_nil_of_le (by simp; show s.size ≤ i; omega)]; simp
  | succ n ih =>
    intro i r h
    unfold ByteArray.toList.loop
    have hi : i < s.data.toList.length := by simp; show i < s.size; omega
    rw [if_pos (by omega), ih (i+1) _ (by omega), List.drop_eq_getElem_cons hi]
    have : s.get! i = s.data.toList[i] := by
      simp [ByteArray.get!, Array.getElem!_eq_getD]
      rw [Array.getElem?_eq_getElem (by simpa using hi)]; rfl
    simp [this]
theorem toList_data (s : ByteArray) : s.toList = s.data.toList := by
  unfold ByteArray.toList; rw [tl_loop s _ 0 [] rfl]; simp
theorem toList_nil {s : ByteArray} (h : s.size = 0) : s.toList = [] := by
  rw [toList_data]; exact List.eq_nil_of_length_eq_zero (by simpa using h)
theorem toList_ne {s : ByteArray} (h : 0 < s.size) : ¬ s.toList = [] := by
  rw [toList_data]; intro h'
  have h2 : s.data.toList.length = 0 := by rw [h']; rfl
  have h3 : s.data.size = 0 := by simpa using h2
  have h4 : s.size = 0 := h3
  omega
theorem toList_isEmpty {s : ByteArray} (h : 0 < s.size) : s.toList.isEmpty = false := by
  cases hl : s.toList with
  | nil => exact absurd hl (toList_ne h)
  | cons => rfl
theorem data_length (s : ByteArray) : s.data.toList.length = s.size := by simp
theorem data_get {s : ByteArray} {i : Nat} (h : i < s.size) : s.data.toList[i]'(by rw [data_length]; exact h) = s[i] := rfl
theorem eq_of_toList {a b : ByteArray} (h : a.toList = b.toList) : a = b := by
  rw [toList_data, toList_data] at h
  exact ByteArray.ext (Array.ext' h)
end Go.Proofs.Ytckpkgnnbnfoeaa
