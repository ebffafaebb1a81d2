/-
  Plain Lean: the tokens of the rest of a source, byte by byte. Nothing of the program. Conditions: none.
-/
import Derived.Test.YtckpkgnnbnfoeaaLexG
namespace Go.Proofs.Ytckpkgnnbnfoeaa

theorem nextT_fuel {s : ByteArray} : ∀ {f g k o}, k ≤ s.size → s.size < f + k → s.size < g + k → nextT s f k o = nextT s g k o
  | 0, g, k, o, hk, hf, hg => by omega
  | f + 1, 0, k, o, hk, hf, hg => by omega
  | f + 1, g + 1, k, o, hk, hf, hg => by
    have h1 := passTo_ge s k
    rw [nextT, nextT]
    split
    · rfl
    · split
      · rfl
      · split
        · rfl
        · exact nextT_fuel (by omega) (by omega) (by omega)
theorem toksF_fuel {s : ByteArray} : ∀ {f g k o}, k ≤ s.size → 2 * (s.size - k) + o.toNat < f → 2 * (s.size - k) + o.toNat < g → toksF s f k o = toksF s g k o
  | 0, g, k, o, hk, hf, hg => by omega
  | f + 1, 0, k, o, hk, hf, hg => by omega
  | f + 1, g + 1, k, o, hk, hf, hg => by
    rw [toksF, toksF]
    split
    · rename_i t k' o' hn
      obtain ⟨h1, h2⟩ := nextT_le hn hk
      rw [toksF_fuel (f := f) (g := g) h1 (by omega) (by omega)]
    · rfl
/-- The tokens from offset k on. -/
def restT (s : ByteArray) (k : Nat) (o : Bool) : List Tok := toksF s (2 * (s.size - k) + o.toNat + 1) k o
theorem restT_eq {s : ByteArray} {k : Nat} {o : Bool} (hk : k ≤ s.size) : restT s k o = (match nextT s (s.size + 1) k o with | (some t, k', o') => t :: restT s k' o' | (none, _, _) => []) := by
  rcases hn : nextT s (s.size + 1) k o with ⟨_ | t, k', o'⟩
  · simp [restT, toksF, hn]
  · obtain ⟨h1, h2⟩ := nextT_le hn hk
    have e1 : restT s k o = t :: toksF s (2 * (s.size - k) + o.toNat) k' o' := by rw [restT, toksF, hn]
    rw [e1, toksF_fuel h1 h2 (Nat.lt_succ_self _)]
    rfl
theorem restT_some {s : ByteArray} {k : Nat} {o : Bool} {t : Tok} {k' : Nat} {o' : Bool} (hk : k ≤ s.size) (h : nextT s (s.size + 1) k o = (some t, k', o')) : restT s k o = t :: restT s k' o' := by
  rw [restT_eq hk, h]
theorem restT_none {s : ByteArray} {k : Nat} {o : Bool} {k' : Nat} {o' : Bool} (hk : k ≤ s.size) (h : nextT s (s.size + 1) k o = (none, k', o')) : restT s k o = [] := by
  rw [restT_eq hk, h]
theorem restT_same {s : ByteArray} {k j : Nat} {o q : Bool} (hk : k ≤ s.size) (hj : j ≤ s.size) (h : nextT s (s.size + 1) k o = nextT s (s.size + 1) j q) : restT s k o = restT s j q := by
  rw [restT_eq hk, restT_eq hj, h]
theorem toks_rest (s : ByteArray) : toks s = restT s 0 false := by
  unfold toks restT; simp

theorem passTo_blank {s : ByteArray} {k : Nat} (h : k < s.size) (hc : cls s[k].toNat = 1) : passTo s k = passTo s (k + 1) := by
  unfold passTo
  rw [runTo_step h (by simpa using hc)]
theorem passTo_here {s : ByteArray} {k : Nat} (hb : ∀ h : k < s.size, cls s[k].toNat ≠ 1 ∧ cls s[k].toNat ≠ 7) : passTo s k = k := by
  unfold passTo
  by_cases h : k < s.size
  · obtain ⟨h1, h7⟩ := hb h
    rw [runTo_stop h (by simpa using h1)]
    simp [h, h7]
  · rw [runTo_end (by omega)]; simp [h]
theorem passTo_hash {s : ByteArray} {k : Nat} (h : k < s.size) (hc : cls s[k].toNat = 7) : passTo s k = runTo (fun n => cls n != 2) s k := by
  unfold passTo
  rw [runTo_stop h (by simp [hc])]
  simp [h, hc]
theorem runTo_stop_out {p : Int → Bool} {s : ByteArray} {a : Nat} (h : runTo p s a < s.size) : p s[runTo p s a].toNat = false := by
  have key : ∀ f a, s.size ≤ a + f → ∀ h : ext p s f a < s.size, p s[ext p s f a].toNat = false := by
    intro f
    induction f with
    | zero => intro a hf h; simp only [ext] at h; omega
    | succ f ih =>
      intro a hf h
      by_cases ha : a < s.size
      · by_cases hp : p s[a].toNat = true
        · have he : ext p s (f + 1) a = ext p s f (a + 1) := by simp [ext, ha, hp]
          have := ih (a + 1) (by omega) (by rw [← he]; exact h)
          simp only [he]; exact this
        · have he : ext p s (f + 1) a = a := by simp [ext, ha, hp]
          simp only [he]; simpa using hp
      · have he : ext p s (f + 1) a = a := by simp [ext, ha]
        rw [he] at h; omega
  exact key _ a (by omega) h

theorem rest_blank {s : ByteArray} {k : Nat} (o : Bool) (h : k < s.size) (hc : cls s[k].toNat = 1) : restT s k o = restT s (k + 1) o := by
  refine restT_same (by omega) (by omega) ?_
  rw [nextT, passTo_blank h hc]
  conv => rhs; rw [nextT]
theorem rest_hash {s : ByteArray} {k : Nat} (o : Bool) (h : k < s.size) (hc : cls s[k].toNat = 7) : restT s k o = restT s (runTo (fun n => cls n != 2) s k) o := by
  refine restT_same (by omega) (runTo_le _ _ _ (by omega)) ?_
  have hj : passTo s (runTo (fun n => cls n != 2) s k) = runTo (fun n => cls n != 2) s k := passTo_here fun hh => by
    have := runTo_stop_out hh
    simp at this
    omega
  rw [nextT, passTo_hash h hc, nextT, hj]
theorem rest_nl {s : ByteArray} {k : Nat} (o : Bool) (h : k < s.size) (hc : cls s[k].toNat = 2) : restT s k o = (if o then [⟨4, ByteArray.empty, k⟩] else []) ++ restT s (k + 1) false := by
  have hp : passTo s k = k := passTo_here fun _ => by omega
  have hca : clsAt s k = 2 := by unfold clsAt; rw [dif_pos h, hc]
  cases o with
  | true =>
    rw [restT_some (t := ⟨4, ByteArray.empty, k⟩) (k' := k + 1) (o' := false) (by omega) (by rw [nextT, hp, hca]; simp; omega)]
    simp
  | false =>
    have : nextT s (s.size + 1) k false = nextT s (s.size + 1) (k + 1) false := by
      rw [nextT, hp, hca]
      simp only [ne_eq, not_true_eq_false, if_false, Bool.false_eq_true]
      rw [if_neg (by omega)]
      exact nextT_fuel (by omega) (by omega) (by omega)
    rw [restT_same (by omega) (by omega) this]
    simp
theorem rest_tok {s : ByteArray} {k : Nat} (o : Bool) (h : k < s.size) (h1 : cls s[k].toNat ≠ 1) (h2 : cls s[k].toNat ≠ 2) (h7 : cls s[k].toNat ≠ 7) : restT s k o = tokAt s k :: restT s (tokTo s k) true := by
  have hp : passTo s k = k := passTo_here fun _ => ⟨h1, h7⟩
  have hca : clsAt s k ≠ 2 := by unfold clsAt; rw [dif_pos h]; exact h2
  exact restT_some (by omega) (by rw [nextT, hp, if_pos hca])
theorem rest_end {s : ByteArray} (o : Bool) : restT s s.size o = if o then [⟨4, ByteArray.empty, s.size⟩] else [] := by
  have hp : passTo s s.size = s.size := passTo_here fun h => by omega
  have hca : clsAt s s.size = 2 := by unfold clsAt; rw [dif_neg (by omega)]
  cases o with
  | true =>
    rw [restT_some (t := ⟨4, ByteArray.empty, s.size⟩) (k' := s.size) (o' := false) (by omega) (by rw [nextT, hp, hca]; simp)]
    have : restT s s.size false = [] := restT_none (k' := s.size) (o' := false) (by omega) (by rw [nextT, hp, hca]; simp)
    rw [this]; simp
  | false =>
    exact restT_none (k' := s.size) (o' := false) (by omega) (by rw [nextT, hp, hca]; simp)

/-- Whether the line has a token. -/
def openOf (pre : List Tok) : Bool := match pre.getLast? with | some t => t.kind != 4 | none => false
theorem openOf_snoc (pre : List Tok) (t : Tok) : openOf (pre ++ [t]) = (t.kind != 4) := by simp [openOf]
end Go.Proofs.Ytckpkgnnbnfoeaa
