/-
  Plain Lean: outcomes in order. Conditions: none.
-/
import Derived.Test.YtbgnapmaimkpkaaGreatDoorRnQ
set_option linter.unusedSimpArgs false
set_option linter.unusedVariables false
namespace Go.Proofs.YtbgnapmaimkpkaaGreatDoor

def toL (n : Nat) (f : By) : List UInt8 := (List.range n).map f
theorem toL_len (n : Nat) (f : By) : (toL n f).length = n := by simp [toL]
theorem toL_at {n i : Nat} {f : By} (h : i < n) : (toL n f)[i]? = some (f i) := by simp [toL, h]
theorem toL_eq {n : Nat} {f g : By} : toL n f = toL n g ↔ same n f g = true := by
  rw [same_iff]
  constructor
  · intro h i hi
    have := congrArg (fun l => l[i]?) h
    simp only [toL_at hi] at this
    exact Option.some.inj this
  · intro h
    exact List.map_congr_left fun i hi => h i (List.mem_range.1 hi)
def lexC : List UInt8 → List UInt8 → Int
  | [], [] => 0
  | [], _ :: _ => -1
  | _ :: _, [] => 1
  | a :: r, b :: q => if a < b then -1 else if b < a then 1 else lexC r q
theorem lex_self : ∀ l, lexC l l = 0
  | [] => rfl
  | a :: r => by rw [lexC, if_neg (by simp), if_neg (by simp)]; exact lex_self r
theorem lex_eq : ∀ {l q}, lexC l q = 0 → l = q
  | [], [], _ => rfl
  | [], _ :: _, h => by simp [lexC] at h
  | _ :: _, [], h => by simp [lexC] at h
  | a :: r, b :: q, h => by
    rw [lexC] at h
    split at h
    · cases h
    · split at h
      · cases h
      · rename_i h1 h2
        have : a = b := UInt8.toNat_inj.1 (by rw [UInt8.lt_iff_toNat_lt] at h1 h2; omega)
        rw [this, lex_eq h]
theorem lex_neg : ∀ l q, lexC q l = - lexC l q
  | [], [] => rfl
  | [], _ :: _ => rfl
  | _ :: _, [] => rfl
  | a :: r, b :: q => by
    rw [lexC, lexC]
    by_cases h1 : a < b
    · have h2 : ¬ b < a := fun h => by rw [UInt8.lt_iff_toNat_lt] at h h1; omega
      simp [h1, h2]
    · by_cases h2 : b < a
      · simp [h1, h2]
      · simp [h1, h2, lex_neg r q]
theorem lex_trans : ∀ {l q s}, lexC l q < 0 → lexC q s < 0 → lexC l s < 0
  | [], [], _, h, _ => by simp [lexC] at h
  | [], _ :: _, [], _, h => by simp [lexC] at h
  | [], _ :: _, _ :: _, _, _ => by simp [lexC]
  | _ :: _, [], _, h, _ => by simp [lexC] at h
  | _ :: _, _ :: _, [], _, h => by simp [lexC] at h
  | a :: r, b :: q, c :: s, h1, h2 => by
    rw [lexC] at h1 h2 ⊢
    simp only [UInt8.lt_iff_toNat_lt] at h1 h2 ⊢
    by_cases e1 : a.toNat < b.toNat
    · by_cases e2 : b.toNat < c.toNat
      · rw [if_pos (by omega)]; decide
      · rw [if_neg e2] at h2
        by_cases e3 : c.toNat < b.toNat
        · rw [if_pos e3] at h2; exact absurd h2 (by decide)
        · rw [if_pos (by omega)]; decide
    · rw [if_neg e1] at h1
      by_cases e4 : b.toNat < a.toNat
      · rw [if_pos e4] at h1; exact absurd h1 (by decide)
      · rw [if_neg e4] at h1
        by_cases e2 : b.toNat < c.toNat
        · rw [if_pos (by omega)]; decide
        · rw [if_neg e2] at h2
          by_cases e3 : c.toNat < b.toNat
          · rw [if_pos e3] at h2; exact absurd h2 (by decide)
          · rw [if_neg e3] at h2
            rw [if_neg (by omega), if_neg (by omega)]
            exact lex_trans h1 h2
theorem lex_append : ∀ {l q : List UInt8} (a b : List UInt8), l.length = q.length → lexC (l ++ a) (q ++ b) = if lexC l q = 0 then lexC a b else lexC l q
  | [], [], a, b, _ => rfl
  | [], _ :: _, _, _, h => by simp at h
  | _ :: _, [], _, _, h => by simp at h
  | x :: r, y :: q, a, b, h => by
    rw [List.cons_append, List.cons_append, lexC, lexC]
    by_cases h1 : x < y
    · rw [if_pos h1, if_pos h1, if_neg (by decide)]
    · rw [if_neg h1, if_neg h1]
      by_cases h2 : y < x
      · rw [if_pos h2, if_pos h2, if_neg (by decide)]
      · rw [if_neg h2, if_neg h2]
        exact lex_append a b (by simpa using h)
def Rising (l : List (List UInt8)) : Prop := l.Pairwise fun a b => lexC a b < 0
theorem rising_unique : ∀ {l q : List (List UInt8)}, Rising l → Rising q → (∀ x, x ∈ l ↔ x ∈ q) → l = q
  | [], [], _, _, _ => rfl
  | [], b :: q, _, _, h => by have := (h b).2 (by simp); cases this
  | a :: r, [], _, _, h => by have := (h a).1 (by simp); cases this
  | a :: r, b :: q, hl, hq, h => by
    have hl' := List.pairwise_cons.1 hl
    have hq' := List.pairwise_cons.1 hq
    have hab : a = b := by
      apply Decidable.byContradiction
      intro hne
      have h1 : a ∈ q := by
        rcases List.mem_cons.1 ((h a).1 (by simp)) with e | e
        · exact absurd e hne
        · exact e
      have h2 : b ∈ r := by
        rcases List.mem_cons.1 ((h b).2 (by simp)) with e | e
        · exact absurd e.symm hne
        · exact e
      have h3 := hl'.1 b h2
      have h4 := hq'.1 a h1
      have := lex_neg a b
      omega
    subst hab
    have : r = q := rising_unique hl'.2 hq'.2 fun x => by
      have hx := h x
      constructor
      · intro hr
        rcases List.mem_cons.1 (hx.1 (by simp [hr])) with e | e
        · subst e
          have := hl'.1 x hr
          rw [lex_self] at this; omega
        · exact e
      · intro hr
        rcases List.mem_cons.1 (hx.2 (by simp [hr])) with e | e
        · subst e
          have := hq'.1 x hr
          rw [lex_self] at this; omega
        · exact e
    rw [this]
def compactL : List (List UInt8) → List (List UInt8)
  | [] => []
  | [a] => [a]
  | a :: b :: r => if a = b then compactL (b :: r) else a :: compactL (b :: r)
theorem compact_mem : ∀ {l : List (List UInt8)} {x}, x ∈ compactL l ↔ x ∈ l
  | [], x => by simp [compactL]
  | [a], x => by simp [compactL]
  | a :: b :: r, x => by
    have ih := compact_mem (l := b :: r) (x := x)
    rw [compactL]
    split
    · rename_i h
      subst h
      rw [ih]; simp
    · rw [List.mem_cons, ih, List.mem_cons (a := x) (b := a)]
theorem compact_rising : ∀ {l : List (List UInt8)}, (l.Pairwise fun a b => ¬ lexC b a < 0) → Rising (compactL l)
  | [], _ => List.Pairwise.nil
  | [a], _ => by simp [compactL, Rising]
  | a :: b :: r, h => by
    have h' := List.pairwise_cons.1 h
    have ih := compact_rising h'.2
    rw [compactL]
    split
    · exact ih
    · rename_i hne
      refine List.pairwise_cons.2 ⟨fun x hx => ?_, ih⟩
      rw [compact_mem] at hx
      have h1 := h'.1 b (by simp)
      have hab : lexC a b < 0 := by
        have := lex_neg a b
        rcases Int.lt_trichotomy (lexC a b) 0 with h2 | h2 | h2
        · exact h2
        · exact absurd (lex_eq h2) hne
        · omega
      rcases List.mem_cons.1 hx with e | e
      · subst e; exact hab
      · have h2 := (List.pairwise_cons.1 h'.2).1 x e
        have := lex_neg b x
        rcases Int.lt_trichotomy (lexC b x) 0 with h3 | h3 | h3
        · exact lex_trans hab h3
        · rw [← lex_eq h3]; exact hab
        · omega
def OutM (p : Prg) (m : UInt8) (x : List UInt8) : Prop := ∃ r z, RunM p m (startP p) r z ∧ movesM p m z = [] ∧ x = toL 38 (finalP z)
def finsR (a : Fnd) : List (List UInt8) := a.ends.map fun k => toL 38 (finalP (a.list.getD k zb))
theorem fins_iff {p : Prg} {m : UInt8} {most : Nat} {a : Fnd} (h : FndI p m most a.list.length a) {x : List UInt8} : x ∈ finsR a ↔ OutM p m x := by
  unfold finsR OutM
  rw [List.mem_map]
  constructor
  · rintro ⟨k, hk, rfl⟩
    obtain ⟨z, h1, h2, h3⟩ := end_run h hk
    exact ⟨_, z, h2, h3, by rw [List.getD_eq_getElem?_getD, h1]; rfl⟩
  · rintro ⟨r, z, h1, h2, rfl⟩
    obtain ⟨k, hk, hz, _⟩ := end_found h h1 h2
    exact ⟨k, hk, by rw [List.getD_eq_getElem?_getD, hz]; rfl⟩
end Go.Proofs.YtbgnapmaimkpkaaGreatDoor
