/-
  What Lex answers, read as tokens. Conditions: none.
-/
import Derived.Test.YtbdjlmdejlklkaaLexK
import Derived.Test.YtbdjlmdejlklkaaTypeB
set_option linter.unusedSimpArgs false
set_option linter.unusedVariables false
namespace Go.Proofs.Ytbdjlmdejlklkaa
open Go.RowKit

theorem cellsOf_get (ts : List Tok) : ∀ (j : Nat) (t : Tok), ts[j]? = some t → ∀ i, i < 3 → (cellsOf ts)[j * 3 + i]? = t.cells[i]? := by
  induction ts with
  | nil => simp
  | cons u r ih =>
    intro j t hj i hi
    have hc : cellsOf (u :: r) = u.cells ++ cellsOf r := by simp [cellsOf]
    have hl : u.cells.length = 3 := rfl
    rw [hc]
    cases j with
    | zero =>
      simp only [List.getElem?_cons_zero, Option.some.injEq] at hj
      subst hj
      rw [List.getElem?_append_left (by rw [hl]; omega)]; simp
    | succ j =>
      rw [List.getElem?_append_right (by rw [hl]; omega), hl]
      rw [show (j + 1) * 3 + i - 3 = j * 3 + i from by omega]
      exact ih j t (by simpa using hj) i hi
theorem cellsOf_len (ts : List Tok) : (cellsOf ts).length = ts.length * 3 := by
  induction ts with
  | nil => rfl
  | cons u r ih => simp [cellsOf, Tok.cells] at ih ⊢; omega

def ups (ts : List Tok) : List AT := ts.map Tok.up
theorem tokRead_owns {w : World} {base : Nat} {sv : Value} {ts : List Tok} (h : w.ownsRow base 69 3 sv ts.length (cellsOf ts)) : TokRead w sv (ups ts) := by
  by_cases h0 : ts = []
  · subst h0
    obtain ⟨_, h2⟩ := h
    refine .inl ⟨rfl, ?_⟩
    rcases h2 with ⟨h2, _⟩ | ⟨g, cap, cur, h2, _⟩
    · exact ⟨none, 0, h2⟩
    · exact ⟨_, _, h2⟩
  · obtain ⟨g, cap, hv⟩ : ∃ g cap, sv = .slice (some ⟨g, 0, none⟩) ts.length cap := by
      rcases h.2 with ⟨_, h2⟩ | ⟨g, cap, cur, h2, _⟩
      · exact absurd (List.length_eq_zero_iff.1 h2) h0
      · exact ⟨g, cap, h2⟩
    subst hv
    refine .inr ⟨g, 0, cap, by simp [ups], ?_⟩
    intro j t ht
    unfold ups at ht
    rw [List.getElem?_map] at ht
    obtain ⟨u, hu, rfl⟩ := Option.map_eq_some_iff.1 ht
    have hj : j < ts.length := (List.getElem?_eq_some_iff.1 hu).1
    have c := fun i (hi : i < 3) => (h.cellAt (j * 3 + i) (by omega)).trans (cellsOf_get ts j u hu i hi)
    simp only [Nat.zero_add]
    exact ⟨c 0 (by omega), c 1 (by omega), c 2 (by omega)⟩

/-- The tokens that Lex answers, when it answers some. -/
theorem lexPost_some {s : ByteArray} {w w' : World} {e : Ending} {ts : List Tok} {t : Tok} {r : List Tok} (h : LexPost s w e w') (hb : lexBad s = none) (ht : toks s = ts) (hne : ts = t :: r) :
    Below w.heap.size w w' ∧ ∃ b cap, e = .returned (.tuple #[.slice (some ⟨b, 0, none⟩) ts.length cap, .int .i64 0, .int .i64 0]) ∧ b < w'.heap.size ∧ TokRead w' (.slice (some ⟨b, 0, none⟩) ts.length cap) (ups ts) := by
  obtain ⟨h1, h2 | h2⟩ := h
  · obtain ⟨p, f, h3, _⟩ := h2; rw [hb] at h3; cases h3
  · obtain ⟨_, sv, he, ho, hn⟩ := h2
    rw [ht] at ho hn
    obtain ⟨g, cap, hv⟩ : ∃ g cap, sv = .slice (some ⟨g, 0, none⟩) ts.length cap := by
      rcases ho.2 with ⟨h2, _⟩ | ⟨g, cap, cur, h2, _⟩
      · rw [hne] at hn; exact absurd (hn.1 h2) (by simp)
      · exact ⟨g, cap, h2⟩
    subst hv
    exact ⟨h1, g, cap, he, (ho.lt g rfl).2, tokRead_owns ho⟩
theorem lexPost_bad {s : ByteArray} {w w' : World} {e : Ending} {p : Nat} {f : Int} (h : LexPost s w e w') (hb : lexBad s = some (p, f)) :
    e = .returned (.tuple #[.slice none 0 0, .int .i64 (p : Nat), .int .i64 f]) ∧ Below w.heap.size w w' := by
  obtain ⟨h1, h2 | h2⟩ := h
  · obtain ⟨p', f', h3, h4⟩ := h2; rw [hb] at h3; cases h3; exact ⟨h4, h1⟩
  · rw [h2.1] at hb; cases hb
end Go.Proofs.Ytbdjlmdejlklkaa
