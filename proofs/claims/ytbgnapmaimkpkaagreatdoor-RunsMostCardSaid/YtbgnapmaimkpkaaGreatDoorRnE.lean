/-
  Plain Lean: a search whose states are given, as numbers; it finds what the search finds. Conditions: none.
-/
import Derived.Test.YtbgnapmaimkpkaaGreatDoorRnQ
set_option linter.unusedSimpArgs false
set_option linter.unusedVariables false
namespace Go.Proofs.YtbgnapmaimkpkaaGreatDoor

def ofN (n : Nat) : By := fun i => if i < 142 then UInt8.ofNat (n / 256 ^ i % 256) else 0
theorem ofN_tidy (n : Nat) : Tidy (ofN n) := fun i hi => if_neg (by omega)
def visitC (p : Prg) (m : UInt8) (most k : Nat) (L : List Nat) (s : By) : List Pss → Nat → List (Int × Pss) → Option (Nat × List (Int × Pss))
  | [], n, q => some (n, q)
  | x :: r, n, q => if (L.take n).any (fun y => same 142 (stepM p m s x) (ofN y)) = true then visitC p m most k L s r n q
    else if most ≤ n then none
    else match L[n]? with
      | none => none
      | some y => if same 142 (stepM p m s x) (ofN y) = true then visitC p m most k L s r (n + 1) (q ++ [((k : Int), x)]) else none
def searchC (p : Prg) (m : UInt8) (most : Nat) (L : List Nat) : Nat → Nat → Nat → List (Int × Pss) → List Nat → Option (Nat × List (Int × Pss) × List Nat)
  | 0, _, n, q, e => some (n, q, e)
  | f + 1, k, n, q, e => if n ≤ k then some (n, q, e) else match L[k]? with
    | none => none
    | some y => match visitC p m most k L (ofN y) (movesM p m (ofN y)) n q with
      | none => none
      | some (n', q') => searchC p m most L f (k + 1) n' q' (if (movesM p m (ofN y)).isEmpty then e ++ [k] else e)
theorem visitC_ok {p : Prg} {m : UInt8} {most k : Nat} {L : List Nat} {s : By} (hs : Fine p m s) : ∀ (r : List Pss) (n : Nat) (q : List (Int × Pss)) (n' : Nat) (q' : List (Int × Pss)), visitC p m most k L s r n q = some (n', q') → n ≤ L.length → (∀ y ∈ L.take n, Fine p m (ofN y)) → (∀ x ∈ r, x ∈ movesM p m s) →
    visitR p m most k s r ((L.take n).map ofN) q = some ((L.take n').map ofN, q') ∧ n' ≤ L.length ∧ n ≤ n' ∧ (∀ y ∈ L.take n', Fine p m (ofN y))
  | [], n, q, n', q', h, hn, hF, _ => by
    simp only [visitC, Option.some.injEq, Prod.mk.injEq] at h
    obtain ⟨rfl, rfl⟩ := h
    exact ⟨rfl, hn, Nat.le_refl _, hF⟩
  | x :: r, n, q, n', q', h, hn, hF, hr => by
    have hz := hs.step (hr x (by simp))
    have ein : isIn ((L.take n).map ofN) (stepM p m s x) = (L.take n).any (fun y => same 142 (stepM p m s x) (ofN y)) := by
      unfold isIn
      rw [List.any_map]; rfl
    have elen : ((L.take n).map ofN).length = n := by rw [List.length_map, List.length_take]; omega
    rw [visitC] at h
    rw [visitR, ein, elen]
    split at h
    · rename_i hc
      rw [if_pos hc]
      exact visitC_ok hs r n q n' q' h hn hF (fun y hy => hr y (by simp [hy]))
    · rename_i hc
      rw [if_neg hc]
      split at h
      · cases h
      · rename_i hm
        rw [if_neg hm]
        split at h
        · cases h
        · rename_i y hy
          split at h
          · rename_i hsame
            have e : stepM p m s x = ofN y := (tidy_eq hz.t (ofN_tidy y)).1 hsame
            have hnl := (List.getElem?_eq_some_iff.1 hy).1
            have et : L.take (n + 1) = L.take n ++ [y] := by rw [List.take_add_one, hy]; rfl
            have := visitC_ok hs r (n + 1) _ n' q' h (by omega) (fun w hw => by
              rw [et] at hw
              rcases List.mem_append.1 hw with h1 | h1
              · exact hF w h1
              · obtain rfl : w = y := by simpa using h1
                rw [← e]; exact hz) (fun y hy => hr y (by simp [hy]))
            rw [et, List.map_append] at this
            obtain ⟨h1, h2, h3, h4⟩ := this
            refine ⟨?_, h2, by omega, h4⟩
            rw [e]; exact h1
          · cases h
theorem searchC_ok {p : Prg} {m : UInt8} {most : Nat} {L : List Nat} : ∀ (f k n : Nat) (q : List (Int × Pss)) (e : List Nat) (n' : Nat) (q' : List (Int × Pss)) (e' : List Nat), searchC p m most L f k n q e = some (n', q', e') → n ≤ L.length → (∀ y ∈ L.take n, Fine p m (ofN y)) →
    searchR p m most f k ⟨(L.take n).map ofN, q, e⟩ = some ⟨(L.take n').map ofN, q', e'⟩
  | 0, k, n, q, e, n', q', e', h, hn, hF => by
    simp only [searchC, Option.some.injEq, Prod.mk.injEq] at h
    obtain ⟨rfl, rfl, rfl⟩ := h
    rfl
  | f + 1, k, n, q, e, n', q', e', h, hn, hF => by
    rw [searchC] at h
    split at h
    · rename_i hk
      simp only [Option.some.injEq, Prod.mk.injEq] at h
      obtain ⟨rfl, rfl, rfl⟩ := h
      rw [searchR, List.getElem?_eq_none (by rw [List.length_map, List.length_take]; omega)]
    · rename_i hk
      split at h
      · cases h
      · rename_i y hy
        have hk2 : ((L.take n).map ofN)[k]? = some (ofN y) := by
          rw [List.getElem?_map, List.getElem?_take_of_lt (by omega), hy]; rfl
        have hFy := hF y (by
          rw [List.mem_iff_getElem?]
          exact ⟨k, by rw [List.getElem?_take_of_lt (by omega), hy]⟩)
        split at h
        · cases h
        · rename_i n2 q2 hv
          obtain ⟨h1, h2, h3, h4⟩ := visitC_ok hFy _ _ _ _ _ hv hn hF (fun x hx => hx)
          rw [searchR]
          simp only [hk2]
          simp only [h1]
          have := searchC_ok f (k + 1) n2 q2 _ n' q' e' h h2 h4
          rw [← this]
          congr 2
          by_cases hm : movesM p m (ofN y) = []
          · simp [hm]
          · have : (movesM p m (ofN y)).isEmpty = false := by simpa using hm
            simp [hm]
theorem reachC {p : Prg} {m : UInt8} {most : Nat} {L : List Nat} {y0 n : Nat} {q : List (Int × Pss)} {e : List Nat} (hp : rightErr p = 0) (hm : knownM m = true) (hy : L[0]? = some y0) (h0 : same 142 (startP p) (ofN y0) = true) (h : searchC p m most L (most + 1) 0 1 [(-1, ⟨0, false, 0⟩)] [] = some (n, q, e)) : reachR p m most = some ⟨(L.take n).map ofN, q, e⟩ := by
  have hF := fine_start (p := p) hp hm
  have e0 : startP p = ofN y0 := (tidy_eq hF.t (ofN_tidy y0)).1 h0
  have et : L.take 1 = [y0] := by
    cases L with
    | nil => cases hy
    | cons a r => cases hy; rfl
  have := searchC_ok (most + 1) 0 1 _ [] n q e h (by have := (List.getElem?_eq_some_iff.1 hy).1; omega) (fun y hy => by
    rw [et] at hy
    obtain rfl : y = y0 := by simpa using hy
    rw [← e0]; exact hF)
  rw [et] at this
  unfold reachR firstR
  rw [e0]; exact this
end Go.Proofs.YtbgnapmaimkpkaaGreatDoor
