/-
  Plain Lean: what is left when dead code is removed: the fixed point, what is reached, places. Conditions: none.
-/
import Derived.Test.YtmfdpnjgljlkbaaDoorFoP
set_option linter.unusedSimpArgs false
set_option linter.unusedVariables false
namespace Go.Proofs.YtmfdpnjgljlkbaaDoor

theorem lgetD_some {α : Type} {l : List α} {k : Nat} {v d : α} (h : l[k]? = some v) : l.getD k d = v := by rw [List.getD_eq_getElem?_getD, h]; rfl
theorem getD_true {l : List Bool} {k : Nat} (h : l.getD k false = true) : l[k]? = some true := by
  rw [List.getD_eq_getElem?_getD] at h
  cases e : l[k]? with
  | none => rw [e] at h; cases h
  | some v => rw [e] at h; exact congrArg some h
theorem getD_set_true {l : List Bool} {i k : Nat} {v : Bool} (h : (l.set i v).getD k false = true) : (i = k ∧ v = true) ∨ l.getD k false = true := by
  have h1 := getD_true h
  rw [List.getElem?_set] at h1
  split at h1
  · rename_i e
    split at h1
    · exact .inl ⟨e, by simpa using h1⟩
    · cases h1
  · exact .inr (lgetD_some h1)
/-- What is reached. -/
inductive Reach (l : List Ins) (al : List Bool) : Nat → Prop
  | zero : Reach l al 0
  | next {i : Nat} {x : Ins} : Reach l al i → l[i]? = some x → (al.getD i false = true → x.op = 8 → wayN x = true) → Reach l al (i + 1)
  | jump {i : Nat} {x : Ins} : Reach l al i → l[i]? = some x → al.getD i false = true → x.op = 8 → wayJ x = true → Reach l al (i + 1 + x.skip.toNat)
theorem reach_sound (l : List Ins) (al : List Bool) : ∀ K k, (reachP l al K).getD k false = true → Reach l al k
  | 0, k, h => by
    cases k with
    | zero => exact .zero
    | succ k =>
      have h1 := getD_true h
      rw [reachP, List.getElem?_cons_succ, List.getElem?_replicate] at h1
      split at h1 <;> simp at h1
  | K + 1, k, h => by
    cases e : l[K]? with
    | none =>
      rw [reachP, e] at h
      exact reach_sound l al K k h
    | some x =>
      rw [reachP_at e] at h
      unfold reach1 at h
      split at h
      · exact reach_sound l al K k h
      · rename_i hr
        have hK : Reach l al K := reach_sound l al K K (by simpa using hr)
        have hq : ∀ n : Bool, (n = true → al.getD K false = true → x.op = 8 → wayN x = true) → ((reachP l al K).set (K + 1) ((reachP l al K).getD (K + 1) false || n)).getD k false = true → Reach l al k := fun n hn g => by
          rcases getD_set_true g with ⟨e1, g2⟩ | g2
          · subst e1
            rw [Bool.or_eq_true] at g2
            rcases g2 with g3 | g3
            · exact reach_sound l al K _ g3
            · exact .next hK e (hn g3)
          · exact reach_sound l al K k g2
        by_cases hc : (al.getD K false && x.op == 8) = true
        · have hc' : al.getD K false = true ∧ x.op = 8 := by simpa using hc
          simp only [hc, if_true] at h
          split at h
          · rename_i hj
            rcases getD_set_true h with ⟨rfl, _⟩ | h
            · exact .jump hK e hc'.1 hc'.2 hj
            · exact hq _ (fun h _ _ => h) h
          · exact hq _ (fun h _ _ => h) h
        · simp only [Bool.not_eq_true] at hc
          simp only [hc] at h
          refine hq true (fun _ h1 h2 => ?_) (by simpa using h)
          rw [h1, h2] at hc
          simp at hc
theorem set_keeps {l : List Bool} {i k : Nat} {v : Bool} (h : l.getD k false = true) (hv : i = k → v = true) : (l.set i v).getD k false = true := by
  have h1 := getD_true h
  have hk := (List.getElem?_eq_some_iff.1 h1).1
  apply lgetD_some
  rw [List.getElem?_set]
  split
  · rename_i e
    subst e
    rw [if_pos hk, hv rfl]
  · exact h1
def reachQ (x : Ins) (r : List Bool) (i : Nat) (n j : Bool) : List Bool := if j = true then (r.set (i + 1) (r.getD (i + 1) false || n)).set (i + 1 + x.skip.toNat) true else r.set (i + 1) (r.getD (i + 1) false || n)
theorem reach1_eq {x : Ins} {a : Bool} {r : List Bool} {i : Nat} : reach1 x a r i = if r.getD i false = false then r else reachQ x r i (if (a && x.op == 8) = true then wayN x else true) (if (a && x.op == 8) = true then wayJ x else false) := rfl
theorem reachQ_of {x : Ins} {r : List Bool} {i k : Nat} {n : Bool} (j : Bool) (h : (r.set (i + 1) (r.getD (i + 1) false || n)).getD k false = true) : (reachQ x r i n j).getD k false = true := by
  unfold reachQ
  split
  · exact set_keeps h (fun _ => rfl)
  · exact h
theorem reach1_keeps {x : Ins} {a : Bool} {r : List Bool} {i k : Nat} (h : r.getD k false = true) : (reach1 x a r i).getD k false = true := by
  have hq : ∀ n : Bool, (r.set (i + 1) (r.getD (i + 1) false || n)).getD k false = true := fun n => set_keeps h (fun e => by rw [e, h]; rfl)
  rw [reach1_eq]
  split
  · exact h
  · exact reachQ_of _ (hq _)
theorem reach_up {l : List Ins} {al : List Bool} {k a b : Nat} (hab : a ≤ b) (h : (reachP l al a).getD k false = true) : (reachP l al b).getD k false = true := by
  induction hab with
  | refl => exact h
  | @step m _ ih =>
    cases e : l[m]? with
    | none => rw [reachP, e]; exact ih
    | some x => rw [reachP_at e]; exact reach1_keeps ih
theorem reach_full {l : List Ins} {al : List Bool} (hv : ∀ i x, l[i]? = some x → x.op = 8 → i + 1 + x.skip.toNat ≤ l.length) {k : Nat} (h : Reach l al k) : k ≤ l.length ∧ ∀ K, k ≤ K → (reachP l al K).getD k false = true := by
  induction h with
  | zero => exact ⟨Nat.zero_le _, fun K hK => reach_up hK (by simp [reachP])⟩
  | @next i x _ hx hn ih =>
    have hi := (List.getElem?_eq_some_iff.1 hx).1
    refine ⟨hi, fun K hK => reach_up hK ?_⟩
    rw [reachP_at hx]
    have h0 := ih.2 i (Nat.le_refl _)
    have hl := reachP_length l al i
    rw [reach1_eq, if_neg (by rw [h0]; simp)]
    have hn' : (if (al.getD i false && x.op == 8) = true then wayN x else true) = true := by
      split
      · rename_i hc
        simp only [Bool.and_eq_true, beq_iff_eq] at hc
        exact hn hc.1 hc.2
      · rfl
    rw [hn']
    have hq : ((reachP l al i).set (i + 1) ((reachP l al i).getD (i + 1) false || true)).getD (i + 1) false = true := by
      rw [Bool.or_true]
      exact lgetD_some (by rw [List.getElem?_set_self (by omega)])
    exact reachQ_of _ hq
  | @jump i x _ hx ha h8 hj ih =>
    have hle := hv i x hx h8
    refine ⟨hle, fun K hK => reach_up (show i + 1 ≤ K by omega) ?_⟩
    rw [reachP_at hx]
    have h0 := ih.2 i (Nat.le_refl _)
    have hl := reachP_length l al i
    unfold reach1
    rw [if_neg (by rw [h0]; simp)]
    simp only [ha, h8, hj, beq_self_eq_true, Bool.and_self, if_true]
    exact lgetD_some (by rw [List.getElem?_set_self (by rw [List.length_set]; omega)])
/-- A sweep in which nothing dies. -/
theorem sweepK_still {l : List Ins} {r al : List Bool} : ∀ K, (sweepK l r al K).2 = false → (sweepK l r al K).1 = al ∧ ∀ k x, k < K → l[k]? = some x → al.getD k false = true → r.getD k false = true ∧ (x.op = 8 → idleP x al k = false)
  | 0, _ => ⟨rfl, fun k x hk => absurd hk (by omega)⟩
  | K + 1, h => by
    cases e : l[K]? with
    | none =>
      rw [sweepK, e] at h ⊢
      obtain ⟨h1, h2⟩ := sweepK_still K h
      refine ⟨h1, fun k x hk hx => ?_⟩
      rcases Nat.lt_or_ge k K with hkK | hkK
      · exact h2 k x hkK hx
      · obtain rfl : k = K := by omega
        rw [e] at hx; cases hx
    | some y =>
      rw [sweepK_at e] at h ⊢
      split at h
      · cases h
      · rename_i hc
        rw [if_neg hc]
        obtain ⟨h1, h2⟩ := sweepK_still K h
        rw [h1] at hc
        refine ⟨h1, fun k x hk hx ha => ?_⟩
        rcases Nat.lt_or_ge k K with hkK | hkK
        · exact h2 k x hkK hx ha
        · obtain rfl : k = K := by omega
          rw [e] at hx; cases hx
          rw [ha] at hc
          simp only [Bool.true_and, Bool.or_eq_true, Bool.not_eq_true', Bool.and_eq_true, beq_iff_eq, not_or, not_and, Bool.not_eq_true] at hc
          exact ⟨by cases hr : r.getD k false with | false => exact absurd hr hc.1 | true => rfl, hc.2⟩
theorem foldA_still (l : List Ins) : ∀ (n : Nat) (al : List Bool), al.length = l.length → al.count true < n → (sweepP l (foldA l n al)).2 = false ∧ (foldA l n al).length = l.length
  | 0, al, _, h => absurd h (by omega)
  | n + 1, al, hl, h => by
    unfold foldA
    split
    · rename_i hs
      exact foldA_still l n _ (by rw [sweepP_length, hl]) (by have := (sweepK_count l (reachP l al l.length) al l.length).2 hs; show (sweepK l (reachP l al l.length) al l.length).1.count true < n; omega)
    · rename_i hs
      have hs' : (sweepP l al).2 = false := by simpa using hs
      have he : (sweepP l al).1 = al := (sweepK_still l.length hs').1
      rw [he]
      exact ⟨hs', hl⟩
theorem foldAl_length (l : List Ins) : (foldAl l).length = l.length := (foldA_still l _ _ (by simp) (by simp)).2
/-- What is alive is reached, and no skip that is alive is idle. -/
theorem alive_at {l : List Ins} {k : Nat} {x : Ins} (hx : l[k]? = some x) (ha : (foldAl l).getD k false = true) : Reach l (foldAl l) k ∧ (x.op = 8 → wayJ x = true ∧ skippedP (foldAl l) k x.skip.toNat ≠ 0) := by
  have hs := (foldA_still l (l.length + 1) (List.replicate l.length true) (by simp) (by simp)).1
  have h := (sweepK_still l.length hs).2 k x (List.getElem?_eq_some_iff.1 hx).1 hx ha
  refine ⟨reach_sound _ _ _ _ h.1, fun h8 => ?_⟩
  have := h.2 h8
  simp only [idleP, Bool.or_eq_false_iff, Bool.not_eq_false', beq_eq_false_iff_ne] at this
  exact this
/-- How many of the first k are alive. -/
def rank (al : List Bool) (k : Nat) : Nat := (al.take k).count true
theorem rank_succ {al : List Bool} {k : Nat} : rank al (k + 1) = rank al k + (if al.getD k false = true then 1 else 0) := by
  unfold rank
  cases e : al[k]? with
  | none =>
    rw [List.take_add_one, e, List.getD_eq_getElem?_getD, e]
    simp
  | some v => rw [count_take e, lgetD_some e]
theorem rank_mono {al : List Bool} {a b : Nat} (h : a ≤ b) : rank al a ≤ rank al b := by
  induction h with
  | refl => exact Nat.le_refl _
  | step _ ih => rw [rank_succ]; omega
theorem rank_skip (al : List Bool) (i s : Nat) : rank al (i + 1 + s) = rank al (i + 1) + skippedP al i s := by
  unfold rank skippedP
  rw [List.take_add, List.count_append]
theorem outP_rank (l : List Ins) (al : List Bool) : ∀ k, k ≤ l.length → (outP l al k).length = rank al k
  | 0, _ => by simp [outP, rank]
  | k + 1, h => by
    have hx : l[k]? = some l[k] := List.getElem?_eq_getElem (by omega)
    rw [outP_at hx, rank_succ, ← outP_rank l al k (by omega)]
    split <;> simp
theorem outP_get (l : List Ins) (al : List Bool) : ∀ n, n ≤ l.length → ∀ k x, k < n → l[k]? = some x → al.getD k false = true → (outP l al n)[rank al k]? = some (keepI x al k)
  | 0, _, k, _, hk, _, _ => absurd hk (by omega)
  | n + 1, h, k, x, hk, hx, ha => by
    have hy : l[n]? = some l[n] := List.getElem?_eq_getElem (by omega)
    rw [outP_at hy]
    have hlen := outP_rank l al n (by omega)
    rcases Nat.lt_or_ge k n with hkn | hkn
    · have ih := outP_get l al n (by omega) k x hkn hx ha
      split
      · rw [List.getElem?_append_left (List.getElem?_eq_some_iff.1 ih).1]
        exact ih
      · exact ih
    · obtain rfl : k = n := by omega
      rw [hx] at hy
      rw [if_pos ha, ← hlen, List.getElem?_append_right (Nat.le_refl _), Nat.sub_self, List.getElem?_cons_zero, Option.some.inj hy]
/-- Each place of what is left is the place of one that is alive. -/
theorem rank_onto (al : List Bool) : ∀ n j, j < rank al n → ∃ k, k < n ∧ al.getD k false = true ∧ rank al k = j
  | 0, j, h => absurd h (by simp [rank])
  | n + 1, j, h => by
    rw [rank_succ] at h
    rcases Nat.lt_or_ge j (rank al n) with h1 | h1
    · obtain ⟨k, hk, h2, h3⟩ := rank_onto al n j h1
      exact ⟨k, by omega, h2, h3⟩
    · split at h
      · rename_i ha
        exact ⟨n, by omega, ha, by omega⟩
      · omega
end Go.Proofs.YtmfdpnjgljlkbaaDoor
