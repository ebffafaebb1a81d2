/-
  Plain Lean: the tokens of two sources joined by a newline. Nothing of the program. Conditions: none.
-/
import Derived.Test.YtbdjlmdejlklkaaLexK
set_option linter.unusedSimpArgs false
set_option linter.unusedVariables false
namespace Go.Proofs.Ytbdjlmdejlklkaa

theorem app_left {a c : ByteArray} {i : Nat} (h : i < a.size) : ∃ h' : i < (a ++ c).size, (a ++ c)[i] = a[i] := by
  have h' : i < (a ++ c).size := by rw [ByteArray.size_append]; omega
  refine ⟨h', ?_⟩
  exact ByteArray.getElem_append_left h
theorem app_right {a c : ByteArray} {i : Nat} (h : i < c.size) : ∃ h' : a.size + i < (a ++ c).size, (a ++ c)[a.size + i] = c[i] := by
  have h' : a.size + i < (a ++ c).size := by rw [ByteArray.size_append]; omega
  refine ⟨h', ?_⟩
  have := ByteArray.getElem_append_right (a := a) (b := c) (i := a.size + i) (h := h') (by omega)
  rw [this]
  congr 1
  omega
theorem ext_left {a c : ByteArray} {i e : Nat} (h : e ≤ a.size) : (a ++ c).extract i e = a.extract i e := by
  apply ByteArray.ext
  simp only [ByteArray.data_extract, ByteArray.data_append]
  have hs : a.size = a.data.size := rfl
  rw [Array.extract_append, Array.extract_eq_empty_of_le (i := i - a.data.size) (j := e - a.data.size)]
  · simp
  · omega
theorem ext_right {a c : ByteArray} {i e : Nat} : (a ++ c).extract (a.size + i) (a.size + e) = c.extract i e := by
  apply ByteArray.ext
  simp only [ByteArray.data_extract, ByteArray.data_append]
  have hs : a.size = a.data.size := rfl
  rw [hs, Array.extract_append, Array.extract_eq_empty_of_le (i := a.data.size + i)]
  · simp
  · omega

/-- c begins with a newline. -/
def Nl (c : ByteArray) : Prop := ∃ h : 0 < c.size, c[0].toNat = 10

variable {a c : ByteArray} {k : Nat}
theorem nl_at (hn : Nl c) : ∃ h : a.size < (a ++ c).size, (a ++ c)[a.size].toNat = 10 := by
  obtain ⟨h, h1⟩ := hn
  obtain ⟨h2, h3⟩ := app_right (a := a) h
  exact ⟨h2, by rw [← h1, ← h3]; rfl⟩
theorem runTo_pre {p : Int → Bool} (hp : p 10 = false) (hn : Nl c) : ∀ (n k : Nat), a.size - k = n → k ≤ a.size → runTo p (a ++ c) k = runTo p a k := by
  intro n
  induction n with
  | zero =>
    intro k h1 h2
    have : k = a.size := by omega
    subst this
    obtain ⟨h3, h4⟩ := nl_at (a := a) hn
    rw [runTo_end (Nat.le_refl _), runTo_stop h3 (by rw [h4]; exact hp)]
  | succ n ih =>
    intro k h1 h2
    have hk : k < a.size := by omega
    obtain ⟨h3, h4⟩ := app_left (c := c) hk
    cases hq : p a[k].toNat with
    | true => rw [runTo_step hk hq, runTo_step h3 (by rw [h4]; exact hq)]; exact ih (k + 1) (by omega) (by omega)
    | false => rw [runTo_stop hk hq, runTo_stop h3 (by rw [h4]; exact hq)]
theorem runTo_suf {p : Int → Bool} : ∀ (n k : Nat), c.size - k = n → k ≤ c.size → runTo p (a ++ c) (a.size + k) = a.size + runTo p c k := by
  intro n
  induction n with
  | zero =>
    intro k h1 h2
    rw [runTo_end (s := c) (by omega), runTo_end (by rw [ByteArray.size_append]; omega)]
  | succ n ih =>
    intro k h1 h2
    have hk : k < c.size := by omega
    obtain ⟨h3, h4⟩ := app_right (a := a) hk
    cases hq : p c[k].toNat with
    | true => rw [runTo_step hk hq, runTo_step h3 (by rw [h4]; exact hq)]; exact ih (k + 1) (by omega) (by omega)
    | false => rw [runTo_stop hk hq, runTo_stop h3 (by rw [h4]; exact hq)]
theorem clsAt_pre (hk : k < a.size) : clsAt (a ++ c) k = clsAt a k := by
  obtain ⟨h3, h4⟩ := app_left (c := c) hk
  unfold clsAt; rw [dif_pos h3, dif_pos hk, h4]
theorem clsAt_suf (hk : k < c.size) : clsAt (a ++ c) (a.size + k) = clsAt c k := by
  obtain ⟨h3, h4⟩ := app_right (a := a) hk
  unfold clsAt; rw [dif_pos h3, dif_pos hk, h4]
theorem isEq2_pre (hn : Nl c) (hk : k < a.size) : isEq2 (a ++ c) k = isEq2 a k := by
  obtain ⟨h3, h4⟩ := app_left (c := c) hk
  unfold isEq2
  by_cases h1 : k + 1 < a.size
  · obtain ⟨h5, h6⟩ := app_left (c := c) h1
    rw [dif_pos h5, dif_pos h1, h4, h6]
  · rw [dif_neg h1]
    obtain ⟨h5, h6⟩ := nl_at (a := a) hn
    have he : k + 1 = a.size := by omega
    split
    · rename_i h7
      have : (a ++ c)[k + 1].toNat = 10 := by
        rw [← h6]; simp only [he]
      rw [this]; simp
    · rfl
theorem isEq2_suf (hk : k < c.size) : isEq2 (a ++ c) (a.size + k) = isEq2 c k := by
  obtain ⟨h3, h4⟩ := app_right (a := a) hk
  unfold isEq2
  by_cases h1 : k + 1 < c.size
  · obtain ⟨h5, h6⟩ := app_right (a := a) h1
    have h5' : a.size + k + 1 < (a ++ c).size := by omega
    have h6' : (a ++ c)[a.size + k + 1] = c[k + 1] := h6
    rw [dif_pos h5', dif_pos h1, h4, h6']
  · rw [dif_neg h1, dif_neg (by rw [ByteArray.size_append]; omega)]
theorem tokTo_pre (hn : Nl c) (hk : k < a.size) : tokTo (a ++ c) k = tokTo a k := by
  unfold tokTo wordTo numTo signTo
  rw [clsAt_pre hk, isEq2_pre hn hk, runTo_pre (by rfl) hn _ _ rfl (by omega), runTo_pre (by rfl) hn _ _ rfl (by omega)]
theorem tokTo_suf (hk : k < c.size) : tokTo (a ++ c) (a.size + k) = a.size + tokTo c k := by
  unfold tokTo wordTo numTo signTo
  rw [clsAt_suf hk, isEq2_suf hk, Nat.add_assoc, runTo_suf _ _ rfl (by omega), runTo_suf _ _ rfl (by omega)]
  repeat' split
  all_goals omega
theorem tokAt_pre (hn : Nl c) (hk : k < a.size) : tokAt (a ++ c) k = tokAt a k := by
  unfold tokAt
  rw [tokTo_pre hn hk, clsAt_pre hk, ext_left (tokTo_le a k hk)]
def Tok.shift (d : Nat) (t : Tok) : Tok := ⟨t.kind, t.text, t.pos + d⟩
theorem tokAt_suf (hk : k < c.size) : tokAt (a ++ c) (a.size + k) = (tokAt c k).shift a.size := by
  unfold tokAt Tok.shift
  rw [tokTo_suf hk, clsAt_suf hk, ext_right, Nat.add_comm]
theorem rest_pre (hn : Nl c) : ∀ (n k : Nat) (o : Bool), a.size - k = n → k ≤ a.size → restT (a ++ c) k o = restT a k o ++ restT (a ++ c) (a.size + 1) false := by
  intro n
  induction n using Nat.strongRecOn with
  | ind n ih =>
    intro k o h1 h2
    by_cases hk : k < a.size
    · obtain ⟨h3, h4⟩ := app_left (c := c) hk
      by_cases c1 : cls a[k].toNat = 1
      · rw [rest_blank o hk c1, rest_blank o h3 (by rw [h4]; exact c1)]
        exact ih _ (by omega) (k + 1) o rfl (by omega)
      · by_cases c7 : cls a[k].toNat = 7
        · rw [rest_hash o hk c7, rest_hash o h3 (by rw [h4]; exact c7), runTo_pre (by rfl) hn _ _ rfl h2]
          have hs : runTo (fun n => cls n != 2) a k = runTo (fun n => cls n != 2) a (k + 1) := runTo_step hk (by simp [c7])
          have hg := runTo_ge (fun n => cls n != 2) a (k + 1)
          have hl := runTo_le (fun n => cls n != 2) a k h2
          exact ih _ (by omega) _ o rfl hl
        · by_cases c2 : cls a[k].toNat = 2
          · rw [rest_nl o hk c2, rest_nl o h3 (by rw [h4]; exact c2), ih _ (by omega) (k + 1) false rfl (by omega), List.append_assoc]
          · have hg := tokTo_gt a k
            have hl := tokTo_le a k hk
            rw [rest_tok o hk c1 c2 c7, rest_tok o h3 (by rw [h4]; exact c1) (by rw [h4]; exact c2) (by rw [h4]; exact c7), tokAt_pre hn hk, tokTo_pre hn hk, ih _ (by omega) _ true rfl hl]
            rfl
    · have : k = a.size := by omega
      subst this
      obtain ⟨h3, h4⟩ := nl_at (a := a) hn
      rw [rest_end, rest_nl o h3 (by rw [h4]; rfl)]
theorem rest_suf : ∀ (n k : Nat) (o : Bool), c.size - k = n → k ≤ c.size → restT (a ++ c) (a.size + k) o = (restT c k o).map (Tok.shift a.size) := by
  intro n
  induction n using Nat.strongRecOn with
  | ind n ih =>
    intro k o h1 h2
    by_cases hk : k < c.size
    · obtain ⟨h3, h4⟩ := app_right (a := a) hk
      by_cases c1 : cls c[k].toNat = 1
      · rw [rest_blank o hk c1, rest_blank o h3 (by rw [h4]; exact c1)]
        exact ih _ (by omega) (k + 1) o rfl (by omega)
      · by_cases c7 : cls c[k].toNat = 7
        · rw [rest_hash o hk c7, rest_hash o h3 (by rw [h4]; exact c7), runTo_suf _ _ rfl h2]
          have hs : runTo (fun n => cls n != 2) c k = runTo (fun n => cls n != 2) c (k + 1) := runTo_step hk (by simp [c7])
          have hg := runTo_ge (fun n => cls n != 2) c (k + 1)
          have hl := runTo_le (fun n => cls n != 2) c k h2
          exact ih _ (by omega) _ o rfl hl
        · by_cases c2 : cls c[k].toNat = 2
          · rw [rest_nl o hk c2, rest_nl o h3 (by rw [h4]; exact c2), List.map_append, ← ih _ (by omega) (k + 1) false rfl (by omega)]
            cases o
            · rfl
            · simp only [Tok.shift, if_true, List.map_cons, List.map_nil, Nat.add_comm k, Nat.add_assoc]
          · have hg := tokTo_gt c k
            have hl := tokTo_le c k hk
            rw [rest_tok o hk c1 c2 c7, rest_tok o h3 (by rw [h4]; exact c1) (by rw [h4]; exact c2) (by rw [h4]; exact c7), tokAt_suf hk, tokTo_suf hk, ih _ (by omega) _ true rfl hl]
            rfl
    · have : k = c.size := by omega
      subst this
      have he : a.size + c.size = (a ++ c).size := by rw [ByteArray.size_append]
      rw [rest_end, he, rest_end]
      cases o
      · rfl
      · simp [Tok.shift, Nat.add_comm]

theorem firstBad_app (x y : List Tok) : firstBad (x ++ y) = (firstBad x).or (firstBad y) := by
  induction x with
  | nil => simp [firstBad]
  | cons t r ih =>
    rw [List.cons_append, firstBad, firstBad]
    split
    · exact ih
    · rfl
theorem faultOf_shift (d : Nat) (t : Tok) : faultOf (t.shift d) = faultOf t := rfl
theorem firstBad_shift (d : Nat) (x : List Tok) : firstBad (x.map (Tok.shift d)) = (firstBad x).map (Tok.shift d) := by
  induction x with
  | nil => rfl
  | cons t r ih =>
    rw [List.map_cons, firstBad, firstBad, faultOf_shift]
    split
    · exact ih
    · rfl

/-- The two sources, joined. -/
def joined (a b : ByteArray) : ByteArray := a ++ ⟨#[10]⟩ ++ b
theorem joined_toks (a b : ByteArray) : toks (joined a b) = toks a ++ (toks b).map (Tok.shift (a.size + 1)) := by
  have h1 : joined a b = a ++ ((⟨#[10]⟩ : ByteArray) ++ b) := by unfold joined; rw [ByteArray.append_assoc]
  have hn : Nl ((⟨#[10]⟩ : ByteArray) ++ b) := by
    obtain ⟨h2, h3⟩ := app_left (a := (⟨#[10]⟩ : ByteArray)) (c := b) (i := 0) (by decide)
    exact ⟨h2, by rw [h3]; rfl⟩
  have hz : (a ++ (⟨#[10]⟩ : ByteArray)).size = a.size + 1 := by rw [ByteArray.size_append]; rfl
  have h2 := rest_suf (a := a ++ ⟨#[10]⟩) (c := b) _ 0 false rfl (Nat.zero_le _)
  rw [hz, Nat.add_zero] at h2
  rw [toks_rest, toks_rest, toks_rest, ← h2]
  conv => lhs; rw [h1, rest_pre hn _ 0 false rfl (Nat.zero_le _)]
  rw [h1.symm]; rfl
theorem joined_size (a b : ByteArray) : (joined a b).size = a.size + 1 + b.size := by
  unfold joined; rw [ByteArray.size_append, ByteArray.size_append]; rfl
theorem joined_first {a b : ByteArray} {p : Nat} {f : Int} (ha : a.size ≤ 2000) (hb : b.size ≤ 2000) (h : lexBad a = some (p, f)) : lexBad (joined a b) = some (p, f) := by
  unfold lexBad at h ⊢
  have := joined_size a b
  rw [if_neg (by omega)] at h ⊢
  obtain ⟨t, ht, he⟩ := Option.map_eq_some_iff.1 h
  rw [joined_toks, firstBad_app, ht, Option.some_or]
  simpa using he
theorem joined_second {a b : ByteArray} {p : Nat} {f : Int} (ha : a.size ≤ 2000) (hb : b.size ≤ 2000) (h1 : lexBad a = none) (h : lexBad b = some (p, f)) : lexBad (joined a b) = some (p + (a.size + 1), f) := by
  unfold lexBad at h h1 ⊢
  have := joined_size a b
  rw [if_neg (by omega)] at h h1 ⊢
  obtain ⟨t, ht, he⟩ := Option.map_eq_some_iff.1 h
  rw [Option.map_eq_none_iff] at h1
  rw [joined_toks, firstBad_app, h1, Option.none_or, firstBad_shift, ht]
  simp only [Prod.mk.injEq] at he
  simp [Tok.shift, faultOf, ← he.1, ← he.2]
theorem joined_none {a b : ByteArray} (ha : a.size ≤ 2000) (hb : b.size ≤ 2000) (h1 : lexBad a = none) (h : lexBad b = none) : lexBad (joined a b) = none := by
  unfold lexBad at h h1 ⊢
  have := joined_size a b
  rw [if_neg (by omega)] at h h1 ⊢
  rw [Option.map_eq_none_iff] at h h1 ⊢
  rw [joined_toks, firstBad_app, h1, Option.none_or, firstBad_shift, h]
  rfl
end Go.Proofs.Ytbdjlmdejlklkaa
