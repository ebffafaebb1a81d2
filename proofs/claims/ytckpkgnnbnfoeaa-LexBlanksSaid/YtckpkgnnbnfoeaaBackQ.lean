/-
  Plain Lean: where the tokens of a source stand, and what is between them. Nothing of the program. Conditions: none.
-/
import Derived.Test.YtckpkgnnbnfoeaaBackP
namespace Go.Proofs.Ytckpkgnnbnfoeaa

/-- Whether bytes are blanks, comments and newlines only, and whether a comment is open behind them; 'r': it is open ahead of them. -/
def emp : Bool → List UInt8 → Option Bool
  | r, [] => some r
  | r, b :: l => if b.toNat = 10 then emp false l else if b.toNat = 35 then emp true l else if r = false ∧ b.toNat ≠ 32 ∧ b.toNat ≠ 9 then none else emp r l
theorem emp_append (x y : List UInt8) : ∀ r, emp r (x ++ y) = (emp r x).bind fun q => emp q y := by
  induction x with
  | nil => intro r; rfl
  | cons b l ih =>
    intro r
    rw [List.cons_append, emp, emp]
    split
    · exact ih _
    · split
      · exact ih _
      · split
        · rfl
        · exact ih _
def segE (s : ByteArray) (a k : Nat) : Option Bool := emp false (s.extract a k).data.toList
theorem seg_self (s : ByteArray) (a : Nat) : segE s a a = some false := by
  unfold segE
  have : (s.extract a a).data.toList = [] := List.eq_nil_of_length_eq_zero (by rw [data_length, ByteArray.size_extract]; omega)
  rw [this]; rfl
theorem seg_snoc {s : ByteArray} {a k : Nat} (h1 : a ≤ k) (h2 : k < s.size) : segE s a (k + 1) = (segE s a k).bind fun q => emp q [s[k]] := by
  unfold segE
  have : (s.extract a (k + 1)).data.toList = (s.extract a k).data.toList ++ [s[k]] := by
    simp only [ByteArray.data_extract]
    have h3 : k < s.data.size := h2
    have e1 := Array.extract_append_extract («as» := s.data) (i := a) (j := k) (k := k + 1)
    rw [Nat.min_eq_left h1, Nat.max_eq_right (Nat.le_succ k)] at e1
    have e2 : s.data.extract k (k + 1) = #[s.data[k]] := by
      apply Array.ext
      · rw [Array.size_extract]; show min (k + 1) s.data.size - k = 1; omega
      · intro i hi1 hi2
        have hi : i = 0 := by simp at hi2; omega
        subst hi
        simp
    rw [← e1, e2, Array.toList_append]
    rfl
  rw [this, emp_append]
/-- Each token stands in the source at its place; the places go up; between them are blanks, comments and newlines only. -/
def Chain (s : ByteArray) : Nat → List Tok → Prop
  | a, [] => a ≤ s.size ∧ segE s a s.size ≠ none
  | a, t :: r => a ≤ t.pos ∧ t.pos + t.text.size ≤ s.size ∧ s.extract t.pos (t.pos + t.text.size) = t.text ∧ (t.text.size = 0 ↔ t.kind = 4) ∧ t.kind ≤ 4 ∧ segE s a t.pos ≠ none ∧ Chain s (t.pos + t.text.size) r
theorem cls_nl {n : Nat} (h : cls n = 2) : n = 10 := by
  unfold cls at h; repeat' split at h
  all_goals omega
theorem cls_hash {n : Nat} (h : cls n = 7) : n = 35 := by
  unfold cls at h; repeat' split at h
  all_goals omega
theorem cls_blank {n : Nat} (h : cls n = 1) : n = 32 ∨ n = 9 := by
  unfold cls at h; repeat' split at h
  all_goals omega
/-- Behind a comment's sign all bytes up to the newline belong to it. -/
theorem seg_remark {s : ByteArray} {a : Nat} : ∀ (n k : Nat), s.size - k = n → a ≤ k → k ≤ s.size → segE s a k = some true → segE s a (runTo (fun n => cls n != 2) s k) = some true := by
  intro n
  induction n with
  | zero => intro k h1 h2 h3 h4; rw [runTo_end (by omega)]; exact h4
  | succ n ih =>
    intro k h1 h2 h3 h4
    have hk : k < s.size := by omega
    cases hq : (fun n => cls n != 2) (s[k].toNat : Int) with
    | false => rw [runTo_stop hk hq]; exact h4
    | true =>
      rw [runTo_step hk hq]
      refine ih (k + 1) (by omega) (by omega) (by omega) ?_
      rw [seg_snoc h2 hk, h4]
      show emp true [s[k]] = some true
      have h10 : s[k].toNat ≠ 10 := by intro h; simp only [h] at hq; exact absurd hq (by decide)
      rw [emp, if_neg h10]
      split
      · rfl
      · rw [if_neg (by simp)]; rfl
theorem chain_rest (s : ByteArray) : ∀ (n k a : Nat) (o q : Bool), s.size - k = n → a ≤ k → k ≤ s.size → segE s a k = some q → (q = true → ∀ h : k < s.size, cls s[k].toNat = 2) → Chain s a (restT s k o) := by
  intro n
  induction n using Nat.strongRecOn with
  | ind n ih =>
    intro k a o q h1 h2 h3 hs hq
    by_cases hk : k < s.size
    · by_cases c1 : cls s[k].toNat = 1
      · have hqf : q = false := by cases q; rfl; exact absurd (hq rfl hk) (by omega)
        subst hqf
        rw [rest_blank o hk c1]
        refine ih _ (by omega) (k + 1) a o false rfl (by omega) (by omega) ?_ (fun h => by cases h)
        rw [seg_snoc h2 hk, hs]
        show emp false [s[k]] = some false
        rcases cls_blank c1 with h | h <;> simp [emp, h]
      · by_cases c7 : cls s[k].toNat = 7
        · have hqf : q = false := by cases q; rfl; exact absurd (hq rfl hk) (by omega)
          subst hqf
          rw [rest_hash o hk c7]
          have hst : runTo (fun n => cls n != 2) s k = runTo (fun n => cls n != 2) s (k + 1) := runTo_step hk (by simp [c7])
          have hg := runTo_ge (fun n => cls n != 2) s (k + 1)
          have hl := runTo_le (fun n => cls n != 2) s k h3
          refine ih _ (by omega) _ a o true rfl (by omega) hl ?_ (fun _ h => ?_)
          · rw [hst]
            refine seg_remark _ (k + 1) rfl (by omega) (by omega) ?_
            rw [seg_snoc h2 hk, hs]
            show emp false [s[k]] = some true
            simp [emp, cls_hash c7]
          · have := runTo_stop_out h
            simpa using this
        · by_cases c2 : cls s[k].toNat = 2
          · have h10 := cls_nl c2
            rw [rest_nl o hk c2]
            cases o
            · refine ih _ (by omega) (k + 1) a false false rfl (by omega) (by omega) ?_ (fun h => by cases h)
              rw [seg_snoc h2 hk, hs]
              show emp q [s[k]] = some false
              simp [emp, h10]
            · refine ⟨h2, ?_, ?_, ?_, Nat.le_refl _, ?_, ?_⟩
              · show k + 0 ≤ s.size; omega
              · exact eq_of_toList (by rw [toList_nil (by rw [ByteArray.size_extract]; show min (k + 0) s.size - k = 0; omega), toList_nil rfl])
              · exact ⟨fun _ => rfl, fun _ => rfl⟩
              · show segE s a k ≠ none; rw [hs]; simp
              · show Chain s k (restT s (k + 1) false)
                refine ih _ (by omega) (k + 1) k false false rfl (by omega) (by omega) ?_ (fun h => by cases h)
                rw [seg_snoc (Nat.le_refl _) hk, seg_self]
                show emp false [s[k]] = some false
                simp [emp, h10]
          · have hqf : q = false := by cases q; rfl; exact absurd (hq rfl hk) (by omega)
            subst hqf
            have hg := tokTo_gt s k
            have hl := tokTo_le s k hk
            rw [rest_tok o hk c1 c2 c7]
            have hz : (tokAt s k).text.size = tokTo s k - k := by
              show (s.extract k (tokTo s k)).size = _
              rw [ByteArray.size_extract]; omega
            have he : (tokAt s k).pos + (tokAt s k).text.size = tokTo s k := by rw [hz]; show k + (tokTo s k - k) = _; omega
            refine ⟨h2, by omega, ?_, ?_, ?_, ?_, ?_⟩
            · rw [he]; rfl
            · have := tokKind_ne (clsAt s k)
              constructor
              · intro h; omega
              · intro h; exact absurd h this
            · show tokKind (clsAt s k) ≤ 4
              unfold tokKind; repeat' split
              all_goals omega
            · show segE s a k ≠ none; rw [hs]; simp
            · rw [he]
              exact ih _ (by omega) _ _ true false rfl (Nat.le_refl _) hl (seg_self _ _) (fun h => by cases h)
    · have : k = s.size := by omega
      subst this
      rw [rest_end]
      cases o
      · refine ⟨h2, ?_⟩; rw [hs]; simp
      · refine ⟨h2, ?_, ?_, ⟨fun _ => rfl, fun _ => rfl⟩, Nat.le_refl _, ?_, ?_⟩
        · exact Nat.le_refl _
        · exact eq_of_toList (by rw [toList_nil (by rw [ByteArray.size_extract]; show min (s.size + 0) s.size - s.size = 0; omega), toList_nil rfl])
        · show segE s a s.size ≠ none; rw [hs]; simp
        · refine ⟨Nat.le_refl _, ?_⟩
          show segE s s.size s.size ≠ none
          rw [seg_self]; simp
theorem chain_toks (s : ByteArray) : Chain s 0 (toks s) := by
  rw [toks_rest]
  exact chain_rest s _ 0 0 false false rfl (Nat.le_refl _) (Nat.zero_le _) (seg_self _ _) (fun h => by cases h)
end Go.Proofs.Ytckpkgnnbnfoeaa
