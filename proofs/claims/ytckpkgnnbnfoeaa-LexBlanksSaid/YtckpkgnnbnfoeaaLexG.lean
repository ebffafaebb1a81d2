/-
  Package lex: fault, the list of all tokens, and the iterator tokens. Conditions: the source has at most 16384 bytes.
-/
import Derived.Test.YtckpkgnnbnfoeaaLexF
import Derived.Test.YtckpkgnnbnfoeaaRange
namespace Go.Proofs.Ytckpkgnnbnfoeaa
open Go.RowKit

theorem nextT_le {s : ByteArray} : ∀ {f k o t k' o'}, nextT s f k o = (some t, k', o') → k ≤ s.size → k' ≤ s.size ∧ 2 * (s.size - k') + o'.toNat < 2 * (s.size - k) + o.toNat
  | 0, k, o, t, k', o', h, hk => by simp [nextT] at h
  | f + 1, k, o, t, k', o', h, hk => by
    have h1 := passTo_ge s k
    have h2 := passTo_le s k hk
    rw [nextT] at h
    split at h
    · rename_i hc
      have h3 := clsAt_lt hc
      have h4 := tokTo_le s _ h3
      have h5 := tokTo_gt s (passTo s k)
      simp only [Prod.mk.injEq] at h
      obtain ⟨_, rfl, rfl⟩ := h
      exact ⟨h4, by simp; omega⟩
    · split at h
      · rename_i ho
        simp only [Prod.mk.injEq] at h
        obtain ⟨_, rfl, rfl⟩ := h
        subst ho
        exact ⟨by omega, by simp; omega⟩
      · split at h
        · simp at h
        · obtain ⟨a, b⟩ := nextT_le h (by omega)
          exact ⟨a, by simp at b; omega⟩

/-- All tokens from a state on, whatever their faults. -/
def toksF (s : ByteArray) : Nat → Nat → Bool → List Tok
  | 0, _, _ => []
  | f + 1, k, o =>
    match nextT s (s.size + 1) k o with
    | (some t, k', o') => t :: toksF s f k' o'
    | (none, _, _) => []
def toks (s : ByteArray) : List Tok := toksF s (2 * s.size + 1) 0 false

theorem toksF_len (s : ByteArray) : ∀ f k o, (toksF s f k o).length ≤ f
  | 0, _, _ => Nat.le_refl _
  | f + 1, k, o => by
    rw [toksF]; split
    · simp; exact toksF_len s f _ _
    · simp

theorem nextT_ok {s : ByteArray} : ∀ {f k o t k' o'}, nextT s f k o = (some t, k', o') → (t.kind = 1 ∨ t.kind = 2 ∨ (t.kind = 3 ∧ 0 < t.text.size) ∨ t.kind = 4) ∧ t.text.size ≤ s.size
  | 0, k, o, t, k', o', h => by simp [nextT] at h
  | f + 1, k, o, t, k', o', h => by
    rw [nextT] at h
    split at h
    · rename_i hc
      have h3 := clsAt_lt hc
      have h4 := tokTo_le s _ h3
      have h5 := tokTo_gt s (passTo s k)
      simp only [Prod.mk.injEq, Option.some.injEq] at h
      obtain ⟨rfl, _, _⟩ := h
      have hz : (s.extract (passTo s k) (tokTo s (passTo s k))).size = tokTo s (passTo s k) - passTo s k := by
        rw [ByteArray.size_extract]; omega
      refine ⟨?_, by simp only [tokAt]; rw [hz]; omega⟩
      unfold tokAt tokKind
      simp only
      split
      · exact .inl rfl
      · split
        · exact .inr (.inl rfl)
        · exact .inr (.inr (.inl ⟨rfl, by rw [hz]; omega⟩))
    · split at h
      · simp only [Prod.mk.injEq, Option.some.injEq] at h
        obtain ⟨rfl, _, _⟩ := h
        exact ⟨by simp, by simp⟩
      · split at h
        · simp at h
        · exact nextT_ok h

theorem faultOf_3 {tx : ByteArray} {ps : Nat} (h : 0 < tx.size) : faultOf ⟨3, tx, ps⟩ = if cls tx[0].toNat = 6 then 0 else 40 := by
  unfold faultOf clsAt; simp [h]

set_option maxHeartbeats 1000000 in
theorem fault_any (kd : Nat) (tx : ByteArray) (ps : Nat) (w : World) (hk : kd = 1 ∨ kd = 2 ∨ (kd = 3 ∧ 0 < tx.size) ∨ kd = 4) (hs : tx.size ≤ 16384) :
    Calls Try.prog 47 #[(Tok.mk kd tx ps).val] w fun e w' => e = .returned (.int .i64 (faultOf ⟨kd, tx, ps⟩)) ∧ w.grownBy w' none := by
  unfold Tok.val
  simp only
  rcases hk with rfl | rfl | ⟨rfl, h0⟩ | rfl
  · by_cases hl : 16 < tx.size
    all_goals
      have Hf : Hid (faultOf ⟨1, tx, ps⟩ = if 16 < tx.size then 42 else 0) := Lib.hid (by simp [faultOf])
      go_enter Try.func47, Try.ntmps47
      go_wp2
      go_returns
      exact ⟨ret_int (by rw [Hf.out]; simp; omega), World.grownBy_alloc _ _ _⟩
  · cases hn : numOk tx
    all_goals
      have Hf : Hid (faultOf ⟨2, tx, ps⟩ = if numOk tx then 0 else 41) := Lib.hid (by simp [faultOf])
      have Hn := Lib.hid hn
      have hm : tx.size ≤ maxLen := by unfold maxLen; omega
      clear hn
      go_enter Try.func47, Try.ntmps47
      go_wp2_with (go_at_call 24; refine (num_any _ _ hm _ Hn.out).mono ?_; rintro e w' ⟨rfl, rfl⟩)
      go_returns
      exact ⟨ret_int (by rw [Hf.out, Hn.out]; simp), World.grownBy_alloc _ _ _⟩
  · have Hf := Lib.hid (faultOf_3 (ps := ps) h0)
    by_cases hc : cls tx[0].toNat = 6
    · have hc1 : (cls ↑tx[0].toNat != 6) = false := by simpa using hc
      have Hc := Lib.hid hc
      clear hc
      go_enter Try.func47, Try.ntmps47
      go_wp2_with (go_at_call 37; refine (classOf_any _ _).mono ?_; rintro e w' ⟨rfl, rfl⟩)
      go_returns
      exact ⟨ret_int (by rw [Hf.out, if_pos Hc.out]), World.grownBy_alloc _ _ _⟩
    · have hc1 : (cls ↑tx[0].toNat != 6) = true := by simpa using hc
      have Hc := Lib.hid hc
      clear hc
      go_enter Try.func47, Try.ntmps47
      go_wp2_with (go_at_call 37; refine (classOf_any _ _).mono ?_; rintro e w' ⟨rfl, rfl⟩)
      go_returns
      exact ⟨ret_int (by rw [Hf.out, if_neg Hc.out]), World.grownBy_alloc _ _ _⟩
  · go_enter Try.func47, Try.ntmps47
    go_wp2
    go_returns
    exact ⟨ret_int (by simp [faultOf]), World.grownBy_alloc _ _ _⟩
end Go.Proofs.Ytckpkgnnbnfoeaa
