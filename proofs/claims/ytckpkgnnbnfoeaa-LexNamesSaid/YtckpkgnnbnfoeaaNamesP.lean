/-
  Plain Lean: what a source that is one name, register, keyword or number is lexed as. Nothing of the program. Conditions: none.
-/
import Derived.Test.YtckpkgnnbnfoeaaLexR
import Derived.Test.YtckpkgnnbnfoeaaLexI
namespace Go.Proofs.Ytckpkgnnbnfoeaa

theorem extract_all (s : ByteArray) : s.extract 0 s.size = s := by simp
theorem clsAt_get {s : ByteArray} {k : Nat} (h : k < s.size) : clsAt s k = cls s[k].toNat := by unfold clsAt; rw [dif_pos h]

theorem one_word {s : ByteArray} (h0 : 0 < s.size) (hc : cls s[0].toNat = 3) (hr : runTo goes s 1 = s.size) : toks s = [⟨1, s, 0⟩, ⟨4, ByteArray.empty, s.size⟩] := by
  have ht : tokTo s 0 = s.size := by unfold tokTo; rw [clsAt_get h0, if_pos hc]; exact hr
  have ha : tokAt s 0 = ⟨1, s, 0⟩ := by unfold tokAt; rw [ht, clsAt_get h0, hc, extract_all]; rfl
  rw [toks_rest, rest_tok false h0 (by omega) (by omega) (by omega), ha, ht, rest_end]; rfl
theorem one_num {s : ByteArray} (h0 : 0 < s.size) (hc : cls s[0].toNat = 4) (hr : runTo isDig s 1 = s.size) : toks s = [⟨2, s, 0⟩, ⟨4, ByteArray.empty, s.size⟩] := by
  have ht : tokTo s 0 = s.size := by unfold tokTo; rw [clsAt_get h0, if_neg (by omega), if_pos hc]; exact hr
  have ha : tokAt s 0 = ⟨2, s, 0⟩ := by unfold tokAt; rw [ht, clsAt_get h0, hc, extract_all]; rfl
  rw [toks_rest, rest_tok false h0 (by omega) (by omega) (by omega), ha, ht, rest_end]; rfl

/-- What a name, a register and a keyword have in common. -/
def wordy (s : ByteArray) : Bool := if h : 0 < s.size then decide (s.size ≤ 16) && cls s[0].toNat == 3 && runTo goes s 1 == s.size else false
theorem wordy_toks {s : ByteArray} (h : wordy s = true) : toks s = [⟨1, s, 0⟩, ⟨4, ByteArray.empty, s.size⟩] ∧ lexBad s = none := by
  unfold wordy at h
  split at h
  · rename_i h0
    simp only [Bool.and_eq_true, decide_eq_true_eq, beq_iff_eq] at h
    obtain ⟨⟨h1, h2⟩, h3⟩ := h
    have ht := one_word h0 h2 h3
    refine ⟨ht, ?_⟩
    unfold lexBad
    rw [if_neg (by omega), ht]
    have : ¬ 16 < s.size := by omega
    simp [firstBad, faultOf, this]
  · cases h
theorem name_wordy {s : ByteArray} (h : nameOk s = true) : wordy s = true := by
  unfold nameOk at h; unfold wordy
  split at h
  · rename_i hs
    rw [dif_pos (by omega)]
    simp only [Bool.and_eq_true] at h
    obtain ⟨⟨⟨h1, _⟩, h3⟩, _⟩ := h
    simp only [Bool.and_eq_true, decide_eq_true_eq]
    exact ⟨⟨hs.2, h1⟩, h3⟩
  · cases h
theorem isDig_goes {n : Int} (h : isDig n = true) : goes n = true := by unfold isDig at h; unfold goes; simp [h]
theorem reg_shape {s : ByteArray} (h : regOk s = true) : ∃ hs : s.size = 2, (s[0].toNat : Int) = 114 ∧ isDig s[1].toNat = true := by
  unfold regOk at h
  split at h
  · rename_i hs
    simp only [Bool.and_eq_true, beq_iff_eq, decide_eq_true_eq] at h
    exact ⟨hs, h.1.1, isDig_iff.2 ⟨h.1.2, by omega⟩⟩
  · cases h
theorem reg_wordy {s : ByteArray} (h : regOk s = true) : wordy s = true := by
  obtain ⟨hs, h0, h1⟩ := reg_shape h
  unfold wordy
  rw [dif_pos (by omega), h0, runTo_step (by omega) (isDig_goes h1), runTo_end (by omega), hs]
  rfl
theorem kept_mem {s : ByteArray} (h : kept s = true) : s.toList ∈ keptL := by
  unfold kept at h; simpa using h
def keptChk (l : List UInt8) : Bool := wordy ⟨l.toArray⟩ && !regOk ⟨l.toArray⟩ && !numOk ⟨l.toArray⟩
theorem kept_all : keptL.all keptChk = true := by decide +kernel
theorem kept_chk {s : ByteArray} (h : kept s = true) : wordy s = true ∧ regOk s = false ∧ numOk s = false := by
  have h1 := List.all_eq_true.1 kept_all _ (kept_mem h)
  have h2 : (⟨s.toList.toArray⟩ : ByteArray) = s := eq_of_toList (by rw [toList_data])
  unfold keptChk at h1
  rw [h2] at h1
  simp only [Bool.and_eq_true, Bool.not_eq_true'] at h1
  exact ⟨h1.1.1, h1.1.2, h1.2⟩
theorem num_shape {s : ByteArray} (h : numOk s = true) : ∃ hs : 1 ≤ s.size ∧ s.size ≤ 3, isDig s[0].toNat = true ∧ runTo isDig s 1 = s.size := by
  have h' := h
  unfold numOk at h
  split at h
  · rename_i hs
    simp only [Bool.and_eq_true, beq_iff_eq] at h
    have hr := h.1.2
    have hd : isDig s[0].toNat = true := by
      cases hd : isDig s[0].toNat with
      | true => rfl
      | false => rw [runTo_stop (by omega) hd] at hr; omega
    rw [runTo_step (by omega) hd] at hr
    exact ⟨hs, hd, hr⟩
  · cases h
theorem num_toks {s : ByteArray} (h : numOk s = true) : toks s = [⟨2, s, 0⟩, ⟨4, ByteArray.empty, s.size⟩] ∧ lexBad s = none := by
  obtain ⟨hs, h0, h1⟩ := num_shape h
  have hc : cls s[0].toNat = 4 := by unfold isDig at h0; simpa using h0
  have ht := one_num (by omega) hc h1
  refine ⟨ht, ?_⟩
  unfold lexBad
  rw [if_neg (by omega), ht]
  simp [firstBad, faultOf, h]
theorem wordy_num {s : ByteArray} (h : wordy s = true) : numOk s = false := by
  cases hn : numOk s with
  | false => rfl
  | true =>
    obtain ⟨hs, h0, h1⟩ := num_shape hn
    have hc : cls s[0].toNat = 4 := by unfold isDig at h0; simpa using h0
    unfold wordy at h
    rw [dif_pos (by omega)] at h
    simp [hc] at h
theorem name_reg {s : ByteArray} (h : nameOk s = true) : regOk s = false := by
  cases hr : regOk s with
  | false => rfl
  | true =>
    obtain ⟨hs, h0, h1⟩ := reg_shape hr
    have ht : tailDig s = true := by
      unfold tailDig; rw [runTo_step (by omega) h1, runTo_end (by omega), hs]; rfl
    unfold nameOk at h
    rw [dif_pos (by omega)] at h
    simp [h0, ht, hs] at h
theorem name_kept {s : ByteArray} (h : nameOk s = true) : kept s = false := by
  unfold nameOk at h
  split at h
  · simp only [Bool.and_eq_true, Bool.not_eq_true'] at h
    exact h.1.1.2
  · cases h
theorem reg_kept {s : ByteArray} (h : regOk s = true) : kept s = false := by
  cases hk : kept s with
  | false => rfl
  | true => rw [(kept_chk hk).2.1] at h; cases h
end Go.Proofs.Ytckpkgnnbnfoeaa
