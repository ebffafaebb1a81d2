/-
  Plain Lean: what is lexed from text that is put together of tokens, blanks, comments and newlines. Nothing of the program. Conditions: none.
-/
import Derived.Test.YtbdjlmdejlklkaaJoinsP
import Derived.Test.YtbdjlmdejlklkaaLexed
set_option linter.unusedSimpArgs false
set_option linter.unusedVariables false
namespace Go.Proofs.Ytbdjlmdejlklkaa

variable {a c : ByteArray} {k : Nat}
/-- What may follow a token. -/
def St (c : ByteArray) : Prop := ∀ h : 0 < c.size, c[0].toNat = 10 ∨ c[0].toNat = 32
theorem st_at (hn : St c) (h : a.size < (a ++ c).size) : (a ++ c)[a.size].toNat = 10 ∨ (a ++ c)[a.size].toNat = 32 := by
  have hc : 0 < c.size := by rw [ByteArray.size_append] at h; omega
  obtain ⟨h2, h3⟩ := app_right (a := a) hc
  have h4 : (a ++ c)[a.size] = c[0] := h3
  rw [h4]; exact hn hc
theorem runTo_st {p : Int → Bool} (hp : p 10 = false) (hq : p 32 = false) (hn : St c) : ∀ (n k : Nat), a.size - k = n → k ≤ a.size → runTo p (a ++ c) k = runTo p a k := by
  intro n
  induction n with
  | zero =>
    intro k h1 h2
    have : k = a.size := by omega
    subst this
    rw [runTo_end (Nat.le_refl _)]
    by_cases h3 : a.size < (a ++ c).size
    · refine runTo_stop h3 ?_
      rcases st_at hn h3 with h4 | h4 <;> rw [h4]
      · exact hp
      · exact hq
    · exact runTo_end (by omega)
  | succ n ih =>
    intro k h1 h2
    have hk : k < a.size := by omega
    obtain ⟨h3, h4⟩ := app_left (c := c) hk
    cases hq : p a[k].toNat with
    | true => rw [runTo_step hk hq, runTo_step h3 (by rw [h4]; exact hq)]; exact ih (k + 1) (by omega) (by omega)
    | false => rw [runTo_stop hk hq, runTo_stop h3 (by rw [h4]; exact hq)]
theorem isEq2_st (hn : St c) (hk : k < a.size) : isEq2 (a ++ c) k = isEq2 a k := by
  obtain ⟨h3, h4⟩ := app_left (c := c) hk
  unfold isEq2
  by_cases h1 : k + 1 < a.size
  · obtain ⟨h5, h6⟩ := app_left (c := c) h1
    rw [dif_pos h5, dif_pos h1, h4, h6]
  · rw [dif_neg h1]
    have he : k + 1 = a.size := by omega
    split
    · rename_i h7
      have h8 : (a ++ c)[k + 1].toNat = 10 ∨ (a ++ c)[k + 1].toNat = 32 := by
        have := st_at hn (a := a) (by omega)
        simp only [he]; exact this
      rcases h8 with h8 | h8 <;> rw [h8] <;> simp
    · rfl
theorem tokTo_st (hn : St c) (hk : k < a.size) : tokTo (a ++ c) k = tokTo a k := by
  unfold tokTo wordTo numTo signTo
  rw [clsAt_pre hk, isEq2_st hn hk, runTo_st (by rfl) (by rfl) hn _ _ rfl (by omega), runTo_st (by rfl) (by rfl) hn _ _ rfl (by omega)]
theorem runTo_cut {p : Int → Bool} : ∀ (n k : Nat), a.size - k = n → k ≤ a.size → runTo p (a ++ c) k = a.size → runTo p a k = a.size := by
  intro n
  induction n with
  | zero =>
    intro k h1 h2 _
    have : k = a.size := by omega
    subst this
    exact runTo_end (Nat.le_refl _)
  | succ n ih =>
    intro k h1 h2 h5
    have hk : k < a.size := by omega
    obtain ⟨h3, h4⟩ := app_left (c := c) hk
    cases hq : p a[k].toNat with
    | true =>
      rw [runTo_step h3 (by rw [h4]; exact hq)] at h5
      rw [runTo_step hk hq]; exact ih (k + 1) (by omega) (by omega) h5
    | false => rw [runTo_stop h3 (by rw [h4]; exact hq)] at h5; omega
theorem tokTo_cut (h0 : 0 < a.size) (h : tokTo (a ++ c) 0 = a.size) : tokTo a 0 = a.size := by
  unfold tokTo wordTo numTo signTo at h ⊢
  rw [clsAt_pre h0] at h
  split at h
  · rw [if_pos (by assumption)]; exact runTo_cut _ _ rfl (by omega) h
  · rw [if_neg (by assumption)]
    split at h
    · rw [if_pos (by assumption)]; exact runTo_cut _ _ rfl (by omega) h
    · rw [if_neg (by assumption)]
      obtain ⟨h3, h4⟩ := app_left (c := c) h0
      split at h
      · rename_i h5
        have h1 : 0 + 1 < a.size := by omega
        obtain ⟨h6, h7⟩ := app_left (c := c) h1
        have : isEq2 a 0 = true := by
          unfold isEq2 at h5 ⊢
          rw [dif_pos h6, h4, h7] at h5
          rw [dif_pos h1]; exact h5
        rw [if_pos this]; exact h
      · have : isEq2 a 0 = false := by unfold isEq2; rw [dif_neg (by omega)]
        rw [this]; simpa using h

/-- A text that lexes as itself. -/
def Good (kd : Nat) (tx : ByteArray) : Prop := ∃ h : 0 < tx.size, cls tx[0].toNat ≠ 1 ∧ cls tx[0].toNat ≠ 2 ∧ cls tx[0].toNat ≠ 7 ∧ kd = tokKind (cls tx[0].toNat) ∧ tokTo tx 0 = tx.size
def kt (t : Tok) : Nat × ByteArray := (t.kind, t.text)
theorem kt_shift (d : Nat) (l : List Tok) : (l.map (Tok.shift d)).map kt = l.map kt := by
  rw [List.map_map]; rfl
/-- The kinds and texts of the tokens. -/
def K (c : ByteArray) (o : Bool) : List (Nat × ByteArray) := (restT c 0 o).map kt
theorem K_suf (x c : ByteArray) (o : Bool) : (restT (x ++ c) x.size o).map kt = K c o := by
  have h := rest_suf (a := x) (c := c) _ 0 o rfl (Nat.zero_le _)
  rw [Nat.add_zero] at h
  rw [h, kt_shift]; rfl
theorem extract_whole (s : ByteArray) : s.extract 0 s.size = s := by simp
theorem K_tok {kd : Nat} {tx post : ByteArray} (o : Bool) (hg : Good kd tx) (hs : St post) : K (tx ++ post) o = (kd, tx) :: K post true := by
  obtain ⟨h0, c1, c2, c7, hk, ht⟩ := hg
  obtain ⟨h3, h4⟩ := app_left (c := post) h0
  have e1 : tokTo (tx ++ post) 0 = tx.size := by rw [tokTo_st hs h0, ht]
  have e2 : tokAt (tx ++ post) 0 = ⟨kd, tx, 0⟩ := by
    unfold tokAt
    rw [e1, clsAt_pre h0, ext_left (Nat.le_refl _), extract_whole, hk]
    unfold clsAt; rw [dif_pos h0]
  unfold K
  rw [rest_tok o h3 (by rw [h4]; exact c1) (by rw [h4]; exact c2) (by rw [h4]; exact c7), e1, e2, List.map_cons, K_suf]
  rfl
theorem one_size (b : UInt8) : (⟨#[b]⟩ : ByteArray).size = 1 := rfl
theorem one_at (b : UInt8) (post : ByteArray) : ∃ h : 0 < ((⟨#[b]⟩ : ByteArray) ++ post).size, ((⟨#[b]⟩ : ByteArray) ++ post)[0] = b := by
  obtain ⟨h3, h4⟩ := app_left (a := (⟨#[b]⟩ : ByteArray)) (c := post) (i := 0) (by rw [one_size]; omega)
  exact ⟨h3, h4⟩
theorem K_nl (post : ByteArray) (o : Bool) : K ((⟨#[10]⟩ : ByteArray) ++ post) o = (if o then [(4, ByteArray.empty)] else []) ++ K post false := by
  obtain ⟨h3, h4⟩ := one_at 10 post
  have h5 : (restT ((⟨#[10]⟩ : ByteArray) ++ post) (0 + 1) false).map kt = K post false := K_suf ⟨#[10]⟩ post false
  rw [show K ((⟨#[10]⟩ : ByteArray) ++ post) o = (restT ((⟨#[10]⟩ : ByteArray) ++ post) 0 o).map kt from rfl, rest_nl o h3 (by rw [h4]; rfl), List.map_append, h5]
  cases o <;> rfl
theorem K_blank (b : UInt8) (hb : cls b.toNat = 1) (post : ByteArray) (o : Bool) : K ((⟨#[b]⟩ : ByteArray) ++ post) o = K post o := by
  obtain ⟨h3, h4⟩ := one_at b post
  unfold K
  rw [rest_blank o h3 (by rw [h4]; exact hb)]
  exact K_suf ⟨#[b]⟩ post o
theorem runTo_all {p : Int → Bool} : ∀ (n k : Nat), a.size - k = n → k ≤ a.size → (∀ i (h : i < a.size), p a[i].toNat = true) → runTo p (a ++ c) k = runTo p (a ++ c) a.size := by
  intro n
  induction n with
  | zero => intro k h1 h2 _; rw [show k = a.size from by omega]
  | succ n ih =>
    intro k h1 h2 h5
    have hk : k < a.size := by omega
    obtain ⟨h3, h4⟩ := app_left (c := c) hk
    rw [runTo_step h3 (by rw [h4]; exact h5 k hk)]
    exact ih (k + 1) (by omega) (by omega) h5
theorem K_remark (r post : ByteArray) (o : Bool) (hr : ∀ i (h : i < r.size), cls r[i].toNat ≠ 2) : K ((⟨#[35]⟩ : ByteArray) ++ (r ++ ((⟨#[10]⟩ : ByteArray) ++ post))) o = K ((⟨#[10]⟩ : ByteArray) ++ post) o := by
  obtain ⟨h3, h4⟩ := one_at 35 (r ++ ((⟨#[10]⟩ : ByteArray) ++ post))
  obtain ⟨h5, h6⟩ := one_at 10 post
  have hz : ((⟨#[35]⟩ : ByteArray) ++ r).size = 1 + r.size := by rw [ByteArray.size_append, one_size]
  have hall : ∀ i (h : i < ((⟨#[35]⟩ : ByteArray) ++ r).size), (fun n => cls n != 2) (((⟨#[35]⟩ : ByteArray) ++ r)[i].toNat : Int) = true := by
    intro i h
    by_cases hi : i = 0
    · subst hi
      obtain ⟨h7, h8⟩ := one_at 35 r
      rw [h8]; rfl
    · have hj : i - 1 < r.size := by omega
      obtain ⟨h7, h8⟩ := app_right (a := (⟨#[35]⟩ : ByteArray)) hj
      have he : (⟨#[35]⟩ : ByteArray).size + (i - 1) = i := by rw [one_size]; omega
      have h9 : ((⟨#[35]⟩ : ByteArray) ++ r)[i] = r[i - 1] := by rw [← h8]; simp only [he]
      rw [h9]; simpa using hr (i - 1) hj
  have hrun : runTo (fun n => cls n != 2) ((⟨#[35]⟩ : ByteArray) ++ r ++ ((⟨#[10]⟩ : ByteArray) ++ post)) 0 = ((⟨#[35]⟩ : ByteArray) ++ r).size := by
    rw [runTo_all _ 0 rfl (Nat.zero_le _) hall]
    have h8 := runTo_suf (p := fun n => cls n != 2) (a := (⟨#[35]⟩ : ByteArray) ++ r) (c := (⟨#[10]⟩ : ByteArray) ++ post) _ 0 rfl (Nat.zero_le _)
    rw [Nat.add_zero] at h8
    rw [h8, runTo_stop h5 (by rw [h6]; rfl)]
    rfl
  rw [ByteArray.append_assoc] at hrun
  unfold K
  rw [rest_hash o h3 (by rw [h4]; rfl), hrun]
  have := K_suf ((⟨#[35]⟩ : ByteArray) ++ r) ((⟨#[10]⟩ : ByteArray) ++ post) o
  rw [ByteArray.append_assoc] at this
  exact this
theorem K_empty (o : Bool) : K ByteArray.empty o = if o then [(4, ByteArray.empty)] else [] := by
  unfold K
  have : restT ByteArray.empty 0 o = restT ByteArray.empty ByteArray.empty.size o := rfl
  rw [this, rest_end]
  cases o <;> rfl

/-- How tokens follow each other. -/
def G : Bool → List (Nat × ByteArray) → Prop
  | o, [] => o = false
  | o, t :: r => if t.1 = 4 then o = true ∧ t.2 = ByteArray.empty ∧ G false r else Good t.1 t.2 ∧ G true r
theorem tokKind_ne (n : Int) : tokKind n ≠ 4 := by unfold tokKind; repeat' split
                                                   all_goals omega
theorem split_at {s : ByteArray} {k e : Nat} (h1 : k ≤ e) (h2 : e ≤ s.size) : s = s.extract 0 k ++ (s.extract k e ++ s.extract e s.size) := by
  apply ByteArray.ext
  simp only [ByteArray.data_extract, ByteArray.data_append]
  have hz : s.size = s.data.size := rfl
  rw [hz] at h2 ⊢
  rw [Array.extract_append_extract, Nat.min_eq_left h1, Nat.max_eq_right h2, Array.extract_append_extract, Nat.max_eq_right (Nat.le_trans h1 h2), Nat.zero_min]
  exact Array.extract_size.symm
theorem good_tok {s : ByteArray} {k : Nat} (h : k < s.size) (c1 : cls s[k].toNat ≠ 1) (c2 : cls s[k].toNat ≠ 2) (c7 : cls s[k].toNat ≠ 7) : Good (tokAt s k).kind (tokAt s k).text := by
  have hg := tokTo_gt s k
  have hl := tokTo_le s k h
  have hs := split_at (s := s) (k := k) (e := tokTo s k) (by omega) hl
  have hz : (s.extract 0 k).size = k := by rw [ByteArray.size_extract]; omega
  have hx : (s.extract k (tokTo s k)).size = tokTo s k - k := by rw [ByteArray.size_extract]; omega
  have h0 : 0 < (s.extract k (tokTo s k)).size := by omega
  have e0 : (s.extract k (tokTo s k))[0] = s[k] := by
    rw [ByteArray.getElem_extract]; rfl
  have h1 : tokTo s k = k + tokTo (s.extract k (tokTo s k) ++ s.extract (tokTo s k) s.size) 0 := by
    have := tokTo_suf (a := s.extract 0 k) (c := s.extract k (tokTo s k) ++ s.extract (tokTo s k) s.size) (k := 0) (by rw [ByteArray.size_append, hx]; omega)
    rw [← hs, hz, Nat.add_zero] at this
    exact this
  have h2 : tokTo (s.extract k (tokTo s k)) 0 = (s.extract k (tokTo s k)).size := tokTo_cut (c := s.extract (tokTo s k) s.size) h0 (by rw [hx]; omega)
  refine ⟨h0, ?_, ?_, ?_, ?_, h2⟩
  · simp only [tokAt]; rw [e0]; exact c1
  · simp only [tokAt]; rw [e0]; exact c2
  · simp only [tokAt]; rw [e0]; exact c7
  · simp only [tokAt]; rw [e0]; unfold clsAt; rw [dif_pos h]
theorem G_rest (s : ByteArray) : ∀ (n k : Nat) (o : Bool), s.size - k = n → k ≤ s.size → G o ((restT s k o).map kt) := by
  intro n
  induction n using Nat.strongRecOn with
  | ind n ih =>
    intro k o h1 h2
    by_cases hk : k < s.size
    · by_cases c1 : cls s[k].toNat = 1
      · rw [rest_blank o hk c1]
        exact ih _ (by omega) (k + 1) o rfl (by omega)
      · by_cases c7 : cls s[k].toNat = 7
        · rw [rest_hash o hk c7]
          have hs : runTo (fun n => cls n != 2) s k = runTo (fun n => cls n != 2) s (k + 1) := runTo_step hk (by simp [c7])
          have hg := runTo_ge (fun n => cls n != 2) s (k + 1)
          have hl := runTo_le (fun n => cls n != 2) s k h2
          exact ih _ (by omega) _ o rfl hl
        · by_cases c2 : cls s[k].toNat = 2
          · rw [rest_nl o hk c2]
            have := ih _ (by omega) (k + 1) false rfl (by omega)
            cases o
            · exact this
            · exact (if_pos rfl).mpr ⟨rfl, rfl, this⟩
          · have hg := tokTo_gt s k
            have hl := tokTo_le s k hk
            rw [rest_tok o hk c1 c2 c7, List.map_cons]
            exact (if_neg (tokKind_ne _)).mpr ⟨good_tok hk c1 c2 c7, ih _ (by omega) _ true rfl hl⟩
    · have : k = s.size := by omega
      subst this
      rw [rest_end]
      cases o
      · exact rfl
      · exact (if_pos rfl).mpr ⟨rfl, rfl, rfl⟩
theorem G_toks (s : ByteArray) : G false ((toks s).map kt) := by rw [toks_rest]; exact G_rest s _ 0 false rfl (Nat.zero_le _)

def mk (l : List UInt8) : ByteArray := ⟨l.toArray⟩
theorem mk_append (x y : List UInt8) : mk (x ++ y) = mk x ++ mk y := by
  apply ByteArray.ext
  rw [ByteArray.data_append]
  simp [mk]
theorem mk_data (s : ByteArray) : mk s.data.toList = s := by apply ByteArray.ext; simp [mk]
theorem mk_size (l : List UInt8) : (mk l).size = l.length := by show l.toArray.size = l.length; simp
theorem st_typeG (r : List AT) : St (mk (typeG true r)) := by
  intro h
  cases r with
  | nil => rw [mk_size] at h; exact absurd h (by simp [typeG])
  | cons t r =>
    have he : typeG true (t :: r) = if t.kind = 4 then 10 :: typeG false r else 32 :: (t.text.data.toList ++ typeG true r) := by
      rw [typeG]; split <;> simp
    by_cases h4 : t.kind = 4
    · rw [if_pos h4] at he
      left
      simp only [he]; rfl
    · rw [if_neg h4] at he
      right
      simp only [he]; rfl
theorem K_typeG : ∀ (ts : List Tok) (wi : Bool), G wi (ts.map kt) → K (mk (typeG wi (ups ts))) wi = ts.map kt
  | [], wi, h => by
    have : wi = false := h
    subst this
    exact K_empty false
  | t :: r, wi, h => by
    have hu : ups (t :: r) = t.up :: ups r := rfl
    rw [List.map_cons, G] at h
    rw [hu, typeG, List.map_cons]
    by_cases h4 : t.kind = 4
    · rw [if_pos (show (kt t).1 = 4 from h4)] at h
      obtain ⟨rfl, h2, h3⟩ := h
      rw [if_pos (show t.up.kind = 4 from by simp only [Tok.up]; omega), show (10 :: typeG false (ups r) : List UInt8) = [10] ++ typeG false (ups r) from rfl, mk_append]
      have := K_nl (mk (typeG false (ups r))) true
      refine this.trans ?_
      rw [K_typeG r false h3]
      have e : kt t = (4, ByteArray.empty) := by unfold kt at h2 ⊢; rw [h4]; simp only at h2; rw [h2]
      rw [e]; rfl
    · rw [if_neg (show ¬ (kt t).1 = 4 from h4)] at h
      obtain ⟨hg, h3⟩ := h
      rw [if_neg (show ¬ t.up.kind = 4 from by simp only [Tok.up]; omega)]
      have hk : K (mk (t.text.data.toList ++ typeG true (ups r))) wi = kt t :: r.map kt := by
        rw [mk_append, mk_data, K_tok (kd := t.kind) (tx := t.text) wi hg (st_typeG _), K_typeG r true h3]
        rfl
      rw [show t.up.text = t.text from rfl]
      cases wi
      · simpa using hk
      · rw [List.append_assoc, mk_append]
        have := K_blank 32 (by rfl) (mk (t.text.data.toList ++ typeG true (ups r))) true
        exact this.trans hk

theorem firstBad_kt : ∀ (x y : List Tok), x.map kt = y.map kt → firstBad y = none → firstBad x = none
  | [], _, _, _ => rfl
  | t :: r, [], h, _ => by simp at h
  | t :: r, u :: q, h, hb => by
    simp only [List.map_cons, List.cons.injEq] at h
    have hf : faultOf t = faultOf u := by
      have h1 := h.1
      unfold kt at h1
      simp only [Prod.mk.injEq] at h1
      unfold faultOf; rw [h1.1, h1.2]
    rw [firstBad] at hb ⊢
    split at hb
    · rw [if_pos (by rw [hf]; assumption)]; exact firstBad_kt r q h.2 hb
    · cases hb
theorem typeG_kt : ∀ (x y : List Tok) (wi : Bool), x.map kt = y.map kt → typeG wi (ups x) = typeG wi (ups y)
  | [], [], _, _ => rfl
  | [], _ :: _, _, h => by simp at h
  | _ :: _, [], _, h => by simp at h
  | t :: r, u :: q, wi, h => by
    simp only [List.map_cons, List.cons.injEq] at h
    have h1 := h.1
    unfold kt at h1
    simp only [Prod.mk.injEq] at h1
    have hu : ∀ (t : Tok) r, ups (t :: r) = t.up :: ups r := fun _ _ => rfl
    rw [hu, hu, typeG, typeG, typeG_kt r q false h.2, typeG_kt r q true h.2]
    obtain ⟨k1, x1, p1⟩ := t
    obtain ⟨k2, x2, p2⟩ := u
    simp only at h1
    obtain ⟨rfl, rfl⟩ := h1
    rfl
theorem typeG_rest (s : ByteArray) : ∀ (n k : Nat) (o : Bool), s.size - k = n → k ≤ s.size → (typeG o (ups (restT s k o))).length ≤ 2 * (s.size - k) + o.toNat := by
  have hu : ∀ (t : Tok) r, ups (t :: r) = t.up :: ups r := fun _ _ => rfl
  intro n
  induction n using Nat.strongRecOn with
  | ind n ih =>
    intro k o h1 h2
    by_cases hk : k < s.size
    · by_cases c1 : cls s[k].toNat = 1
      · rw [rest_blank o hk c1]
        have := ih _ (by omega) (k + 1) o rfl (by omega)
        omega
      · by_cases c7 : cls s[k].toNat = 7
        · rw [rest_hash o hk c7]
          have hs : runTo (fun n => cls n != 2) s k = runTo (fun n => cls n != 2) s (k + 1) := runTo_step hk (by simp [c7])
          have hg := runTo_ge (fun n => cls n != 2) s (k + 1)
          have hl := runTo_le (fun n => cls n != 2) s k h2
          have := ih _ (by omega) _ o rfl hl
          omega
        · by_cases c2 : cls s[k].toNat = 2
          · rw [rest_nl o hk c2]
            cases o
            · have := ih _ (by omega) (k + 1) false rfl (by omega)
              simp only [Bool.toNat_false] at this ⊢
              simp only [Bool.false_eq_true, if_false, List.nil_append]
              omega
            · have := ih _ (by omega) (k + 1) false rfl (by omega)
              simp only [if_true, List.singleton_append]
              rw [hu, typeG, if_pos (by rfl), List.length_cons]
              simp only [Bool.toNat_false, Bool.toNat_true] at this ⊢
              omega
          · have hg := tokTo_gt s k
            have hl := tokTo_le s k hk
            have := ih _ (by omega) _ true rfl hl
            rw [rest_tok o hk c1 c2 c7, hu, typeG, if_neg (by have := tokKind_ne (clsAt s k); simp only [Tok.up, tokAt]; omega), List.length_append, List.length_append]
            have hx : (tokAt s k).up.text.data.toList.length = tokTo s k - k := by
              show (s.extract k (tokTo s k)).data.toList.length = _
              rw [data_length, ByteArray.size_extract]; omega
            rw [hx]
            simp only [Bool.toNat_true] at this
            have : (if o = true then [32] else ([] : List UInt8)).length = o.toNat := by cases o <;> rfl
            omega
    · have : k = s.size := by omega
      subst this
      rw [rest_end]
      cases o
      · exact Nat.zero_le _
      · simp [ups, typeG, Tok.up]
/-- The text that Type writes for the tokens of a source. -/
def typed (s : ByteArray) : ByteArray := mk (typeG false (ups (toks s)))
theorem typed_size (s : ByteArray) : (typed s).size ≤ 2 * s.size := by
  unfold typed
  rw [mk_size, toks_rest]
  have := typeG_rest s _ 0 false rfl (Nat.zero_le _)
  simpa using this
theorem typed_kt (s : ByteArray) : (toks (typed s)).map kt = (toks s).map kt := by
  have := K_typeG (toks s) false (G_toks s)
  rw [toks_rest]; exact this
theorem typed_none {s : ByteArray} (hs : s.size ≤ 5000) (h : lexBad s = none) : lexBad (typed s) = none := by
  have := typed_size s
  unfold lexBad at h ⊢
  rw [if_neg (by omega)] at h ⊢
  rw [Option.map_eq_none_iff] at h ⊢
  exact firstBad_kt _ _ (typed_kt s) h
theorem typed_typed (s : ByteArray) : typed (typed s) = typed s := by
  have := typeG_kt _ _ false (typed_kt s)
  unfold typed at this ⊢
  rw [this]
end Go.Proofs.Ytbdjlmdejlklkaa
