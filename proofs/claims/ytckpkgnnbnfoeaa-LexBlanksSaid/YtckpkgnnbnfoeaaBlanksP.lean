/-
  Plain Lean: a source's tokens, written with blanks, comments and empty lines between them, are lexed as the same tokens. Nothing of the program. Conditions: none.
-/
import Derived.Test.YtckpkgnnbnfoeaaBackP
namespace Go.Proofs.Ytckpkgnnbnfoeaa

def b1 (b : UInt8) : ByteArray := ⟨#[b]⟩
/-- What is written for a token. -/
def pieceG (r : ByteArray) (q : Bool) (kd : Int) (tx : ByteArray) : ByteArray :=
  tx ++ (b1 32 ++ ((if kd = 4 then b1 9 ++ (b1 35 ++ (r ++ (b1 10 ++ b1 10))) else ByteArray.empty) ++ (if q then b1 9 ++ b1 32 else ByteArray.empty)))
/-- What is written for the tokens from number i on. -/
def sufG (r : ByteArray) (q : Nat → Bool) : Nat → List AT → ByteArray
  | _, [] => ByteArray.empty
  | i, t :: ts => pieceG r (q i) t.kind t.text ++ sufG r q (i + 1) ts
theorem empty_app (x : ByteArray) : ByteArray.empty ++ x = x := by
  apply ByteArray.ext; rw [ByteArray.data_append]; show #[] ++ x.data = x.data; simp
theorem app_empty (x : ByteArray) : x ++ ByteArray.empty = x := by
  apply ByteArray.ext; rw [ByteArray.data_append]; show x.data ++ #[] = x.data; simp
theorem K_q (q : Bool) (post : ByteArray) (o : Bool) : K ((if q then b1 9 ++ b1 32 else ByteArray.empty) ++ post) o = K post o := by
  cases q
  · rw [if_neg (by decide), empty_app]
  · rw [if_pos rfl, ByteArray.append_assoc]
    exact (K_blank 9 (by rfl) _ o).trans (K_blank 32 (by rfl) _ o)
theorem st_32 (post : ByteArray) : St (b1 32 ++ post) := by
  intro h
  obtain ⟨h3, h4⟩ := one_at 32 post
  right
  exact congrArg UInt8.toNat h4
theorem K_sufG (r : ByteArray) (hr : ∀ i (h : i < r.size), cls r[i].toNat ≠ 2) (q : Nat → Bool) : ∀ (ts : List Tok) (i : Nat) (o : Bool), G o (ts.map kt) → K (sufG r q i (ups ts)) o = ts.map kt
  | [], i, o, h => by
    have : o = false := h
    subst this
    exact K_empty false
  | t :: ts, i, o, h => by
    have hu : ups (t :: ts) = t.up :: ups ts := rfl
    rw [List.map_cons, G] at h
    rw [hu, sufG, List.map_cons, pieceG]
    by_cases h4 : t.kind = 4
    · rw [if_pos (show (kt t).1 = 4 from h4)] at h
      obtain ⟨rfl, h2, h3⟩ := h
      have h2' : t.up.text = ByteArray.empty := h2
      rw [if_pos (show t.up.kind = 4 from by simp only [Tok.up]; omega), h2', empty_app]
      simp only [ByteArray.append_assoc]
      refine (K_blank 32 (by rfl) _ true).trans ?_
      refine (K_blank 9 (by rfl) _ true).trans ?_
      refine (K_remark r _ true hr).trans ?_
      refine (K_nl _ true).trans ?_
      have h5 : K (b1 10 ++ ((if q i = true then b1 9 ++ b1 32 else ByteArray.empty) ++ sufG r q (i + 1) (ups ts))) false = ts.map kt := by
        refine (K_nl _ false).trans ?_
        rw [K_q, K_sufG r hr q ts (i + 1) false h3]; rfl
      have e : kt t = (4, ByteArray.empty) := by unfold kt; rw [h4]; exact congrArg (Prod.mk 4) h2
      rw [e]
      show [(4, ByteArray.empty)] ++ K (b1 10 ++ _) false = _
      rw [h5]; rfl
    · rw [if_neg (show ¬ (kt t).1 = 4 from h4)] at h
      obtain ⟨hg, h3⟩ := h
      rw [if_neg (show ¬ t.up.kind = 4 from by simp only [Tok.up]; omega), empty_app, ByteArray.append_assoc, ByteArray.append_assoc]
      refine (K_tok (kd := t.kind) (tx := t.text) o hg (st_32 _)).trans ?_
      have h5 : K (b1 32 ++ ((if q i = true then b1 9 ++ b1 32 else ByteArray.empty) ++ sufG r q (i + 1) (ups ts))) true = ts.map kt := by
        refine (K_blank 32 (by rfl) _ true).trans ?_
        rw [K_q, K_sufG r hr q ts (i + 1) true h3]
      rw [h5]; rfl
/-- The whole text. -/
def spaced (r : ByteArray) (q : Nat → Bool) (s : ByteArray) : ByteArray := (⟨#[10, 32, 9]⟩ : ByteArray) ++ sufG r q 0 (ups (toks s))
theorem spaced_kt (r : ByteArray) (hr : ∀ i (h : i < r.size), cls r[i].toNat ≠ 2) (q : Nat → Bool) (s : ByteArray) : (toks (spaced r q s)).map kt = (toks s).map kt := by
  have h1 : (⟨#[10, 32, 9]⟩ : ByteArray) ++ sufG r q 0 (ups (toks s)) = b1 10 ++ (b1 32 ++ (b1 9 ++ sufG r q 0 (ups (toks s)))) := by
    rw [← ByteArray.append_assoc, ← ByteArray.append_assoc]; rfl
  have h2 : K (spaced r q s) false = (toks s).map kt := by
    unfold spaced
    rw [h1]
    refine (K_nl _ false).trans ?_
    refine Eq.trans (b := K (b1 32 ++ (b1 9 ++ sufG r q 0 (ups (toks s)))) false) rfl ?_
    refine (K_blank 32 (by rfl) _ false).trans ?_
    refine (K_blank 9 (by rfl) _ false).trans ?_
    exact K_sufG r hr q (toks s) 0 false (G_toks s)
  rw [toks_rest]; exact h2
theorem spaced_none (r : ByteArray) (hr : ∀ i (h : i < r.size), cls r[i].toNat ≠ 2) (q : Nat → Bool) {s : ByteArray} (h : lexBad s = none) (hz : (spaced r q s).size ≤ 16384) : lexBad (spaced r q s) = none := by
  unfold lexBad at h ⊢
  split at h
  · cases h
  · rw [if_neg (by omega)]
    rw [Option.map_eq_none_iff] at h ⊢
    exact firstBad_kt _ _ (spaced_kt r hr q s) h
theorem spaced_long {r : ByteArray} {q : Nat → Bool} {s : ByteArray} (hz : 16384 < (spaced r q s).size) : lexBad (spaced r q s) = some (0, 3) := by
  unfold lexBad; rw [if_pos hz]
/-- One token more has been written. -/
theorem suf_step {r : ByteArray} {q : Nat → Bool} {ts : List AT} {j : Nat} {t : AT} (h : ts[j]? = some t) : sufG r q j (ts.drop j) = pieceG r (q j) t.kind t.text ++ sufG r q (j + 1) (ts.drop (j + 1)) := by
  obtain ⟨h1, h2⟩ := List.getElem?_eq_some_iff.1 h
  rw [List.drop_eq_getElem_cons h1, h2, sufG]
end Go.Proofs.Ytckpkgnnbnfoeaa
