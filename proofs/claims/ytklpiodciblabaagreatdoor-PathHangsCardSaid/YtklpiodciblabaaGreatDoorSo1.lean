/-
  Plain Lean: bytes by place, sorted in a range by exchanges. Conditions: none.
-/
import Derived.Test.YtklpiodciblabaaGreatDoorVcL
import Derived.Test.YtklpiodciblabaaGreatDoorVn1
set_option linter.unusedSimpArgs false
set_option linter.unusedVariables false
namespace Go.Proofs.YtklpiodciblabaaGreatDoor
-- SoP
set_option maxRecDepth 100000
def swp (d : By) (i j : Nat) : By := fun k => if k = i then d j else if k = j then d i else d k
theorem put_swp (d : By) (i j : Nat) : put (put d i (d j)) j (d i) = swp d i j := by
  funext k
  unfold put swp
  by_cases h1 : k = j
  · rw [if_pos h1]
    by_cases h2 : k = i
    · rw [if_pos h2, ← h1, h2]
    · rw [if_neg h2, if_pos h1]
  · rw [if_neg h1, if_neg h1]
structure Sm (a b : Nat) (d d' : By) : Prop where
  out : ∀ i, ¬ (a ≤ i ∧ i < b) → d' i = d i
  to : ∀ i, a ≤ i → i < b → ∃ j, a ≤ j ∧ j < b ∧ d' i = d j
  fro : ∀ j, a ≤ j → j < b → ∃ i, a ≤ i ∧ i < b ∧ d' i = d j
theorem Sm.refl (a b : Nat) (d : By) : Sm a b d d := ⟨fun _ _ => rfl, fun i h1 h2 => ⟨i, h1, h2, rfl⟩, fun i h1 h2 => ⟨i, h1, h2, rfl⟩⟩
theorem Sm.trans {a b : Nat} {d e f : By} (h : Sm a b d e) (g : Sm a b e f) : Sm a b d f where
  out := fun i hi => (g.out i hi).trans (h.out i hi)
  to := fun i h1 h2 => by
    obtain ⟨j, h3, h4, h5⟩ := g.to i h1 h2
    obtain ⟨k, h6, h7, h8⟩ := h.to j h3 h4
    exact ⟨k, h6, h7, h5.trans h8⟩
  fro := fun j h1 h2 => by
    obtain ⟨i, h3, h4, h5⟩ := h.fro j h1 h2
    obtain ⟨k, h6, h7, h8⟩ := g.fro i h3 h4
    exact ⟨k, h6, h7, h8.trans h5⟩
theorem Sm.mono {a b a' b' : Nat} {d e : By} (h : Sm a b d e) (ha : a' ≤ a) (hb : b ≤ b') : Sm a' b' d e where
  out := fun i hi => h.out i (fun ⟨h1, h2⟩ => hi ⟨by omega, by omega⟩)
  to := fun i h1 h2 => by
    by_cases hi : a ≤ i ∧ i < b
    · obtain ⟨j, h3, h4, h5⟩ := h.to i hi.1 hi.2
      exact ⟨j, by omega, by omega, h5⟩
    · exact ⟨i, h1, h2, h.out i hi⟩
  fro := fun i h1 h2 => by
    by_cases hi : a ≤ i ∧ i < b
    · obtain ⟨j, h3, h4, h5⟩ := h.fro i hi.1 hi.2
      exact ⟨j, by omega, by omega, h5⟩
    · exact ⟨i, h1, h2, h.out i hi⟩
theorem Sm.swap {a b i j : Nat} (d : By) (h1 : a ≤ i) (h2 : i < b) (h3 : a ≤ j) (h4 : j < b) : Sm a b d (swp d i j) where
  out := fun k hk => by
    unfold swp
    rw [if_neg (fun e => hk (by rw [e]; exact ⟨h1, h2⟩)), if_neg (fun e => hk (by rw [e]; exact ⟨h3, h4⟩))]
  to := fun k h5 h6 => by
    unfold swp
    by_cases e : k = i
    · exact ⟨j, h3, h4, by rw [if_pos e]⟩
    · rw [if_neg e]
      by_cases e2 : k = j
      · exact ⟨i, h1, h2, by rw [if_pos e2]⟩
      · exact ⟨k, h5, h6, by rw [if_neg e2]⟩
  fro := fun k h5 h6 => by
    by_cases e : k = i
    · refine ⟨j, h3, h4, ?_⟩
      unfold swp
      by_cases e2 : j = i
      · rw [if_pos e2, e2, e]
      · rw [if_neg e2, if_pos rfl, e]
    · by_cases e2 : k = j
      · exact ⟨i, h1, h2, by unfold swp; rw [if_pos rfl, e2]⟩
      · exact ⟨k, h5, h6, by unfold swp; rw [if_neg e, if_neg e2]⟩
theorem Sm.all {a b : Nat} {d e : By} (h : Sm a b d e) {p : UInt8 → Prop} (hp : ∀ k, a ≤ k → k < b → p (d k)) : ∀ k, a ≤ k → k < b → p (e k) := fun k h1 h2 => by
  obtain ⟨j, h3, h4, h5⟩ := h.to k h1 h2
  rw [h5]
  exact hp j h3 h4
def Srt (a b : Nat) (d : By) : Prop := ∀ i, a ≤ i → i + 1 < b → (d i).toNat ≤ (d (i + 1)).toNat
theorem Srt.le {a b : Nat} {d : By} (h : Srt a b d) : ∀ {j i : Nat}, a ≤ i → i ≤ j → j < b → (d i).toNat ≤ (d j).toNat
  | 0, i, h1, h2, h3 => by rw [show i = 0 by omega]; exact Nat.le_refl _
  | j + 1, i, h1, h2, h3 => by
    rcases Nat.lt_or_ge i (j + 1) with h4 | h4
    · exact Nat.le_trans (h.le h1 (by omega) (by omega)) (h j (by omega) h3)
    · rw [show i = j + 1 by omega]; exact Nat.le_refl _
theorem Srt.out {a b c e : Nat} {d d' : By} (h : Srt a b d) (hs : Sm c e d d') (hd : b ≤ c ∨ e ≤ a) : Srt a b d' := fun i h1 h2 => by
  rw [hs.out i (by omega), hs.out (i + 1) (by omega)]
  exact h i h1 h2
theorem Srt.small {a b : Nat} (d : By) (h : b ≤ a + 1) : Srt a b d := fun i h1 h2 => by omega
structure Insd (a i j : Nat) (d : By) : Prop where
  lo : a ≤ j
  hi : j ≤ i
  one : ∀ k, a ≤ k → k + 1 ≤ i → k + 1 ≠ j → (d k).toNat ≤ (d (k + 1)).toNat
  two : a < j → j < i → (d (j - 1)).toNat ≤ (d (j + 1)).toNat
theorem Insd.start {a i : Nat} {d : By} (h : Srt a i d) (hai : a ≤ i) : Insd a i i d := ⟨hai, Nat.le_refl _, fun k h1 h2 h3 => h k h1 (by omega), fun _ h => by omega⟩
theorem Insd.step {a i j : Nat} {d : By} (h : Insd a i j d) (hj : a < j) (hlt : (d j).toNat < (d (j - 1)).toNat) : Insd a i (j - 1) (swp d j (j - 1)) where
  lo := by omega
  hi := by have := h.hi; omega
  one := fun k h1 h2 h3 => by
    have hji := h.hi
    unfold swp
    by_cases e1 : k + 1 = j
    · rw [if_neg (by omega), if_pos (by omega), if_pos e1]; omega
    · by_cases e2 : k = j
      · rw [if_pos e2, if_neg (by omega), if_neg (by omega)]
        have := h.two hj (by omega)
        rw [e2]; exact this
      · rw [if_neg e2, if_neg (by omega), if_neg e1, if_neg (by omega)]
        exact h.one k h1 h2 e1
  two := fun h1 h2 => by
    have hji := h.hi
    unfold swp
    rw [if_neg (by omega), if_neg (by omega), if_pos (by omega)]
    have := h.one (j - 1 - 1) (by omega) (by omega) (by omega)
    rwa [show j - 1 - 1 + 1 = j - 1 by omega] at this
theorem Insd.done {a i j : Nat} {d : By} (h : Insd a i j d) (he : j = a ∨ ¬ (d j).toNat < (d (j - 1)).toNat) : Srt a (i + 1) d := fun k h1 h2 => by
  have hl := h.lo
  by_cases e : k + 1 = j
  · have : ¬ (d j).toNat < (d (j - 1)).toNat := by
      rcases he with h' | h'
      · omega
      · exact h'
    rw [← e, Nat.add_sub_cancel] at this
    omega
  · exact h.one k h1 (by omega) e
def Hp (f lo hi : Nat) (d : By) : Prop := ∀ k c, lo ≤ k → (c = 2 * k + 1 ∨ c = 2 * k + 2) → c < hi → (d (f + c)).toNat ≤ (d (f + k)).toNat
structure Hq (f lo hi r : Nat) (d : By) : Prop where
  one : ∀ k c, lo ≤ k → k ≠ r → (c = 2 * k + 1 ∨ c = 2 * k + 2) → c < hi → (d (f + c)).toNat ≤ (d (f + k)).toNat
  two : ∀ k c, lo ≤ k → (r = 2 * k + 1 ∨ r = 2 * k + 2) → (c = 2 * r + 1 ∨ c = 2 * r + 2) → c < hi → (d (f + c)).toNat ≤ (d (f + k)).toNat
theorem Hq.start {f lo hi : Nat} {d : By} (h : Hp f (lo + 1) hi d) : Hq f lo hi lo d := ⟨fun k c h1 h2 h3 h4 => h k c (by omega) h3 h4, fun k c h1 h2 h3 h4 => by omega⟩
theorem Hq.step {f lo hi r ch : Nat} {d : By} (h : Hq f lo hi r d) (hr : lo ≤ r) (hc : ch = 2 * r + 1 ∨ ch = 2 * r + 2) (hch : ch < hi) (hlt : (d (f + r)).toNat < (d (f + ch)).toNat) (hmx : ∀ c, (c = 2 * r + 1 ∨ c = 2 * r + 2) → c < hi → (d (f + c)).toNat ≤ (d (f + ch)).toNat) : Hq f lo hi ch (swp d (f + r) (f + ch)) where
  one := fun k c h1 h2 h3 h4 => by
    unfold swp
    by_cases e1 : k = r
    · rw [if_neg (by omega), if_pos (show f + k = f + r by omega)]
      by_cases e2 : c = ch
      · rw [if_pos (by omega)]; omega
      · rw [if_neg (by omega)]; exact hmx c (by omega) h4
    · rw [if_neg (show ¬ f + k = f + r by omega), if_neg (show ¬ f + k = f + ch by omega)]
      by_cases e2 : c = r
      · rw [if_pos (by omega)]
        exact h.two k ch h1 (by omega) hc hch
      · rw [if_neg (by omega), if_neg (by omega)]
        exact h.one k c h1 e1 h3 h4
  two := fun k c h1 h2 h3 h4 => by
    have e : k = r := by omega
    unfold swp
    rw [if_neg (by omega), if_neg (by omega), if_pos (by omega)]
    exact h.one ch c (by omega) (by omega) h3 h4
theorem Hq.done {f lo hi r : Nat} {d : By} (h : Hq f lo hi r d) (he : ∀ c, (c = 2 * r + 1 ∨ c = 2 * r + 2) → c < hi → (d (f + c)).toNat ≤ (d (f + r)).toNat) : Hp f lo hi d := fun k c h1 h2 h3 => by
  by_cases e : k = r
  · rw [e]; exact he c (by omega) h3
  · exact h.one k c h1 e h2 h3
theorem Hp.top {f hi : Nat} {d : By} (h : Hp f 0 hi d) : ∀ k, k < hi → (d (f + k)).toNat ≤ (d f).toNat := fun k => by
  induction k using Nat.strongRecOn with
  | ind k ih =>
    intro hk
    rcases Nat.eq_zero_or_pos k with e | e
    · rw [e]; exact Nat.le_refl _
    · exact Nat.le_trans (h ((k - 1) / 2) k (Nat.zero_le _) (by omega) hk) (ih ((k - 1) / 2) (by omega) (by omega))
theorem Hp.none {f lo hi : Nat} (d : By) (h : hi ≤ 2 * lo + 1) : Hp f lo hi d := fun k c h1 h2 h3 => by omega
structure Hs (f hi i : Nat) (d : By) : Prop where
  le : i ≤ hi
  heap : Hp f 0 i d
  srt : Srt (f + i) (f + hi) d
  big : ∀ k c, k < i → i ≤ c → c < hi → (d (f + k)).toNat ≤ (d (f + c)).toNat
theorem Hs.start {f hi : Nat} {d : By} (h : Hp f 0 hi d) : Hs f hi hi d := ⟨Nat.le_refl _, h, Srt.small _ (by omega), fun k c h1 h2 h3 => by omega⟩
theorem Hs.step {f hi i : Nat} {d e : By} (h : Hs f hi (i + 1) d) (hs : Sm f (f + i) (swp d f (f + i)) e) (hh : Hp f 0 i e) : Hs f hi i e := by
  have hle := h.le
  have htop := h.heap.top
  have hlast : e (f + i) = d f := by
    rw [hs.out (f + i) (by omega)]
    unfold swp
    by_cases e0 : f + i = f
    · rw [if_pos e0, e0]
    · rw [if_neg e0, if_pos rfl]
  have hout : ∀ c, i < c → e (f + c) = d (f + c) := fun c hc => by
    rw [hs.out (f + c) (by omega)]
    unfold swp
    rw [if_neg (by omega), if_neg (by omega)]
  have hin : ∀ k, k < i → ∃ j, j < i + 1 ∧ e (f + k) = d (f + j) := fun k hk => by
    obtain ⟨j, h1, h2, h3⟩ := hs.to (f + k) (by omega) (by omega)
    rw [h3]
    unfold swp
    by_cases e1 : j = f
    · rw [if_pos e1]; exact ⟨i, by omega, rfl⟩
    · rw [if_neg e1, if_neg (by omega)]
      exact ⟨j - f, by omega, by rw [show f + (j - f) = j by omega]⟩
  refine ⟨by omega, hh, fun k h1 h2 => ?_, fun k c h1 h2 h3 => ?_⟩
  · by_cases e1 : k = f + i
    · rw [e1, hlast, show f + i + 1 = f + (i + 1) by omega, hout _ (by omega)]
      have := h.big 0 (i + 1) (by omega) (Nat.le_refl _) (by omega)
      exact this
    · have := h.srt k (by omega) h2
      rw [show k = f + (k - f) by omega, hout _ (by omega), show f + (k - f) + 1 = f + (k - f + 1) by omega, hout _ (by omega)]
      rwa [show f + (k - f) = k by omega, show f + (k - f + 1) = k + 1 by omega]
  · obtain ⟨j, h4, h5⟩ := hin k h1
    rw [h5]
    by_cases e1 : c = i
    · rw [e1, hlast]; exact htop j (by omega)
    · rw [hout c (by omega)]
      exact h.big j c (by omega) (by omega) h3
theorem Hs.done {f hi : Nat} {d : By} (h : Hs f hi 0 d) : Srt f (f + hi) d := h.srt
structure Pt (a b i j : Nat) (d : By) : Prop where
  lo : a + 1 ≤ i
  ij : i ≤ j + 1
  jb : j < b
  aj : a ≤ j
  small : ∀ k, a < k → k < i → (d k).toNat < (d a).toNat
  big : ∀ k, j < k → k < b → (d a).toNat ≤ (d k).toNat
structure Parted (a b m : Nat) (d : By) : Prop where
  am : a ≤ m
  mb : m < b
  small : ∀ k, a ≤ k → k < m → (d k).toNat ≤ (d m).toNat
  big : ∀ k, m ≤ k → k < b → (d m).toNat ≤ (d k).toNat
theorem Pt.up {a b i j : Nat} {d : By} (h : Pt a b i j d) (hij : i ≤ j) (hlt : (d i).toNat < (d a).toNat) : Pt a b (i + 1) j d :=
  ⟨by have := h.lo; omega, by omega, h.jb, h.aj, fun k h1 h2 => by
    by_cases e : k = i
    · rw [e]; exact hlt
    · exact h.small k h1 (by omega), h.big⟩
theorem Pt.down {a b i j : Nat} {d : By} (h : Pt a b i j d) (hij : i ≤ j) (hge : ¬ (d j).toNat < (d a).toNat) : Pt a b i (j - 1) d := by
  have hl := h.lo
  refine ⟨hl, by omega, by have := h.jb; omega, by omega, h.small, fun k h1 h2 => ?_⟩
  by_cases e : k = j
  · rw [e]; omega
  · exact h.big k (by omega) h2
theorem Pt.swap {a b i j : Nat} {d : By} (h : Pt a b i j d) (hij : i ≤ j) (hne : i ≠ j) (hi : ¬ (d i).toNat < (d a).toNat) (hj : (d j).toNat < (d a).toNat) : Pt a b (i + 1) (j - 1) (swp d i j) := by
  have hl := h.lo
  have hjb := h.jb
  refine ⟨by omega, by omega, by omega, by omega, fun k h1 h2 => ?_, fun k h1 h2 => ?_⟩
  · unfold swp
    rw [if_neg (show ¬ a = i by omega), if_neg (show ¬ a = j by omega)]
    by_cases e : k = i
    · rw [if_pos e]; exact hj
    · rw [if_neg e, if_neg (by omega)]; exact h.small k h1 (by omega)
  · unfold swp
    rw [if_neg (show ¬ a = i by omega), if_neg (show ¬ a = j by omega), if_neg (by omega)]
    by_cases e : k = j
    · rw [if_pos e]; omega
    · rw [if_neg e]; exact h.big k (by omega) h2
theorem Pt.done {a b i j : Nat} {d : By} (h : Pt a b i j d) (hij : j < i) : Parted a b j (swp d j a) := by
  have hl := h.lo
  have h2 := h.ij
  have e : i = j + 1 := by omega
  refine ⟨h.aj, h.jb, fun k h3 h4 => ?_, fun k h3 h4 => ?_⟩
  · unfold swp
    rw [if_pos rfl, if_neg (by omega)]
    by_cases e1 : k = a
    · rw [if_pos e1]
      rcases Nat.lt_or_ge a j with h5 | h5
      · exact Nat.le_of_lt (h.small j h5 (by omega))
      · omega
    · rw [if_neg e1]; exact Nat.le_of_lt (h.small k (by omega) (by omega))
  · unfold swp
    rw [if_pos rfl]
    by_cases e1 : k = j
    · rw [if_pos e1]; exact Nat.le_refl _
    · rw [if_neg e1, if_neg (by have := h.aj; omega)]; exact h.big k (by omega) h4
structure Pe (a b i j : Nat) (d : By) : Prop where
  lo : a + 1 ≤ i
  ij : i ≤ j + 1
  jb : j < b
  small : ∀ k, a < k → k < i → (d k).toNat ≤ (d a).toNat
  big : ∀ k, j < k → k < b → (d a).toNat < (d k).toNat
theorem Pe.up {a b i j : Nat} {d : By} (h : Pe a b i j d) (hij : i ≤ j) (hlt : ¬ (d a).toNat < (d i).toNat) : Pe a b (i + 1) j d :=
  ⟨by have := h.lo; omega, by omega, h.jb, fun k h1 h2 => by
    by_cases e : k = i
    · rw [e]; omega
    · exact h.small k h1 (by omega), h.big⟩
theorem Pe.down {a b i j : Nat} {d : By} (h : Pe a b i j d) (hij : i ≤ j) (hge : (d a).toNat < (d j).toNat) : Pe a b i (j - 1) d := by
  have hl := h.lo
  refine ⟨hl, by omega, by have := h.jb; omega, h.small, fun k h1 h2 => ?_⟩
  by_cases e : k = j
  · rw [e]; omega
  · exact h.big k (by omega) h2
theorem Pe.swap {a b i j : Nat} {d : By} (h : Pe a b i j d) (hij : i ≤ j) (hi : (d a).toNat < (d i).toNat) (hj : ¬ (d a).toNat < (d j).toNat) : Pe a b (i + 1) (j - 1) (swp d i j) := by
  have hl := h.lo
  have hjb := h.jb
  have hne : i ≠ j := fun e => by rw [e] at hi; exact hj hi
  refine ⟨by omega, by omega, by omega, fun k h1 h2 => ?_, fun k h1 h2 => ?_⟩
  · unfold swp
    rw [if_neg (show ¬ a = i by omega), if_neg (show ¬ a = j by omega)]
    by_cases e : k = i
    · rw [if_pos e]; omega
    · rw [if_neg e, if_neg (by omega)]; exact h.small k h1 (by omega)
  · unfold swp
    rw [if_neg (show ¬ a = i by omega), if_neg (show ¬ a = j by omega), if_neg (by omega)]
    by_cases e : k = j
    · rw [if_pos e]; exact hi
    · rw [if_neg e]; exact h.big k (by omega) h2
structure Pq (a0 b0 a b : Nat) (d : By) : Prop where
  a0a : a0 ≤ a
  ab : a ≤ b
  bb0 : b ≤ b0
  left : Srt a0 a d
  right : Srt b b0 d
  small : ∀ i k, a0 ≤ i → i < a → a ≤ k → k < b0 → (d i).toNat ≤ (d k).toNat
  big : ∀ i k, a0 ≤ i → i < b → b ≤ k → k < b0 → (d i).toNat ≤ (d k).toNat
  pre : a = 0 ∨ ∀ k, a ≤ k → k < b → (d (a - 1)).toNat ≤ (d k).toNat
theorem Pq.start {a b : Nat} {d : By} (h : a ≤ b) (hp : a = 0 ∨ ∀ k, a ≤ k → k < b → (d (a - 1)).toNat ≤ (d k).toNat) : Pq a b a b d :=
  ⟨Nat.le_refl _, h, Nat.le_refl _, Srt.small _ (by omega), Srt.small _ (by omega), fun i k h1 h2 => by omega, fun i k h1 h2 h3 h4 => by omega, hp⟩
theorem Pq.same {a0 b0 a b : Nat} {d e : By} (h : Pq a0 b0 a b d) (hs : Sm a b d e) : Pq a0 b0 a b e := by
  have h1 := h.a0a
  have h2 := h.ab
  have h3 := h.bb0
  refine ⟨h1, h2, h3, h.left.out hs (by omega), h.right.out hs (by omega), fun i k h4 h5 h6 h7 => ?_, fun i k h4 h5 h6 h7 => ?_, ?_⟩
  · rw [hs.out i (by omega)]
    by_cases hk : k < b
    · exact hs.all (p := fun x => (d i).toNat ≤ x.toNat) (fun k h8 h9 => h.small i k h4 h5 h8 (by omega)) k h6 hk
    · rw [hs.out k (by omega)]; exact h.small i k h4 h5 h6 h7
  · rw [hs.out k (by omega)]
    by_cases hi : a ≤ i
    · exact hs.all (p := fun x => x.toNat ≤ (d k).toNat) (fun i h8 h9 => h.big i k (by omega) h9 h6 h7) i hi h5
    · rw [hs.out i (by omega)]; exact h.big i k h4 h5 h6 h7
  · rcases h.pre with hp | hp
    · exact .inl hp
    · by_cases ha : a = 0
      · exact .inl ha
      · refine .inr fun k h8 h9 => ?_
        rw [hs.out (a - 1) (by omega)]
        exact hs.all (p := fun x => (d (a - 1)).toNat ≤ x.toNat) hp k h8 h9
theorem Pq.done {a0 b0 a b : Nat} {d : By} (h : Pq a0 b0 a b d) (hs : Srt a b d) : Srt a0 b0 d := fun i h1 h2 => by
  have h3 := h.a0a
  have h4 := h.ab
  have h5 := h.bb0
  by_cases e1 : i + 1 < a
  · exact h.left i h1 e1
  · by_cases e2 : i < a
    · exact h.small i (i + 1) h1 e2 (by omega) h2
    · by_cases e3 : i + 1 < b
      · exact hs i (by omega) e3
      · by_cases e4 : i < b
        · exact h.big i (i + 1) h1 e4 (by omega) h2
        · exact h.right i (by omega) h2
theorem Pq.goRight {a0 b0 a b m : Nat} {d e : By} (h : Pq a0 b0 a b d) (hp : Parted a b m d) (hs : Sm a m d e) (hr : Srt a m e) : Pq a0 b0 (m + 1) b e := by
  have h1 := h.a0a
  have h3 := h.bb0
  have h4 := hp.am
  have h5 := hp.mb
  have hm : e m = d m := hs.out m (by omega)
  have hq := h.same (hs.mono (Nat.le_refl _) (by omega))
  have hsm : ∀ k, a ≤ k → k < m → (e k).toNat ≤ (e m).toNat := by
    rw [hm]
    exact hs.all (p := fun x => x.toNat ≤ (d m).toNat) hp.small
  have hbg : ∀ k, m ≤ k → k < b → (e m).toNat ≤ (e k).toNat := fun k h6 h7 => by
    rw [hm, hs.out k (by omega)]; exact hp.big k h6 h7
  refine ⟨by omega, by omega, h3, fun i h6 h7 => ?_, hq.right, fun i k h6 h7 h8 h9 => ?_, fun i k h6 h7 h8 h9 => ?_, .inr fun k h6 h7 => ?_⟩
  · by_cases e1 : i + 1 < a
    · exact hq.left i h6 e1
    · by_cases e2 : i < a
      · exact hq.small i (i + 1) h6 e2 (by omega) (by omega)
      · by_cases e3 : i + 1 < m
        · exact hr i (by omega) e3
        · rw [show i + 1 = m by omega]; exact hsm i (by omega) (by omega)
  · by_cases e1 : i < a
    · exact hq.small i k h6 e1 (by omega) h9
    · by_cases e2 : k < b
      · have hk := hbg k (by omega) e2
        by_cases e3 : i = m
        · rw [e3]; exact hk
        · exact Nat.le_trans (hsm i (by omega) (by omega)) hk
      · exact hq.big i k (by omega) (by omega) (by omega) h9
  · exact hq.big i k h6 h7 h8 h9
  · rw [Nat.add_sub_cancel]; exact hbg k (by omega) h7
theorem Pq.goLeft {a0 b0 a b m : Nat} {d e : By} (h : Pq a0 b0 a b d) (hp : Parted a b m d) (hs : Sm (m + 1) b d e) (hr : Srt (m + 1) b e) : Pq a0 b0 a m e := by
  have h1 := h.a0a
  have h3 := h.bb0
  have h4 := hp.am
  have h5 := hp.mb
  have hm : e m = d m := hs.out m (by omega)
  have hq := h.same (hs.mono (by omega) (Nat.le_refl _))
  have hbg : ∀ k, m + 1 ≤ k → k < b → (e m).toNat ≤ (e k).toNat := by
    rw [hm]
    exact hs.all (p := fun x => (d m).toNat ≤ x.toNat) (fun k h6 h7 => hp.big k (by omega) h7)
  have hsm : ∀ k, a ≤ k → k < m → (e k).toNat ≤ (e m).toNat := fun k h6 h7 => by
    rw [hm, hs.out k (by omega)]; exact hp.small k h6 h7
  refine ⟨h1, h4, by omega, hq.left, fun i h6 h7 => ?_, hq.small, fun i k h6 h7 h8 h9 => ?_, ?_⟩
  · by_cases e1 : i = m
    · rw [e1]
      by_cases e2 : m + 1 < b
      · exact hbg (m + 1) (by omega) e2
      · exact hq.big m (m + 1) (by omega) h5 (by omega) (by omega)
    · by_cases e2 : i + 1 < b
      · exact hr i (by omega) e2
      · by_cases e3 : i < b
        · exact hq.big i (i + 1) (by omega) e3 (by omega) h7
        · exact hq.right i (by omega) h7
  · by_cases e1 : b ≤ k
    · exact hq.big i k h6 (by omega) e1 h9
    · have hk : (e m).toNat ≤ (e k).toNat := by
        by_cases e2 : k = m
        · rw [e2]; exact Nat.le_refl _
        · exact hbg k (by omega) (by omega)
      by_cases e3 : a ≤ i
      · exact Nat.le_trans (hsm i e3 h7) hk
      · exact hq.small i k h6 (by omega) (by omega) (by omega)
  · rcases hq.pre with hp' | hp'
    · exact .inl hp'
    · exact .inr fun k h6 h7 => hp' k h6 (by omega)
theorem Pq.goEq {a0 b0 a b m : Nat} {d e : By} (h : Pq a0 b0 a b d) (hs : Sm a b d e) (ham : a < m) (hmb : m ≤ b) (he : ∀ i k, a ≤ i → i < m → a ≤ k → k < b → (e i).toNat ≤ (e k).toNat) : Pq a0 b0 m b e := by
  have h1 := h.a0a
  have h3 := h.bb0
  have hq := h.same hs
  refine ⟨by omega, hmb, h3, fun i h6 h7 => ?_, hq.right, fun i k h6 h7 h8 h9 => ?_, hq.big, .inr fun k h6 h7 => he (m - 1) k (by omega) (by omega) (by omega) h7⟩
  · by_cases e1 : i + 1 < a
    · exact hq.left i h6 e1
    · by_cases e2 : i < a
      · exact hq.small i (i + 1) h6 e2 (by omega) (by omega)
      · exact he i (i + 1) (by omega) (by omega) (by omega) (by omega)
  · by_cases e1 : i < a
    · exact hq.small i k h6 e1 (by omega) h9
    · by_cases e2 : k < b
      · exact he i k (by omega) h7 (by omega) e2
      · exact hq.big i k h6 (by omega) (by omega) h9
-- SoW
open Go.RowKit
set_option maxRecDepth 100000
def rowsB (m : Nat) (d : By) : List (List Value) := (List.range m).map fun i => [b8 (d i)]
theorem rowsB_len (m : Nat) (d : By) : (rowsB m d).length = m := by unfold rowsB; rw [List.length_map, List.length_range]
theorem rowsB_row (m : Nat) (d : By) : ∀ r ∈ rowsB m d, r.length = 1 := fun r hr => by
  unfold rowsB at hr
  obtain ⟨i, _, rfl⟩ := List.mem_map.1 hr
  rfl
theorem rowsB_at {m : Nat} (d : By) {i : Nat} (h : i < m) : (rowsB m d)[i]? = some [b8 (d i)] := by
  unfold rowsB
  rw [List.getElem?_map, List.getElem?_range h]; rfl
theorem rowsB_set {m : Nat} (d : By) (j : Nat) (v : UInt8) : (rowsB m d).set j [b8 v] = rowsB m (put d j v) := by
  refine List.ext_getElem? fun i => ?_
  rw [List.getElem?_set, rowsB_len]
  rcases Nat.lt_or_ge i m with h | h
  · rw [rowsB_at _ h, rowsB_at _ h]
    unfold put
    by_cases e : j = i
    · rw [if_pos e, if_pos (by omega), if_pos e.symm]
    · rw [if_neg e, if_neg (fun x => e x.symm)]
  · rw [List.getElem?_eq_none (by rw [rowsB_len]; exact h), List.getElem?_eq_none (by rw [rowsB_len]; exact h)]
    by_cases e : j = i
    · rw [if_pos e, if_neg (by omega)]
    · rw [if_neg e]
theorem rowsB_of (l : List UInt8) : l.map (fun x => [b8 x]) = rowsB l.length (ofL l) := by
  refine List.ext_getElem? fun i => ?_
  rcases Nat.lt_or_ge i l.length with h | h
  · rw [rowsB_at _ h, List.getElem?_map, List.getElem?_eq_getElem h]
    unfold ofL
    rw [List.getD_eq_getElem?_getD, List.getElem?_eq_getElem h]; rfl
  · rw [List.getElem?_eq_none (by rw [List.length_map]; exact h), List.getElem?_eq_none (by rw [rowsB_len]; exact h)]
abbrev Res.byt (g m c : Nat) (d : By) : Res := .rws 5 1 (.slice (some ⟨g, 0, none⟩) m c) (rowsB m d)
theorem Own.bytCell {w0 w : World} {row : Option Nat} {rs : List Res} (H : Own w0 row w rs) (i : Nat) {g m c j : Nat} {d : By} (hi : rs[i]? = some (.byt g m c d)) (hj : j < m) : w.cell? ⟨g, 0 + j * 1, .none⟩ = some (b8 (d j)) := by
  obtain ⟨b, off, h1, h2⟩ := H.rowsAt i hi (rowsB_row m d) (by decide) j _ (rowsB_at d hj)
  cases h1
  exact h2 0 _ rfl
section
variable {P : Program} {l : List Oper} {Q : Exit → Act → World → Prop} {N : Nat} {a : Act} {env : List (Nat × Value)} {rest : List Oper} {d : Tmp} {ty : TypeId} {pos : String} {af : Array Edge} {g : Option (Nat × Bool)} {w w0 : World} {row : Option Nat} {rs : List Res} {Kt : Act → World → Prop}
theorem sStY {t : TypeId} {x y : Operand} {m c gb j : Nat} {s : By} {v : UInt8} (H : Own w0 row w rs) (i : Nat) (hz : ∀ w, (sizeOf t).run P w = .ok 1 w) (F : Has N a env) (hg : wants l env g = true)
    (hx : ev env x = some (.pointer (some ⟨gb, 0 + j * 1, none⟩))) (hy : ev env y = some (b8 v)) (hi : rs[i]? = some (.byt gb m c s)) (hj : j < m)
    (K : ∀ w, Own w0 row w (rs.set i (.byt gb m c (put s j v))) → wpList P l.toArray Q rest a w) : wpList P l.toArray Q (⟨none, .store t x y, ty, pos, af, g⟩ :: rest) a w := by
  refine sStW (k := 0) (j := j) H i hz F hg hx hy rfl hi (rowsB_row m s) (rowsB_at s hj) (by decide) (by omega) fun w h => K w ?_
  rw [show [b8 (s j)].set 0 (b8 v) = [b8 v] from rfl, rowsB_set] at h
  exact h
theorem oStY {t : TypeId} {x y : Operand} {m c gb j : Nat} {s : By} {v : UInt8} (H : Own w0 row w rs) (i : Nat) (hz : ∀ w, (sizeOf t).run P w = .ok 1 w) (F : Has N a env)
    (hx : ev env x = some (.pointer (some ⟨gb, 0 + j * 1, none⟩))) (hy : ev env y = some (b8 v)) (hi : rs[i]? = some (.byt gb m c s)) (hj : j < m)
    (K : ∀ w, Own w0 row w (rs.set i (.byt gb m c (put s j v))) → Kt a w) : (Oper.mk none (.store t x y) ty pos af g).wp P a w Kt Q := by
  refine oStW (k := 0) (j := j) H i hz F hx hy rfl hi (rowsB_row m s) (rowsB_at s hj) (by decide) (by omega) fun w h => K w ?_
  rw [show [b8 (s j)].set 0 (b8 v) = [b8 v] from rfl, rowsB_set] at h
  exact h
end
-- SoA
open Go.RowKit
set_option maxRecDepth 100000
theorem isNaN8_any (x : UInt8) (w0 : World) : Calls Tryz.prog 132 #[Go.Proofs.YtklpiodciblabaaGreatDoor.b8 x] w0 fun e w' => e = .returned (.bool false) ∧ Below w0.heap.size w0 w' := by
  have H := Own.start w0 none
  refine enterF Tryz.func132 rfl Tryz.ntmps132 rfl (fun a F => ?_);refine cSR fun K1 hK1=>sAs F rfl rfl rfl (qNK hK1 (qSR fun K2 hK2=>qMv rfl rfl rfl (qMv rfl rfl rfl (qBin rfl rfl rfl rfl bNeqB (qAs rfl rfl rfl (qNK hK2 ?_))))));clear hK1 hK2;clear F a;intro a F;refine wp_ret ?_;refine bRet Tryz.results132 F rfl ?_
  exact ⟨by simp, H.below⟩
theorem less_any (x y : UInt8) (w0 : World) : Calls Tryz.prog 117 #[Go.Proofs.YtklpiodciblabaaGreatDoor.b8 x, Go.Proofs.YtklpiodciblabaaGreatDoor.b8 y] w0 fun e w' => e = .returned (.bool (decide (x.toNat < y.toNat))) ∧ Below w0.heap.size w0 w' := by
  have H := Own.start w0 none
  refine enterF Tryz.func117 rfl Tryz.ntmps117 rfl (fun a F => ?_);refine cSR fun K1 hK1=>sAs F rfl rfl rfl (qNK hK1 (qSR fun K2 hK2=>qMv rfl rfl rfl ?_));clear hK1;clear F a;intro a F;refine sCall Tryz.call132 F rfl rfl rfl (isNaN8_any x _) ?_;rintro e w ⟨rfl, hb⟩;replace H := H.grow hb; clear hb;refine ⟨_, rfl, ?_⟩;clear F a; intro a F;refine sMv F rfl rfl rfl ?_;clear F a;intro a F
  refine F.split 7 rfl ?_ ?_ <;> (clear F; intro h7 F)
  ·
   cases h7
  refine sSk F rfl rfl (qSk rfl rfl (qSk rfl rfl (qPk rfl rfl rfl rfl (qMv rfl rfl rfl (qMv rfl rfl rfl (qMv rfl rfl rfl (qBin rfl rfl rfl rfl bLssB (qPk rfl rfl rfl rfl (qAs rfl rfl rfl (qNK hK2 ?_))))))))));clear hK2;clear F a;intro a F;refine wp_ret ?_;refine bRet Tryz.results117 F rfl ?_
  exact ⟨by simp [UInt8.lt_iff_toNat_lt], H.below⟩
theorem swp_now {w0 w : World} {row : Option Nat} {rs : List Res} {g n c i j : Nat} {d : By} (H : Own w0 row w (.byt g n c (put (put d i (d j)) j (d i)) :: rs)) : Own w0 row w (.byt g n c (swp d i j) :: rs) := by
  rw [put_swp] at H; exact H
set_option maxHeartbeats 1000000 in
theorem insSort_any (g n c : Nat) (d : By) (lo hi : Nat) (W : World) (row : Option Nat) (rs : List Res) (w0 : World) (H : Own W row w0 (.byt g n c d :: rs)) (hb : hi ≤ n) (hn : n ≤ 1000000) (hab : lo ≤ hi) :
    Calls Tryz.prog 111 #[.slice (some ⟨g, 0, none⟩) n c, .int .i64 (lo : Int), .int .i64 (hi : Int)] w0 fun e w' => e = .returned (.tuple #[]) ∧ ∃ d', Sm lo hi d d' ∧ Srt lo hi d' ∧ Own W row w' (.byt g n c d' :: rs) := by
  refine enterF Tryz.func111 rfl Tryz.ntmps111 rfl (fun a F => ?_);refine cSR fun K1 hK1=>sMv F rfl rfl rfl ?_;clear F a;intro a F
  refine sBin F rfl rfl rfl rfl (bAddN (j := 1) ?_) ?_
  focus omega
  clear F a; intro a F;refine sAs F rfl rfl rfl (qNK hK1 ?_);clear hK1;clear F a;intro a F;refine wp_block ?_
  refine cLoopR [0, 1, 2] (fun m ups w => ∃ (i : Nat) (e : By), m = hi - i ∧ ups = [(6, .int .i64 ((i : Nat) : Int))] ∧ lo + 1 ≤ i ∧ (i ≤ hi ∨ i = lo + 1) ∧ Sm lo hi d e ∧ Srt lo i e ∧ Own W row w (.byt g n c e :: rs)) F (hi - (lo + 1)) [(6, .int .i64 ((lo + 1 : Nat) : Int))] (by repeat (first | exact SubR.nil | (apply SubR.cons; · rfl))) ?_ ?_ ?_
  · exact ⟨lo + 1, d, rfl, rfl, Nat.le_refl _, .inr rfl, Sm.refl _ _ _, Srt.small _ (Nat.le_refl _), H⟩
  · repeat (first | exact trivial | refine Le.cons rfl ?_)
  clear F
  clear H
  intro m ups a w hI F
  obtain ⟨i, e, rfl, rfl, hai, hib, hsm, hsr, H⟩ := hI
  refine cSeq (fun K2 hK2 => ?_);refine cSR fun K3 hK3=>sMv F rfl rfl rfl (qMv rfl rfl rfl (qBin rfl rfl rfl rfl bLss (qNK hK3 ?_)));clear hK3;clear F a;intro a F
  refine cIf F rfl (fun h12 => ?_) (fun h12 => ?_)
  ·
   replace h12 := of_decide_eq_true h12
   have hil : i < hi := by omega
   refine wp_skip (hK2 _ _ ?_);clear hK2;refine cSeq (fun K4 hK4 => ?_);refine wp_block ?_;refine cSR fun K5 hK5=>sMv F rfl rfl rfl (qAs rfl rfl rfl (qNK hK5 ?_));clear hK5;clear F a;intro a F;refine wp_block ?_
   refine cLoopR [0, 1, 2, 6] (fun m ups w => ∃ (j : Nat) (f : By), m = j + 1 ∧ ups = [(7, .int .i64 ((j : Nat) : Int))] ∧ Insd lo i j f ∧ Sm lo hi d f ∧ Own W row w (.byt g n c f :: rs)) F (i + 1) [(7, .int .i64 ((i : Nat) : Int))] (by repeat (first | exact SubR.nil | (apply SubR.cons; · rfl))) ?_ ?_ ?_
   · exact ⟨i, e, rfl, rfl, Insd.start hsr (by omega), hsm, H⟩
   · repeat (first | exact trivial | refine Le.cons rfl ?_)
   clear F
   clear H
   intro m ups a w hI F
   obtain ⟨j, f, rfl, rfl, hins, hsm2, H⟩ := hI; have hjl := hins.lo; have hjh := hins.hi
   refine cSeq (fun K6 hK6 => ?_);refine cSeq (fun K7 hK7 => ?_);refine cRegRO (by kernel_rfl) H ?_;replace H := H.drew;refine eTF 0 rfl (by kernel_rfl) F rfl rfl rfl (fun w=>rMv F rfl) H qq0 (qTF 1 rfl (by kernel_rfl) rfl rfl rfl (fun a F w=>rMv F rfl) H qq0 (qTF 2 rfl (by kernel_rfl) rfl rfl rfl (fun a F w=>rBin F rfl rfl bGtr) H qq0 (qTF 3 rfl (by kernel_rfl) rfl rfl rfl (fun a F w=>rMv F rfl) H qq0 ?_)));clear F a;intro a F
   refine F.split 19 rfl ?_ ?_ <;> (clear F; intro h19 F)
   ·
    replace h19 := of_decide_eq_true h19
    have hja : lo < j := by omega
    refine eTF 4 rfl (by kernel_rfl) F rfl rfl rfl (fun w=>rMv F rfl) H qq0 (qTF 5 rfl (by kernel_rfl) rfl rfl rfl (fun a F w=>rMv F rfl) H qq0 ?_);clear F a;intro a F
    refine eTakeF (k := 6) (i := 6) rfl (by kernel_rfl) F rfl rfl rfl (fun w => rIx Tryz.underlying23 Tryz.sizeOf5 F rfl rfl ?_) H (fun _ _ _ h => h) ?_
    focus (first | omega | decide | (simp; omega))
    clear F a; intro a F;refine eT 7 rfl (by kernel_rfl) F rfl rfl rfl rfl (fun w H=>rLd Tryz.isAgg5 F rfl (H.bytCell 0 rfl (by omega))) H qq0 (qTF 8 rfl (by kernel_rfl) rfl rfl rfl (fun a F w=>rMv F rfl) H qq0 (qTF 9 rfl (by kernel_rfl) rfl rfl rfl (fun a F w=>rMv F rfl) H qq0 ?_));clear F a;intro a F
    refine eTakeF (k := 10) (i := 10) rfl (by kernel_rfl) F rfl rfl rfl (fun w => rBin F rfl rfl (bSubN (j := 1) ?_ ?_)) H (fun _ _ _ h => h) ?_
    focus omega
    focus omega
    clear F a; intro a F
    refine eTakeF (k := 11) (i := 11) rfl (by kernel_rfl) F rfl rfl rfl (fun w => rIx Tryz.underlying23 Tryz.sizeOf5 F rfl rfl ?_) H (fun _ _ _ h => h) ?_
    focus (first | omega | decide | (simp; omega))
    clear F a; intro a F;refine eT 12 rfl (by kernel_rfl) F rfl rfl rfl rfl (fun w H=>rLd Tryz.isAgg5 F rfl (H.bytCell 0 rfl (by omega))) H qq0 ?_;clear F a;intro a F;refine eOne (k := 13) (i := 13) rfl (by kernel_rfl) F rfl (oCall Tryz.call117 F rfl rfl (less_any (f j) (f (j - 1)) _) ?_);rintro e w ⟨rfl, hb⟩;replace H := H.grow hb; clear hb;refine ⟨_, rfl, ?_⟩;clear F a; intro a F;refine ePartO (by kernel_rfl) H ?_;refine eTF 14 rfl (by kernel_rfl) F rfl rfl rfl (fun w=>rPk F rfl rfl) H qq0 ?_;clear F a;intro a F;refine eNil (k := 15) (by kernel_rfl) ?_;refine hK7 _ _ ?_;clear hK7
    refine cIf F rfl (fun h30 => ?_) (fun h30 => ?_)
    ·
     refine wp_skip (hK6 _ _ ?_);clear hK6;refine cSeq (fun K8 hK8 => ?_);refine wp_block ?_;refine cRegRO (by kernel_rfl) H ?_;replace H := H.drew;refine eTF 0 rfl (by kernel_rfl) F rfl rfl rfl (fun w=>rMv F rfl) H qq0 (qTF 1 rfl (by kernel_rfl) rfl rfl rfl (fun a F w=>rMv F rfl) H qq0 (qTF 2 rfl (by kernel_rfl) rfl rfl rfl (fun a F w=>rMv F rfl) H qq0 (qTF 3 rfl (by kernel_rfl) rfl rfl rfl (fun a F w=>rMv F rfl) H qq0 ?_)));clear F a;intro a F
     refine eTakeF (k := 4) (i := 4) rfl (by kernel_rfl) F rfl rfl rfl (fun w => rBin F rfl rfl (bSubN (j := 1) ?_ ?_)) H (fun _ _ _ h => h) ?_
     focus omega
     focus omega
     clear F a; intro a F;refine eTF 5 rfl (by kernel_rfl) F rfl rfl rfl (fun w=>rMv F rfl) H qq0 (qTF 6 rfl (by kernel_rfl) rfl rfl rfl (fun a F w=>rMv F rfl) H qq0 ?_);clear F a;intro a F
     refine eTakeF (k := 7) (i := 7) rfl (by kernel_rfl) F rfl rfl rfl (fun w => rBin F rfl rfl (bSubN (j := 1) ?_ ?_)) H (fun _ _ _ h => h) ?_
     focus omega
     focus omega
     clear F a; intro a F
     refine eTakeF (k := 8) (i := 8) rfl (by kernel_rfl) F rfl rfl rfl (fun w => rIx Tryz.underlying23 Tryz.sizeOf5 F rfl rfl ?_) H (fun _ _ _ h => h) ?_
     focus (first | omega | decide | (simp; omega))
     clear F a; intro a F;refine eT 9 rfl (by kernel_rfl) F rfl rfl rfl rfl (fun w H=>rLd Tryz.isAgg5 F rfl (H.bytCell 0 rfl (by omega))) H qq0 (qTF 10 rfl (by kernel_rfl) rfl rfl rfl (fun a F w=>rMv F rfl) H qq0 (qTF 11 rfl (by kernel_rfl) rfl rfl rfl (fun a F w=>rMv F rfl) H qq0 ?_));clear F a;intro a F
     refine eTakeF (k := 12) (i := 12) rfl (by kernel_rfl) F rfl rfl rfl (fun w => rIx Tryz.underlying23 Tryz.sizeOf5 F rfl rfl ?_) H (fun _ _ _ h => h) ?_
     focus (first | omega | decide | (simp; omega))
     clear F a; intro a F;refine eT 13 rfl (by kernel_rfl) F rfl rfl rfl rfl (fun w H=>rLd Tryz.isAgg5 F rfl (H.bytCell 0 rfl (by omega))) H qq0 ?_;clear F a;intro a F
     refine eTakeF (k := 14) (i := 14) rfl (by kernel_rfl) F rfl rfl rfl (fun w => rIx Tryz.underlying23 Tryz.sizeOf5 F rfl rfl ?_) H (fun _ _ _ h => h) ?_
     focus (first | omega | decide | (simp; omega))
     clear F a; intro a F;refine eOne (k := 15) (i := 15) rfl (by kernel_rfl) F rfl (oStY H 0 Tryz.sizeOf5 F rfl rfl rfl (by omega) ?_);clear H; intro w H;refine ePartO (by kernel_rfl) H ?_
     refine eTakeF (k := 16) (i := 16) rfl (by kernel_rfl) F rfl rfl rfl (fun w => rIx Tryz.underlying23 Tryz.sizeOf5 F rfl rfl ?_) H (fun _ _ _ h => h) ?_
     focus (first | omega | decide | (simp; omega))
     clear F a; intro a F;refine eOne (k := 17) (i := 17) rfl (by kernel_rfl) F rfl (oStY H 0 Tryz.sizeOf5 F rfl rfl rfl (by omega) ?_);clear H; intro w H;refine ePartO (by kernel_rfl) H ?_;refine eNil (k := 18) (by kernel_rfl) ?_;refine hK8 _ _ (cReg (sMv F rfl rfl rfl ?_));clear hK8;clear F a;intro a F
     refine sBin F rfl rfl rfl rfl (bSubN (j := 1) ?_ ?_) ?_
     focus omega
     focus omega
     clear F a; intro a F;refine sAs F rfl rfl rfl ?_;clear F a;intro a F;refine sNil ?_
     (exact ⟨_, by omega, _, ⟨j - 1, _, rfl, rfl, hins.step hja (of_decide_eq_true h30), hsm2.trans (Sm.swap f (by omega) (by omega) (by omega) (by omega)), swp_now H⟩, F.to (by repeat (first | exact trivial | refine Le.cons rfl ?_))⟩)
    refine wp_exit ?_;refine hK4 _ _ (cReg (sMv F rfl rfl rfl ?_));clear hK4;clear F a;intro a F
    refine sBin F rfl rfl rfl rfl (bAddN (j := 1) ?_) ?_
    focus omega
    clear F a; intro a F;refine sAs F rfl rfl rfl ?_;clear F a;intro a F;refine sNil ?_
    first
    | (have hd := hins.done (.inr (of_decide_eq_false h30))
       exact ⟨_, by omega, _, ⟨i + 1, _, rfl, rfl, by omega, .inl (by omega), hsm2, hd, H⟩, F.to (by repeat (first | exact trivial | refine Le.cons rfl ?_))⟩)
    | (have hd := hins.done (.inl (by omega))
       exact ⟨_, by omega, _, ⟨i + 1, _, rfl, rfl, by omega, .inl (by omega), hsm2, hd, H⟩, F.to (by repeat (first | exact trivial | refine Le.cons rfl ?_))⟩)
   replace h19 := of_decide_eq_false h19;refine eSF 4 rfl (by kernel_rfl) F rfl rfl rfl H qq0 (qSF 5 rfl (by kernel_rfl) rfl rfl rfl H qq0 (qSF 6 rfl (by kernel_rfl) rfl rfl rfl H qq0 (qSF 7 rfl (by kernel_rfl) rfl rfl rfl H qq0 (qSF 8 rfl (by kernel_rfl) rfl rfl rfl H qq0 (qSF 9 rfl (by kernel_rfl) rfl rfl rfl H qq0 (qSF 10 rfl (by kernel_rfl) rfl rfl rfl H qq0 (qSF 11 rfl (by kernel_rfl) rfl rfl rfl H qq0 (qSF 12 rfl (by kernel_rfl) rfl rfl rfl H qq0 (qSF 13 rfl (by kernel_rfl) rfl rfl rfl H qq0 (qTF 14 rfl (by kernel_rfl) rfl rfl rfl (fun a F w=>rPk F rfl rfl) H qq0 ?_))))))))));clear F a;intro a F;refine eNil (k := 15) (by kernel_rfl) ?_;refine hK7 _ _ ?_;clear hK7;refine cIfF F rfl ?_;refine wp_exit ?_;refine hK4 _ _ (cReg (sMv F rfl rfl rfl ?_));clear hK4;clear F a;intro a F
   refine sBin F rfl rfl rfl rfl (bAddN (j := 1) ?_) ?_
   focus omega
   clear F a; intro a F;refine sAs F rfl rfl rfl ?_;clear F a;intro a F;refine sNil ?_
   first
   | (have hd := hins.done (.inr (of_decide_eq_false h30))
      exact ⟨_, by omega, _, ⟨i + 1, _, rfl, rfl, by omega, .inl (by omega), hsm2, hd, H⟩, F.to (by repeat (first | exact trivial | refine Le.cons rfl ?_))⟩)
   | (have hd := hins.done (.inl (by omega))
      exact ⟨_, by omega, _, ⟨i + 1, _, rfl, rfl, by omega, .inl (by omega), hsm2, hd, H⟩, F.to (by repeat (first | exact trivial | refine Le.cons rfl ?_))⟩)
  replace h12 := of_decide_eq_false h12;refine wp_exit ?_
  first | refine bEnd Tryz.results111 F ?_ | (simp only [Exit.then, Exit.inBlock, if_true]; (repeat (first | rw [if_pos rfl] | rw [if_neg (by decide)])); refine bEnd Tryz.results111 F ?_)
  exact ⟨rfl, e, hsm, fun k h1 h2 => hsr k h1 (by omega), H⟩
-- SoB
open Go.RowKit
set_option maxRecDepth 100000
section
variable {P : Program} {t : TypeId} {x y : Operand} {n m c i j : Nat} {yk : IntKind}
theorem bShlU (hc : c ≤ 64) : BinR P .shl t x y (.int .u64 (n : Int)) (.int yk (c : Int)) (.int .u64 ((n * 2 ^ c % 18446744073709551616 : Nat) : Int)) := fun w => by
  have h2 : Op.shift .shl .u64 (n : Int) yk (c : Int) = pure (.int .u64 (IntKind.u64.wrap ((n : Int) * 2 ^ (c : Int).toNat))) := shift_shl .u64 yk (n : Int) (c : Int) (by omega) (by show (c : Int) ≤ 64; omega)
  simp only [eqGuard_shl, binOp_shl, h2]
  show Result.ok (Value.int .u64 (IntKind.u64.wrap ((n : Int) * 2 ^ c))) w = _
  have e : IntKind.u64.wrap ((n : Int) * 2 ^ c) = ((n * 2 ^ c % 18446744073709551616 : Nat) : Int) := by
    rw [u64wrap]
    have : (n : Int) * ((2 : Int) ^ c) = ((n * 2 ^ c : Nat) : Int) := by simp
    rw [this]
    omega
  rw [e]
theorem bShrG (hc : c ≤ 64) : BinR P .shr t x y (.int .u64 (n : Int)) (.int yk (c : Int)) (.int .u64 ((n / 2 ^ c : Nat) : Int)) := fun w => by
  have h2 : Op.shift .shr .u64 (n : Int) yk (c : Int) = pure (.int .u64 ((n : Int) / 2 ^ (c : Int).toNat)) := shift_shr .u64 yk (n : Int) (c : Int) (by omega) (by show (c : Int) ≤ 64; omega)
  simp only [eqGuard_shr, binOp_shr, h2]
  show Result.ok (Value.int .u64 ((n : Int) / 2 ^ c)) w = _
  have e : (n : Int) / 2 ^ c = ((n / 2 ^ c : Nat) : Int) := by
    have : ((2 : Int) ^ c) = ((2 ^ c : Nat) : Int) := by simp
    rw [this]; exact (Int.natCast_ediv _ _).symm
  rw [e]
theorem bXorU (hn : n < 18446744073709551616) (hm : m < 18446744073709551616) : BinR P .xor t x y (.int .u64 (n : Int)) (.int .u64 (m : Int)) (.int .u64 ((n ^^^ m : Nat) : Int)) := fun w => by
  simp only [eqGuard, binOp, Op.intBits, go_sem]
  show Result.ok (Value.int .u64 (IntKind.u64.wrap ((BitVec.ofInt 64 (n : Int) ^^^ BitVec.ofInt 64 (m : Int)).toNat : Int))) w = _
  have e1 : (BitVec.ofInt 64 (n : Int) ^^^ BitVec.ofInt 64 (m : Int)).toNat = n ^^^ m := by
    rw [BitVec.toNat_xor, BitVec.ofInt_natCast, BitVec.ofInt_natCast, BitVec.toNat_ofNat, BitVec.toNat_ofNat, Nat.mod_eq_of_lt (by simpa using hn), Nat.mod_eq_of_lt (by simpa using hm)]
  rw [e1, wrapU (Nat.xor_lt_two_pow (n := 64) (by simpa using hn) (by simpa using hm))]
theorem bAndG (hn : n < 18446744073709551616) (hm : m < 18446744073709551616) : BinR P .and t x y (.int .u64 (n : Int)) (.int .u64 (m : Int)) (.int .u64 ((n &&& m : Nat) : Int)) := fun w => by
  simp only [eqGuard, binOp, Op.intBits, go_sem]
  show Result.ok (Value.int .u64 (IntKind.u64.wrap ((BitVec.ofInt 64 (n : Int) &&& BitVec.ofInt 64 (m : Int)).toNat : Int))) w = _
  have e1 : (BitVec.ofInt 64 (n : Int) &&& BitVec.ofInt 64 (m : Int)).toNat = n &&& m := by
    rw [BitVec.toNat_and, BitVec.ofInt_natCast, BitVec.ofInt_natCast, BitVec.toNat_ofNat, BitVec.toNat_ofNat, Nat.mod_eq_of_lt (by simpa using hn), Nat.mod_eq_of_lt (by simpa using hm)]
  rw [e1, wrapU (Nat.lt_of_le_of_lt Nat.and_le_left hn)]
theorem bSubU (hm : m ≤ n) (hn : n < 18446744073709551616) : BinR P .sub t x y (.int .u64 (n : Int)) (.int .u64 (m : Int)) (.int .u64 ((n - m : Nat) : Int)) := fun w => by
  have : (do eqGuard .sub t x y (.int .u64 (n : Int)) (.int .u64 (m : Int)); binOp .sub t (.int .u64 (n : Int)) (.int .u64 (m : Int)) : Sem Value).run P w = .ok (.int .u64 (IntKind.u64.wrap ((n : Int) - (m : Int)))) w := by simp [eqGuard, binOp, Op.intArith, go_sem]
  rw [this, show (n : Int) - (m : Int) = ((n - m : Nat) : Int) by omega, wrapU (by omega)]
theorem bQuoN (hi : i ≤ 9223372036854775807) (h : 0 < j) : BinR P .quo t x y (.int .i64 (i : Int)) (.int .i64 (j : Int)) (.int .i64 ((i / j : Nat) : Int)) := fun w => by
  have h1 : i / j ≤ i := Nat.div_le_self i j
  have h2 : (i : Int).tdiv (j : Int) = ((i / j : Nat) : Int) := by
    rw [Int.tdiv_eq_ediv_of_nonneg (by omega)]; exact (Int.natCast_ediv _ _).symm
  simp [eqGuard, go_sem, Op.intDiv, show j ≠ 0 by omega, h2]
  rw [← Int.natCast_ediv]
  exact wrapN (Nat.le_trans h1 hi)
theorem bMulT (h : i * j ≤ 9223372036854775807) : BinR P .mul t x y (.int .i64 (i : Int)) (.int .i64 (j : Int)) (.int .i64 ((i * j : Nat) : Int)) := fun w => by
  have : (do eqGuard .mul t x y (.int .i64 (i : Int)) (.int .i64 (j : Int)); binOp .mul t (.int .i64 (i : Int)) (.int .i64 (j : Int)) : Sem Value).run P w = .ok (.int .i64 (IntKind.i64.wrap ((i : Int) * (j : Int)))) w := by simp [eqGuard, binOp, Op.intArith, go_sem]
  rw [this, ← Int.natCast_mul, wrapN h]
end
end Go.Proofs.YtklpiodciblabaaGreatDoor
