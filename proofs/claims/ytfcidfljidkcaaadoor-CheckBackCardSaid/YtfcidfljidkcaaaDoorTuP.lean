/-
  Plain Lean: programs and outcomes with their threads and locations renumbered. Conditions: none.
-/
import Derived.Test.YtfcidfljidkcaaaDoorCkL
import Derived.Test.YtfcidfljidkcaaaDoorVcL
set_option linter.unusedSimpArgs false
set_option linter.unusedVariables false
namespace Go.Proofs.YtfcidfljidkcaaaDoor
set_option maxRecDepth 100000
theorem lenSub {α : Type} : ∀ {l q : List α}, l.Nodup → (∀ x ∈ l, x ∈ q) → l.length ≤ q.length
  | [], _, _, _ => Nat.zero_le _
  | x :: r, q, hn, h => by
    obtain ⟨a, b, rfl⟩ := List.append_of_mem (h x (by simp))
    have hn' := List.nodup_cons.1 hn
    have := lenSub (l := r) (q := a ++ b) hn'.2 (fun y hy => by
      have := h y (by simp [hy])
      rw [List.mem_append, List.mem_cons] at this
      rcases this with h1 | h1 | h1
      · exact List.mem_append.2 (.inl h1)
      · rw [h1] at hy; exact absurd hy hn'.1
      · exact List.mem_append.2 (.inr h1))
    simp only [List.length_append, List.length_cons] at this ⊢
    omega
/-- A permutation of the numbers below n. -/
structure IsPerm (n : Nat) (l : List Int) : Prop where
  len : l.length = n
  rng : ∀ i ∈ l, 0 ≤ i ∧ i < (n : Int)
  nod : l.Nodup
def posZ (l : List Int) (i : Nat) : Nat := l.findIdx (fun x => x == (i : Int))
def idxZ (l : List Int) (k : Nat) : Nat := (l.getD k 0).toNat
theorem idx_at {n : Nat} {l : List Int} (h : IsPerm n l) {k : Nat} (hk : k < n) : l[k]? = some ((idxZ l k : Nat) : Int) ∧ idxZ l k < n := by
  have hl : k < l.length := by rw [h.len]; exact hk
  have h1 := h.rng _ (List.getElem_mem hl)
  have e : l[k]? = some l[k] := List.getElem?_eq_getElem hl
  unfold idxZ
  rw [List.getD_eq_getElem?_getD, e]
  show some l[k] = some ((l[k].toNat : Nat) : Int) ∧ l[k].toNat < n
  exact ⟨by rw [Int.toNat_of_nonneg h1.1], by omega⟩
theorem nod_at {l : List Int} (h : l.Nodup) {i j : Nat} {x : Int} (hi : l[i]? = some x) (hj : l[j]? = some x) : i = j := by
  obtain ⟨h1, h2⟩ := List.getElem?_eq_some_iff.1 hi
  obtain ⟨h3, h4⟩ := List.getElem?_eq_some_iff.1 hj
  have hp := List.pairwise_iff_getElem.1 h
  rcases Nat.lt_trichotomy i j with h | h | h
  · exact absurd (h2.trans h4.symm) (hp i j h1 h3 h)
  · exact h
  · exact absurd (h4.trans h2.symm) (hp j i h3 h1 h)
theorem perm_mem {n : Nat} {l : List Int} (h : IsPerm n l) {i : Nat} (hi : i < n) : (i : Int) ∈ l := by
  apply Decidable.byContradiction
  intro hne
  have := lenSub (l := (i : Int) :: l) (q := (List.range n).map fun (k : Nat) => (k : Int)) (List.nodup_cons.2 ⟨hne, h.nod⟩) (fun x hx => by
    rw [List.mem_map]
    rcases List.mem_cons.1 hx with e | e
    · exact ⟨i, List.mem_range.2 hi, e.symm⟩
    · have := h.rng x e
      exact ⟨x.toNat, List.mem_range.2 (by omega), Int.toNat_of_nonneg this.1⟩)
  rw [List.length_cons, List.length_map, List.length_range, h.len] at this
  omega
theorem pos_at {n : Nat} {l : List Int} (h : IsPerm n l) {i : Nat} (hi : i < n) : posZ l i < n ∧ l[posZ l i]? = some (i : Int) := by
  have hm := perm_mem h hi
  have hlt : posZ l i < l.length := List.findIdx_lt_length_of_exists ⟨_, hm, by simp⟩
  have := List.findIdx_getElem (p := fun x => x == (i : Int)) (xs := l) (w := hlt)
  rw [beq_iff_eq] at this
  refine ⟨by rw [← h.len]; exact hlt, ?_⟩
  rw [List.getElem?_eq_getElem hlt]
  exact congrArg some this
theorem pos_of {n : Nat} {l : List Int} (h : IsPerm n l) {k i : Nat} (hi : i < n) (hk : l[k]? = some (i : Int)) : posZ l i = k := nod_at h.nod (pos_at h hi).2 hk
theorem pos_idx {n : Nat} {l : List Int} (h : IsPerm n l) {k : Nat} (hk : k < n) : posZ l (idxZ l k) = k := pos_of h (idx_at h hk).2 (idx_at h hk).1
theorem idx_pos {n : Nat} {l : List Int} (h : IsPerm n l) {i : Nat} (hi : i < n) : idxZ l (posZ l i) = i := by
  have := (pos_at h hi).2
  unfold idxZ
  rw [List.getD_eq_getElem?_getD, this]
  rfl
/-- The inverse. -/
def backZ (n : Nat) (l : List Int) : List Int := (List.range n).map fun i => ((posZ l i : Nat) : Int)
theorem back_get {n : Nat} {l : List Int} {i : Nat} (hi : i < n) : (backZ n l)[i]? = some ((posZ l i : Nat) : Int) := by
  unfold backZ
  rw [List.getElem?_map, List.getElem?_range hi]; rfl
theorem back_perm {n : Nat} {l : List Int} (h : IsPerm n l) : IsPerm n (backZ n l) := by
  refine ⟨by unfold backZ; rw [List.length_map, List.length_range], fun x hx => ?_, ?_⟩
  · unfold backZ at hx
    obtain ⟨i, hi, rfl⟩ := List.mem_map.1 hx
    have := (pos_at h (List.mem_range.1 hi)).1
    omega
  · unfold backZ
    refine List.pairwise_iff_getElem.2 fun i j hi hj hij => ?_
    rw [List.length_map, List.length_range] at hi hj
    rw [List.getElem_map, List.getElem_map, List.getElem_range, List.getElem_range]
    intro e
    have e' : posZ l i = posZ l j := by omega
    have h1 := idx_pos h hi
    have h2 := idx_pos h hj
    rw [e', h2] at h1
    omega
theorem back_idx {n : Nat} {l : List Int} {i : Nat} (hi : i < n) : idxZ (backZ n l) i = posZ l i := by
  unfold idxZ
  rw [List.getD_eq_getElem?_getD, back_get hi]; rfl
theorem back_pos {n : Nat} {l : List Int} (h : IsPerm n l) {k : Nat} (hk : k < n) : posZ (backZ n l) k = idxZ l k := by
  refine pos_of (back_perm h) hk ?_
  rw [back_get (idx_at h hk).2, pos_idx h hk]
/-- The new number of what bore number b. -/
def newN (l : List Int) (b : UInt8) : UInt8 := UInt8.ofNat (posZ l b.toNat)
theorem newN_nat {n : Nat} {l : List Int} (h : IsPerm n l) (hn : n ≤ 256) {b : UInt8} (hb : b.toNat < n) : (newN l b).toNat = posZ l b.toNat := by
  have := (pos_at h hb).1
  unfold newN
  rw [UInt8.toNat_ofNat']; omega
theorem newN_back {n : Nat} {l : List Int} (h : IsPerm n l) (hn : n ≤ 256) {b : UInt8} (hb : b.toNat < n) : newN (backZ n l) (newN l b) = b := by
  have h1 := newN_nat h hn hb
  have h2 := (pos_at h hb).1
  unfold newN at h1 ⊢
  rw [h1, back_pos h h2, idx_pos h hb]
  simp
def turnI (l : List Int) (x : Ins) : Ins := { x with loc := if hasB x.op 2 = true then newN l x.loc else x.loc }
def turnH (T L : List Int) : Nat → Cnd → Cnd
  | 0, c => c
  | h + 1, .mk k t n v kids => .mk k (if k = 1 then newN T t else t) (if k = 2 then newN L n else n) v (kids.map (turnH T L h))
def turnPr (h : Nat) (p : Prg) (T L : List Int) : Prg :=
  { p with locs := (List.range p.locs.length).map (fun k => p.locs.getD (idxZ L k) ByteArray.empty), init := (List.range p.locs.length).map (fun k => p.init.getD (idxZ L k) 0), threads := (List.range p.threads.length).map (fun k => (p.threads.getD (idxZ T k) []).map (turnI L)), cond := turnH T L h p.cond }
/-- An outcome renumbered. -/
def finT (f : By) (T L : List Int) : By := fun i =>
  if i < 32 then (if i / 8 < T.length then f (idxZ T (i / 8) * 8 + i % 8) else f i) else if i - 32 < L.length then f (32 + idxZ L (i - 32)) else f i
theorem fin_back {n m : Nat} {T L : List Int} (hT : IsPerm n T) (hL : IsPerm m L) (hn : n ≤ 4) (hm : m ≤ 6) (f : By) (i : Nat) (hi : i < 38) : finT (finT f T L) (backZ n T) (backZ m L) i = f i := by
  have l1 := (back_perm hT).len
  have l2 := (back_perm hL).len
  unfold finT
  rw [l1, l2, hT.len, hL.len]
  by_cases h : i < 32
  · rw [if_pos h]
    by_cases h2 : i / 8 < n
    · have h3 := (pos_at hT h2).1
      rw [if_pos h2, back_idx h2, if_pos (by omega), if_pos (by omega), show (posZ T (i / 8) * 8 + i % 8) / 8 = posZ T (i / 8) by omega, idx_pos hT h2, show i / 8 * 8 + (posZ T (i / 8) * 8 + i % 8) % 8 = i by omega]
    · rw [if_neg h2, if_pos h, if_neg h2]
  · rw [if_neg h]
    by_cases h2 : i - 32 < m
    · have h3 := (pos_at hL h2).1
      rw [if_pos h2, back_idx h2, if_neg (by omega), if_pos (by omega), show 32 + posZ L (i - 32) - 32 = posZ L (i - 32) by omega, idx_pos hL h2, show 32 + (i - 32) = i by omega]
    · rw [if_neg h2, if_neg h, if_neg h2]
theorem turnI_back {n : Nat} {l : List Int} (h : IsPerm n l) (hn : n ≤ 256) {x : Ins} (hx : hasB x.op 2 = true → x.loc.toNat < n) : turnI (backZ n l) (turnI l x) = x := by
  unfold turnI
  cases hb : hasB x.op 2 with
  | true => simp only [hb, if_true]; rw [newN_back h hn (hx hb)]
  | false => simp only [hb, Bool.false_eq_true, if_false]
theorem turnH_back {n m : Nat} {T L : List Int} (hT : IsPerm n T) (hL : IsPerm m L) (hn : n ≤ 256) (hm : m ≤ 256) : ∀ (h d : Nat) (c : Cnd), condOk (n : Int) (m : Int) d c = true → turnH (backZ n T) (backZ m L) h (turnH T L h c) = c
  | 0, _, _, _ => rfl
  | h + 1, 0, _, hc => by cases hc
  | h + 1, d + 1, .mk k t q v kids, hc => by
    have hk : kids.all (condOk (n : Int) (m : Int) d) = true ∨ kids = [] := by
      unfold condOk at hc
      split at hc
      · simp only [Bool.and_eq_true, beq_iff_eq] at hc; exact .inr (List.eq_nil_of_length_eq_zero hc.2)
      · split at hc
        · simp only [Bool.and_eq_true, beq_iff_eq] at hc; exact .inr (List.eq_nil_of_length_eq_zero hc.2)
        · split at hc
          · simp only [Bool.and_eq_true, beq_iff_eq] at hc; exact .inr (List.eq_nil_of_length_eq_zero hc.2)
          · split at hc
            · simp only [Bool.and_eq_true] at hc; exact .inl hc.2
            · split at hc
              · simp only [Bool.and_eq_true] at hc; exact .inl hc.2
              · cases hc
    have hkid : ∀ y ∈ kids, turnH (backZ n T) (backZ m L) h (turnH T L h y) = y := fun y hy => by
      rcases hk with hk | hk
      · exact turnH_back hT hL hn hm h d y (List.all_eq_true.1 hk y hy)
      · rw [hk] at hy; cases hy
    have e1 : (kids.map (turnH T L h)).map (turnH (backZ n T) (backZ m L) h) = kids := by
      rw [List.map_map]
      exact (List.map_congr_left (g := id) fun y hy => hkid y hy).trans (List.map_id _)
    show Cnd.mk k (if k = 1 then newN (backZ n T) (if k = 1 then newN T t else t) else (if k = 1 then newN T t else t)) (if k = 2 then newN (backZ m L) (if k = 2 then newN L q else q) else (if k = 2 then newN L q else q)) v _ = _
    rw [e1]
    have ht : (if k = 1 then newN (backZ n T) (if k = 1 then newN T t else t) else (if k = 1 then newN T t else t)) = t := by
      by_cases h1 : k = 1
      · rw [if_pos h1, if_pos h1]
        refine newN_back hT hn ?_
        unfold condOk at hc
        rw [h1, if_neg (by decide), if_pos rfl] at hc
        simp only [Bool.and_eq_true, decide_eq_true_eq] at hc
        omega
      · rw [if_neg h1, if_neg h1]
    have hq : (if k = 2 then newN (backZ m L) (if k = 2 then newN L q else q) else (if k = 2 then newN L q else q)) = q := by
      by_cases h1 : k = 2
      · rw [if_pos h1, if_pos h1]
        refine newN_back hL hm ?_
        unfold condOk at hc
        rw [h1, if_neg (by decide), if_neg (by decide), if_pos rfl] at hc
        simp only [Bool.and_eq_true, decide_eq_true_eq] at hc
        omega
      · rw [if_neg h1, if_neg h1]
    rw [ht, hq]
theorem condOk_turn {n m : Nat} {T L : List Int} (hT : IsPerm n T) (hL : IsPerm m L) (hn : n ≤ 256) (hm : m ≤ 256) : ∀ (h d : Nat) (c : Cnd), condOk (n : Int) (m : Int) d c = true → condOk (n : Int) (m : Int) d (turnH T L h c) = true
  | 0, _, _, hc => hc
  | h + 1, 0, _, hc => by cases hc
  | h + 1, d + 1, .mk k t q v kids, hc => by
    have hal : kids.all (condOk (n : Int) (m : Int) d) = true → (kids.map (turnH T L h)).all (condOk (n : Int) (m : Int) d) = true := fun hk => by
      rw [List.all_map, List.all_eq_true]
      exact fun y hy => condOk_turn hT hL hn hm h d y (List.all_eq_true.1 hk y hy)
    show condOk (n : Int) (m : Int) (d + 1) (.mk k (if k = 1 then newN T t else t) (if k = 2 then newN L q else q) v (kids.map (turnH T L h))) = true
    unfold condOk at hc ⊢
    rw [List.length_map]
    by_cases h0 : k = 0
    · rw [if_pos h0] at hc ⊢; rw [h0]; exact hc
    · rw [if_neg h0] at hc ⊢
      by_cases h1 : k = 1
      · rw [if_pos h1] at hc ⊢
        rw [if_pos h1, h1, if_neg (by decide)]
        simp only [Bool.and_eq_true, decide_eq_true_eq] at hc ⊢
        have ht : t.toNat < n := by omega
        have := newN_nat hT hn ht
        have := (pos_at hT ht).1
        exact ⟨⟨by omega, hc.1.2⟩, hc.2⟩
      · rw [if_neg h1] at hc ⊢
        by_cases h2 : k = 2
        · rw [if_pos h2] at hc ⊢
          rw [if_neg h1, if_pos h2]
          simp only [Bool.and_eq_true, decide_eq_true_eq] at hc ⊢
          have ht : q.toNat < m := by omega
          have := newN_nat hL hm ht
          have := (pos_at hL ht).1
          exact ⟨⟨by omega, hc.1.2⟩, hc.2⟩
        · rw [if_neg h2] at hc ⊢
          rw [if_neg h1, if_neg h2]
          by_cases h3 : k = 3 ∨ k = 4
          · rw [if_pos h3] at hc ⊢
            simp only [Bool.and_eq_true] at hc ⊢
            exact ⟨hc.1, hal hc.2⟩
          · rw [if_neg h3] at hc ⊢
            by_cases h5 : k = 5
            · rw [if_pos h5] at hc ⊢
              simp only [Bool.and_eq_true] at hc ⊢
              exact ⟨hc.1, hal hc.2⟩
            · rw [if_neg h5] at hc; cases hc
/-- Does a condition hold of an outcome? -/
def holdsH (f : By) : Nat → Cnd → Bool
  | 0, _ => false
  | h + 1, .mk k t n v kids =>
    if k = 1 then f (t.toNat % 4 * 8 + n.toNat % 8) == v else if k = 2 then f (32 + n.toNat % 6) == v
    else if k = 5 then (match kids with | [] => false | y :: _ => !holdsH f h y) else if k = 4 then kids.any (holdsH f h) else kids.all (holdsH f h)
theorem holds_turn {n m : Nat} {T L : List Int} (hT : IsPerm n T) (hL : IsPerm m L) (hn : n ≤ 4) (hm : m ≤ 6) (f : By) : ∀ (h d : Nat) (c : Cnd), condOk (n : Int) (m : Int) d c = true → holdsH (finT f T L) h (turnH T L h c) = holdsH f h c
  | 0, _, _, _ => rfl
  | h + 1, 0, _, hc => by cases hc
  | h + 1, d + 1, .mk k t q v kids, hc => by
    have hkid : kids.all (condOk (n : Int) (m : Int) d) = true → ∀ y ∈ kids, holdsH (finT f T L) h (turnH T L h y) = holdsH f h y := fun hk y hy => holds_turn hT hL hn hm f h d y (List.all_eq_true.1 hk y hy)
    show holdsH (finT f T L) (h + 1) (.mk k (if k = 1 then newN T t else t) (if k = 2 then newN L q else q) v (kids.map (turnH T L h))) = _
    unfold condOk at hc
    unfold holdsH
    by_cases h1 : k = 1
    · rw [h1, if_neg (by decide), if_pos rfl] at hc
      simp only [Bool.and_eq_true, decide_eq_true_eq] at hc
      have ht : t.toNat < n := by omega
      have e1 := newN_nat hT (by omega) ht
      have e2 := (pos_at hT ht).1
      have hq : q.toNat < 8 := UInt8.lt_iff_toNat_lt.1 hc.1.2
      rw [if_pos h1, if_pos h1, if_pos h1, h1, if_neg (by decide), e1]
      have e3 : finT f T L (posZ T t.toNat % 4 * 8 + q.toNat % 8) = f (t.toNat % 4 * 8 + q.toNat % 8) := by
        unfold finT
        rw [if_pos (by omega), hT.len, if_pos (by omega), show (posZ T t.toNat % 4 * 8 + q.toNat % 8) / 8 = posZ T t.toNat by omega, idx_pos hT ht, show (posZ T t.toNat % 4 * 8 + q.toNat % 8) % 8 = q.toNat % 8 by omega, show t.toNat % 4 = t.toNat by omega]
      rw [e3]
    · rw [if_neg h1, if_neg h1]
      by_cases h2 : k = 2
      · rw [h2, if_neg (by decide), if_neg (by decide), if_pos rfl] at hc
        simp only [Bool.and_eq_true, decide_eq_true_eq] at hc
        have ht : q.toNat < m := by omega
        have e1 := newN_nat hL (by omega) ht
        have e2 := (pos_at hL ht).1
        rw [if_pos h2, if_pos h2, if_pos h2, e1]
        have e3 : finT f T L (32 + posZ L q.toNat % 6) = f (32 + q.toNat % 6) := by
          unfold finT
          rw [if_neg (by omega), hL.len, if_pos (by omega), show 32 + posZ L q.toNat % 6 - 32 = posZ L q.toNat by omega, idx_pos hL ht, show q.toNat % 6 = q.toNat by omega]
        rw [e3]
      · rw [if_neg h2, if_neg h2]
        rw [if_neg h1, if_neg h2] at hc
        by_cases h0 : k = 0
        · rw [if_pos h0] at hc
          simp only [Bool.and_eq_true, beq_iff_eq] at hc
          rw [List.eq_nil_of_length_eq_zero hc.2]
          rfl
        · rw [if_neg h0] at hc
          have hk : kids.all (condOk (n : Int) (m : Int) d) = true := by
            split at hc
            · rw [Bool.and_eq_true] at hc; exact hc.2
            · split at hc
              · rw [Bool.and_eq_true] at hc; exact hc.2
              · cases hc
          have hh := hkid hk
          have ea : (kids.map (turnH T L h)).all (holdsH (finT f T L) h) = kids.all (holdsH f h) := by
            rw [List.all_map, Bool.eq_iff_iff, List.all_eq_true, List.all_eq_true]
            exact ⟨fun hx y hy => by rw [← hh y hy]; exact hx y hy, fun hx y hy => by show holdsH (finT f T L) h (turnH T L h y) = true; rw [hh y hy]; exact hx y hy⟩
          have eo : (kids.map (turnH T L h)).any (holdsH (finT f T L) h) = kids.any (holdsH f h) := by
            rw [List.any_map, Bool.eq_iff_iff, List.any_eq_true, List.any_eq_true]
            exact ⟨fun ⟨y, hy, hx⟩ => ⟨y, hy, by rw [← hh y hy]; exact hx⟩, fun ⟨y, hy, hx⟩ => ⟨y, hy, by show holdsH (finT f T L) h (turnH T L h y) = true; rw [hh y hy]; exact hx⟩⟩
          rw [ea, eo]
          cases kids with
          | nil => rfl
          | cons y r =>
            show (if k = 5 then !holdsH (finT f T L) h (turnH T L h y) else _) = _
            rw [hh y (by simp)]
end Go.Proofs.YtfcidfljidkcaaaDoor
