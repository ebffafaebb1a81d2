/-
  Plain Lean: a condition's tokens are parsed alike in another place. Nothing of the program. Conditions: none.
-/
import Derived.Test.YtbdjlmdejlklkaaPrT
set_option linter.unusedSimpArgs false
set_option linter.unusedVariables false
namespace Go.Proofs.Ytbdjlmdejlklkaa

theorem Rs.bind_ok {α β : Type} {r : Rs α} {f : α → PS → Rs β} {v : β} {t : PS} (h : r.bind f = .ok v t) : ∃ u s, r = .ok u s ∧ f u s = .ok v t := by
  cases r with
  | ok u s => exact ⟨u, s, rfl, h⟩
  | no p e => cases h
/-- From place i of c on k tokens are those from place j of d on; behind them no part of a condition follows in d. -/
structure Nigh (c d : PX) (i j k : Nat) : Prop where
  kind : ∀ a, a < k → d.kind (j + a) = c.kind (i + a)
  text : ∀ a, a < k → d.text (j + a) = c.text (i + a)
  also : d.is (j + k) [38] = false
  either : d.is (j + k) [124] = false
  room : j + k ≤ d.ts.length
  fixed : d.fixed = c.fixed
/-- Places that answer to each other. -/
structure Near (i j k : Nat) (s t : PS) : Prop where
  pos : t.pos + i = s.pos + j
  ge : i ≤ s.pos
  le : s.pos ≤ i + k
  names : t.names = s.names
section
variable {c d : PX} {i j k : Nat} (h : Nigh c d i j k)
include h
theorem Nigh.kindAt {s t : PS} (hn : Near i j k s t) (hs : s.pos < i + k) : d.kind t.pos = c.kind s.pos := by
  have := h.kind (s.pos - i) (by have := hn.ge; omega)
  have h1 := hn.pos; have h2 := hn.ge
  rwa [show j + (s.pos - i) = t.pos by omega, show i + (s.pos - i) = s.pos by omega] at this
theorem Nigh.textAt {s t : PS} (hn : Near i j k s t) (hs : s.pos < i + k) : d.text t.pos = c.text s.pos := by
  have := h.text (s.pos - i) (by have := hn.ge; omega)
  have h1 := hn.pos; have h2 := hn.ge
  rwa [show j + (s.pos - i) = t.pos by omega, show i + (s.pos - i) = s.pos by omega] at this
theorem Nigh.wordAt {s t : PS} (hn : Near i j k s t) (hs : s.pos < i + k) : d.word t.pos = c.word s.pos := by unfold PX.word; rw [h.kindAt hn hs, h.textAt hn hs]
theorem Nigh.isAt {s t : PS} (hn : Near i j k s t) (hs : s.pos < i + k) (str : List UInt8) : d.is t.pos str = c.is s.pos str := by unfold PX.is; rw [h.kindAt hn hs, h.textAt hn hs]
theorem Nigh.kwAt {s t : PS} (hn : Near i j k s t) (hs : s.pos < i + k) (str : List UInt8) : d.kw t.pos str = c.kw s.pos str := by unfold PX.kw; rw [h.wordAt hn hs]
omit h in
theorem Near.next {s t : PS} (hn : Near i j k s t) (hs : s.pos < i + k) : Near i j k s.next t.next := ⟨by have := hn.pos; show t.pos + 1 + i = s.pos + 1 + j; omega, Nat.le_succ_of_le hn.ge, hs, hn.names⟩
omit h in
/-- An answer within the tokens is given in the other place too. -/
def Lc {α : Type} (i j k : Nat) (r r' : Rs α) : Prop := ∀ v t, r = .ok v t → t.pos ≤ i + k → ∃ t', r' = .ok v t' ∧ Near i j k t t'
omit h in
theorem Lc.ok {α : Type} {v : α} {s t : PS} (hn : Near i j k s t) : Lc i j k (.ok v s) (.ok v t) := fun v' t' he _ => by cases he; exact ⟨t, rfl, hn⟩
omit h in
theorem Lc.no {α : Type} {p e : Nat} {r : Rs α} : Lc i j k (.no p e) r := fun v t he _ => by cases he
omit h in
theorem Lc.bind {α β : Type} {r r' : Rs α} {f f' : α → PS → Rs β} (h1 : Lc i j k r r') (hm : ∀ v t, r = .ok v t → (f v t).All fun _ u => t.pos ≤ u.pos) (h2 : ∀ v t t', r = .ok v t → Near i j k t t' → Lc i j k (f v t) (f' v t')) : Lc i j k (r.bind f) (r'.bind f') := fun v t he hle => by
  obtain ⟨u, s, hr, hf⟩ := Rs.bind_ok he
  have hs := hm u s hr v t hf
  obtain ⟨s', hr', hn⟩ := h1 u s hr (Nat.le_trans hs hle)
  obtain ⟨t', ht', hn'⟩ := h2 u s s' hr hn v t hf hle
  exact ⟨t', by rw [hr']; exact ht', hn'⟩
omit h in
/-- Where the way on lies within the tokens. -/
theorem Lc.room {α : Type} {s : PS} {r r' : Rs α} (hg : r.All fun _ t => s.pos < t.pos) (h1 : s.pos < i + k → Lc i j k r r') : Lc i j k r r' := fun v t he hle => h1 (Nat.lt_of_lt_of_le (hg v t he) hle) v t he hle
theorem sign_lc (str : List UInt8) {s t : PS} (hn : Near i j k s t) : Lc i j k (signP c str s) (signP d str t) := by
  refine .room (signP_all.imp fun _ _ h => h.1.lt) fun hs => ?_
  unfold signP failP
  rw [h.isAt hn hs]
  split
  · exact .ok (hn.next hs)
  · exact .no
theorem num_lc {s t : PS} (hn : Near i j k s t) : Lc i j k (numQ c s) (numQ d t) := by
  refine .room (numQ_all.imp fun _ _ h => h.1.lt) fun hs => ?_
  unfold numQ failP
  rw [h.kindAt hn hs, h.textAt hn hs]
  split
  · exact .ok (hn.next hs)
  · exact .no
theorem reg_lc {s t : PS} (hn : Near i j k s t) : Lc i j k (regQ c s) (regQ d t) := by
  refine .room (regQ_all.imp fun _ _ h => h.1.lt) fun hs => ?_
  unfold regQ failP
  rw [h.wordAt hn hs]
  split
  · exact .ok (hn.next hs)
  · exact .no
theorem loc_lc {s t : PS} (hn : Near i j k s t) : Lc i j k (locP c s) (locP d t) := by
  refine .room (locP_all.imp fun _ _ h => h.1.lt) fun hs => ?_
  unfold locP failP
  rw [h.wordAt hn hs, hn.names, h.fixed]
  by_cases hno : nameOk (c.word s.pos) = true
  · rw [if_pos hno, if_pos hno]
    cases idxOf (c.word s.pos) s.names 0 with
    | some _ => exact .ok (hn.next hs)
    | none =>
      show Lc i j k (if c.fixed = true then _ else if s.names.length = 6 then _ else _) (if c.fixed = true then _ else if s.names.length = 6 then _ else _)
      by_cases hfx : c.fixed = true
      · rw [if_pos hfx]; exact .no
      · rw [if_neg hfx, if_neg hfx]
        by_cases h6 : s.names.length = 6
        · rw [if_pos h6]; exact .no
        · rw [if_neg h6, if_neg h6]; exact .ok ⟨(hn.next hs).pos, (hn.next hs).ge, (hn.next hs).le, rfl⟩
  · rw [if_neg hno]; exact .no
/-- A part of a condition, with its parser in the other place. -/
def PartLc (c : PX) (i j k : Nat) (p q : PS → Rs Cnd) : Prop := (∀ s, (p s).All fun _ t => Gs c s t) ∧ ∀ s t, Near i j k s t → Lc i j k (p s) (q t)
theorem Nigh.stop {s t : PS} (hn : Near i j k s t) {str : List UInt8} (hstr : str = [38] ∨ str = [124]) (hf : c.is s.pos str = false) : d.is t.pos str = false := by
  rcases Nat.lt_or_ge s.pos (i + k) with h1 | h1
  · rw [h.isAt hn h1, hf]
  · have := hn.le; have := hn.pos
    rw [show t.pos = j + k by omega]
    rcases hstr with rfl | rfl
    · exact h.also
    · exact h.either
theorem sevL_lc {p q : PS → Rs Cnd} (hp : PartLc c i j k p q) {str : List UInt8} (hstr : str = [38] ∨ str = [124]) : ∀ (f g : Nat) (ks : List Cnd) (s t : PS), f ≤ g → Near i j k s t → Lc i j k (sevL c p str f ks s) (sevL d q str g ks t)
  | 0, g, ks, s, t, _, _ => .no
  | f + 1, 0, ks, s, t, hfg, _ => by omega
  | f + 1, g + 1, ks, s, t, hfg, hn => by
    unfold sevL
    cases hi : c.is s.pos str with
    | false =>
      rw [h.stop hn hstr hi]
      exact .ok hn
    | true =>
      intro v u he hle
      have he2 : ((p s.next).bind fun k t => sevL c p str f (ks ++ [k]) t) = .ok v u := he
      obtain ⟨x, s1, h1, h2⟩ := Rs.bind_ok he2
      have g1 := (sevL_all hp.1 f _ s1) v u h2
      have g2 := hp.1 s.next x s1 h1
      have hs : s.pos < i + k := by have := g2.lt; have : s.next.pos = s.pos + 1 := rfl; omega
      obtain ⟨t1, h3, h4⟩ := hp.2 s.next t.next (hn.next hs) x s1 h1 (by omega)
      obtain ⟨t', h5, h6⟩ := sevL_lc hp hstr f g (ks ++ [x]) s1 t1 (by omega) h4 v u h2 hle
      refine ⟨t', ?_, h6⟩
      rw [h.isAt hn hs, hi]
      show ((q t.next).bind fun k t => sevL d q str g (ks ++ [k]) t) = _
      rw [h3]
      exact h5
theorem sev_lc {p q : PS → Rs Cnd} (hp : PartLc c i j k p q) (kind : UInt8) {str : List UInt8} (hstr : str = [38] ∨ str = [124]) (hl : c.ts.length ≤ d.ts.length) : PartLc c i j k (sevP c kind str p) (sevP d kind str q) := by
  refine ⟨sevP_all hp.1, fun s t hn => ?_⟩
  intro v u he hle
  unfold sevP at he ⊢
  obtain ⟨x, s1, h1, h2⟩ := Rs.bind_ok he
  have g2 := hp.1 s x s1 h1
  cases hi : c.is s1.pos str with
  | false =>
    rw [hi] at h2
    have h2 : Rs.ok x s1 = .ok v u := h2
    cases h2
    obtain ⟨t1, h3, h4⟩ := hp.2 s t hn _ _ h1 hle
    refine ⟨t1, ?_, h4⟩
    rw [h3]
    show (if d.is t1.pos str = true then _ else _) = _
    rw [h.stop h4 hstr hi]
    rfl
  | true =>
    rw [hi] at h2
    have h2 : ((sevL c p str c.ts.length [x] s1).bind fun ks u => Rs.ok (Cnd.mk kind 0 0 0 ks) u) = .ok v u := h2
    obtain ⟨ks, s2, h3, h4⟩ := Rs.bind_ok h2
    cases h4
    have g1 := (sevL_all hp.1 _ _ s1) ks u h3
    obtain ⟨t1, h5, h6⟩ := hp.2 s t hn x s1 h1 (by omega)
    obtain ⟨t2, h7, h8⟩ := sevL_lc h hp hstr _ d.ts.length [x] s1 t1 hl h6 ks u h3 hle
    have hlt : s1.pos < i + k := by
      rcases Nat.lt_or_ge s1.pos (i + k) with hh | hh
      · exact hh
      · exfalso
        have : s1.pos = i + k := by have := h6.le; omega
        cases hf : c.ts.length with
        | zero => rw [hf] at h3; cases h3
        | succ f =>
          rw [hf] at h3
          unfold sevL at h3
          rw [hi] at h3
          have h3 : ((p s1.next).bind fun k t => sevL c p str f ([x] ++ [k]) t) = .ok ks u := h3
          obtain ⟨y, s3, h9, h10⟩ := Rs.bind_ok h3
          have := (hp.1 s1.next y s3 h9).lt
          have := (sevL_all hp.1 _ _ s3) ks u h10
          have : s1.next.pos = s1.pos + 1 := rfl
          omega
    refine ⟨t2, ?_, h8⟩
    rw [h5]
    show (if d.is t1.pos str = true then _ else _) = _
    rw [h.isAt h6 hlt, hi]
    show ((sevL d q str d.ts.length [x] t1).bind fun ks u => Rs.ok (Cnd.mk kind 0 0 0 ks) u) = _
    rw [h7]
    rfl
theorem fact_lc (hl : c.ts.length ≤ d.ts.length) : ∀ (n m : Nat), n ≤ m → PartLc c i j k (factP c n) (factP d m)
  | 0, m, _ => ⟨factP_all 0, fun s t hn => .no⟩
  | n + 1, 0, hm => by omega
  | n + 1, m + 1, hm => by
    refine ⟨factP_all (n + 1), fun s t hn => .room ((factP_all (n + 1) s).imp fun _ _ h => h.lt) fun hs => ?_⟩
    have ih := fact_lc hl n m (by omega)
    have id := sev_lc h (sev_lc h ih 3 (.inl rfl) hl) 4 (.inr rfl) hl
    unfold factP
    rw [h.isAt hn hs, h.isAt hn hs, h.kwAt hn hs, h.kindAt hn hs]
    split
    · exact .bind (ih.2 _ _ (hn.next hs)) (fun v t _ => .ok (Nat.le_refl _)) (fun v t t' _ hn' => .ok hn')
    split
    · exact .bind (id.2 _ _ (hn.next hs)) (fun v t _ => signP_all.bind fun _ u _ hu => .ok (Nat.le_of_lt hu.1.lt)) (fun v t t' _ hn' => .bind (sign_lc h _ hn') (fun v t _ => .ok (Nat.le_refl _)) (fun v t t' _ hn' => .ok hn'))
    split
    · exact .ok (hn.next hs)
    split
    · refine .bind (num_lc h hn) (fun v t _ => signP_all.bind fun _ s2 _ h2 => regQ_all.bind fun _ s3 _ h3 => signP_all.bind fun _ s4 _ h4 => numQ_all.bind fun _ s5 _ h5 => .ok (Nat.le_of_lt (((h2.1.trans h3.1).trans h4.1).trans h5.1).lt)) fun v1 s1 t1 _ hn1 => ?_
      refine .bind (sign_lc h _ hn1) (fun v t _ => regQ_all.bind fun _ s3 _ h3 => signP_all.bind fun _ s4 _ h4 => numQ_all.bind fun _ s5 _ h5 => .ok (Nat.le_of_lt ((h3.1.trans h4.1).trans h5.1).lt)) fun v2 s2 t2 _ hn2 => ?_
      refine .bind (reg_lc h hn2) (fun v t _ => signP_all.bind fun _ s4 _ h4 => numQ_all.bind fun _ s5 _ h5 => .ok (Nat.le_of_lt (h4.1.trans h5.1).lt)) fun v3 s3 t3 _ hn3 => ?_
      refine .bind (sign_lc h _ hn3) (fun v t _ => numQ_all.bind fun _ s5 _ h5 => .ok (Nat.le_of_lt h5.1.lt)) fun v4 s4 t4 _ hn4 => ?_
      exact .bind (num_lc h hn4) (fun v t _ => .ok (Nat.le_refl _)) fun v5 s5 t5 _ hn5 => .ok hn5
    · refine .bind (loc_lc h hn) (fun v t _ => signP_all.bind fun _ s4 _ h4 => numQ_all.bind fun _ s5 _ h5 => .ok (Nat.le_of_lt (h4.1.trans h5.1).lt)) fun v3 s3 t3 _ hn3 => ?_
      refine .bind (sign_lc h _ hn3) (fun v t _ => numQ_all.bind fun _ s5 _ h5 => .ok (Nat.le_of_lt h5.1.lt)) fun v4 s4 t4 _ hn4 => ?_
      exact .bind (num_lc h hn4) (fun v t _ => .ok (Nat.le_refl _)) fun v5 s5 t5 _ hn5 => .ok hn5
theorem disj_lc (hl : c.ts.length ≤ d.ts.length) {n m : Nat} (hm : n ≤ m) : PartLc c i j k (disjP c n) (disjP d m) := by
  have := sev_lc h (sev_lc h (fact_lc h hl n m hm) 3 (.inl rfl) hl) 4 (.inr rfl) hl
  exact this
end
end Go.Proofs.Ytbdjlmdejlklkaa
