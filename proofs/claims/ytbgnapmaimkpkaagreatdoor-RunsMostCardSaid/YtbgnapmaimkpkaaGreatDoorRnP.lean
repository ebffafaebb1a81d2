/-
  Plain Lean: the reachable states of a machine, in the order in which they are found. Conditions: none.
-/
import Derived.Test.YtbgnapmaimkpkaaGreatDoorBfW
set_option linter.unusedSimpArgs false
set_option linter.unusedVariables false
namespace Go.Proofs.YtbgnapmaimkpkaaGreatDoor

structure Fnd where
  list : List By
  links : List (Int × Pss)
  ends : List Nat
def isIn (l : List By) (z : By) : Bool := l.any fun y => same 142 z y
def visitR (p : Prg) (m : UInt8) (most k : Nat) (s : By) : List Pss → List By → List (Int × Pss) → Option (List By × List (Int × Pss))
  | [], l, q => some (l, q)
  | x :: r, l, q => if isIn l (stepM p m s x) = true then visitR p m most k s r l q
    else if most ≤ l.length then none else visitR p m most k s r (l ++ [stepM p m s x]) (q ++ [((k : Int), x)])
def searchR (p : Prg) (m : UInt8) (most : Nat) : Nat → Nat → Fnd → Option Fnd
  | 0, _, a => some a
  | f + 1, k, a => match a.list[k]? with
    | none => some a
    | some s => match visitR p m most k s (movesM p m s) a.list a.links with
      | none => none
      | some (l, q) => searchR p m most f (k + 1) ⟨l, q, if movesM p m s = [] then a.ends ++ [k] else a.ends⟩
def firstR (p : Prg) : Fnd := ⟨[startP p], [(-1, ⟨0, false, 0⟩)], []⟩
def reachR (p : Prg) (m : UInt8) (most : Nat) : Option Fnd := searchR p m most (most + 1) 0 (firstR p)
def Tidy (s : By) : Prop := ∀ i, 142 ≤ i → s i = 0
theorem tidy_eq {s z : By} (hs : Tidy s) (hz : Tidy z) : same 142 s z = true ↔ s = z := by
  rw [same_iff]
  constructor
  · intro h
    funext i
    rcases Nat.lt_or_ge i 142 with hi | hi
    · exact h i hi
    · rw [hs i hi, hz i hi]
  · rintro rfl
    exact fun _ _ => rfl
theorem isIn_iff {l : List By} {z : By} (hl : ∀ y ∈ l, Tidy y) (hz : Tidy z) : isIn l z = true ↔ z ∈ l := by
  unfold isIn
  rw [List.any_eq_true]
  constructor
  · rintro ⟨y, hy, h⟩
    rw [(tidy_eq hz (hl y hy)).1 h]; exact hy
  · exact fun h => ⟨z, h, (tidy_eq hz hz).2 rfl⟩
theorem start_tidy {p : Prg} (h : rightErr p = 0) : Tidy (startP p) := fun i hi => by rw [start_at h, if_neg (by have := (valid h).locs6; omega)]
theorem Went.tidy {p : Prg} {m : UInt8} {s z : By} {x : Pss} (h : Went p m s x z) (hs : Tidy s) : Tidy z := by
  cases h with
  | @exec t l i hE _ =>
    intro k hk
    have ht := hE.t4
    rw [hE.high (by omega)]
    split
    · show addR s t (addAt m s t i.loc (manyB s t)) _ k = 0
      have hn := hE.room
      have ha := addAt_le (m := m) (s := s) (t := t) (loc := i.loc) (manyB s t)
      rw [addR_at s t _ _ ha, if_neg (by omega), if_neg (by omega), if_neg (by omega)]
      exact hs k hk
    · exact hs k hk
  | @drain t i hD hi he =>
    intro k hk
    generalize drainI m s t (drainAt m s t i).l = a at hD he
    have ht := hD.t4
    have hl := hD.loc6
    have hn := hD.n12
    have hlt := hD.lt
    rw [drainR_at s t a hlt, if_neg (by omega), if_neg (by omega), if_neg (by omega), if_neg (by omega)]
    exact hs k hk
structure Fine (p : Prg) (m : UInt8) (s : By) : Prop where
  r : RightM p m s
  t : Tidy s
theorem Fine.step {p : Prg} {m : UInt8} {s : By} {x : Pss} (h : Fine p m s) (hx : x ∈ movesM p m s) : Fine p m (stepM p m s x) := ⟨(went h.r hx).right, (went h.r hx).tidy h.t⟩
theorem fine_start {p : Prg} {m : UInt8} (h : rightErr p = 0) (hm : knownM m = true) : Fine p m (startP p) := ⟨(start_rightM h hm).1, start_tidy h⟩
structure FndI (p : Prg) (m : UInt8) (most k : Nat) (a : Fnd) : Prop where
  fine : ∀ s ∈ a.list, Fine p m s
  nodup : a.list.Nodup
  many : a.list.length ≤ most
  kle : k ≤ a.list.length
  len : a.links.length = a.list.length
  head : a.list[0]? = some (startP p)
  head2 : a.links[0]? = some (-1, ⟨0, false, 0⟩)
  link : ∀ (j : Nat) (f : Int) (x : Pss), 0 < j → a.links[j]? = some (f, x) → ∃ i : Nat, f = (i : Int) ∧ i < j ∧ i < k ∧ ∃ s, a.list[i]? = some s ∧ x ∈ movesM p m s ∧ a.list[j]? = some (stepM p m s x)
  mono : ∀ (i j : Nat) (f g : Int) (x y : Pss), i ≤ j → a.links[i]? = some (f, x) → a.links[j]? = some (g, y) → f ≤ g
  next : ∀ (i : Nat) (s : By) (x : Pss), i < k → a.list[i]? = some s → x ∈ movesM p m s → ∃ j : Nat, a.list[j]? = some (stepM p m s x) ∧ (0 < j → ∃ (f : Int) (y : Pss), a.links[j]? = some (f, y) ∧ f ≤ (i : Int))
  ends : a.ends = (List.range k).filter fun i => match a.list[i]? with | some s => (movesM p m s).isEmpty | none => false
theorem fnd_first {p : Prg} {m : UInt8} {most : Nat} (h : rightErr p = 0) (hm : knownM m = true) (h1 : 1 ≤ most) : FndI p m most 0 (firstR p) where
  fine := fun s hs => by
    simp only [firstR, List.mem_singleton] at hs
    subst hs; exact fine_start h hm
  nodup := by simp [firstR]
  many := h1
  kle := Nat.zero_le _
  len := rfl
  head := rfl
  head2 := rfl
  link := fun j f x hj h => by
    obtain ⟨j, rfl⟩ : ∃ i, j = i + 1 := ⟨j - 1, by omega⟩
    simp [firstR] at h
  mono := fun i j f g x y hij hi hj => by
    have h1 := (List.getElem?_eq_some_iff.1 hj).1
    simp only [firstR, List.length_singleton] at h1
    obtain rfl : j = 0 := by omega
    obtain rfl : i = 0 := by omega
    rw [hi] at hj; cases hj; exact Int.le_refl _
  next := fun i s x hi => absurd hi (by omega)
  ends := rfl
structure VisI (p : Prg) (m : UInt8) (most k : Nat) (s : By) (l0 : List By) (dn : List Pss) (l : List By) (q : List (Int × Pss)) : Prop where
  fine : ∀ s ∈ l, Fine p m s
  nodup : l.Nodup
  many : l.length ≤ most
  len : q.length = l.length
  old : ∃ r, l = l0 ++ r
  here : l[k]? = some s
  head : l[0]? = some (startP p)
  head2 : q[0]? = some (-1, ⟨0, false, 0⟩)
  link : ∀ (j : Nat) (f : Int) (x : Pss), 0 < j → q[j]? = some (f, x) → ∃ i : Nat, f = (i : Int) ∧ i < j ∧ i < k + 1 ∧ ∃ s, l[i]? = some s ∧ x ∈ movesM p m s ∧ l[j]? = some (stepM p m s x)
  mono : ∀ (i j : Nat) (f g : Int) (x y : Pss), i ≤ j → q[i]? = some (f, x) → q[j]? = some (g, y) → f ≤ g
  next : ∀ (i : Nat) (s : By) (x : Pss), i < k → l[i]? = some s → x ∈ movesM p m s → ∃ j : Nat, l[j]? = some (stepM p m s x) ∧ (0 < j → ∃ (f : Int) (y : Pss), q[j]? = some (f, y) ∧ f ≤ (i : Int))
  now : ∀ x ∈ dn, ∃ j : Nat, l[j]? = some (stepM p m s x) ∧ (0 < j → ∃ (f : Int) (y : Pss), q[j]? = some (f, y) ∧ f ≤ (k : Int))
theorem VisI.low {p : Prg} {m : UInt8} {most k : Nat} {s : By} {l0 : List By} {dn : List Pss} {l : List By} {q : List (Int × Pss)} (h : VisI p m most k s l0 dn l q) {j : Nat} {f : Int} {x : Pss} (hj : q[j]? = some (f, x)) : f ≤ (k : Int) := by
  rcases Nat.eq_zero_or_pos j with e | e
  · subst e
    rw [h.head2] at hj; cases hj; omega
  · obtain ⟨i, rfl, _, hi, _⟩ := h.link j f x e hj
    omega
theorem VisI.old_at {p : Prg} {m : UInt8} {most k : Nat} {s : By} {l0 : List By} {dn : List Pss} {l : List By} {q : List (Int × Pss)} (h : VisI p m most k s l0 dn l q) {i : Nat} (hi : i < l0.length) : l[i]? = l0[i]? := by
  obtain ⟨r, rfl⟩ := h.old
  exact List.getElem?_append_left hi
theorem visit_ok {p : Prg} {m : UInt8} {most k : Nat} {s : By} {l0 : List By} : ∀ (r dn : List Pss) (l : List By) (q : List (Int × Pss)) (l' : List By) (q' : List (Int × Pss)), VisI p m most k s l0 dn l q → (∀ x ∈ r, x ∈ movesM p m s) → visitR p m most k s r l q = some (l', q') → VisI p m most k s l0 (dn ++ r) l' q'
  | [], dn, l, q, l', q', h, _, e => by
    simp only [visitR, Option.some.injEq, Prod.mk.injEq] at e
    obtain ⟨rfl, rfl⟩ := e
    rw [List.append_nil]; exact h
  | x :: r, dn, l, q, l', q', h, hr, e => by
    have hx := hr x (by simp)
    have hs : Fine p m s := h.fine s (List.mem_of_getElem? h.here)
    have hz := hs.step hx
    have hin := isIn_iff (fun y hy => (h.fine y hy).t) hz.t
    have key : VisI p m most k s l0 (dn ++ [x]) l' q' → VisI p m most k s l0 (dn ++ x :: r) l' q' → VisI p m most k s l0 (dn ++ x :: r) l' q' := fun _ h => h
    rw [visitR] at e
    rw [show dn ++ x :: r = (dn ++ [x]) ++ r by simp]
    by_cases hc : isIn l (stepM p m s x) = true
    · rw [if_pos hc] at e
      refine visit_ok r (dn ++ [x]) l q l' q' { h with now := fun y hy => ?_ } (fun y hy => hr y (by simp [hy])) e
      rcases List.mem_append.1 hy with h1 | h1
      · exact h.now y h1
      · obtain rfl : y = x := by simpa using h1
        obtain ⟨j, hj⟩ := List.mem_iff_getElem?.1 (hin.1 hc)
        refine ⟨j, hj, fun hj0 => ?_⟩
        obtain ⟨⟨f, z⟩, hf⟩ : ∃ f, q[j]? = some f := ⟨_, List.getElem?_eq_getElem (by rw [h.len]; exact (List.getElem?_eq_some_iff.1 hj).1)⟩
        exact ⟨f, z, hf, h.low hf⟩
    · rw [if_neg hc] at e
      by_cases hm : most ≤ l.length
      · rw [if_pos hm] at e; cases e
      · rw [if_neg hm] at e
        have hkl : k < l.length := (List.getElem?_eq_some_iff.1 h.here).1
        have hl : ∀ i, i < l.length → (l ++ [stepM p m s x])[i]? = l[i]? := fun i hi => List.getElem?_append_left hi
        have hq : ∀ i, i < l.length → (q ++ [((k : Int), x)])[i]? = q[i]? := fun i hi => List.getElem?_append_left (by rw [h.len]; exact hi)
        have hqn : (q ++ [((k : Int), x)])[l.length]? = some ((k : Int), x) := by rw [← h.len, List.getElem?_append_right (Nat.le_refl _)]; simp
        have hln : (l ++ [stepM p m s x])[l.length]? = some (stepM p m s x) := by rw [List.getElem?_append_right (Nat.le_refl _)]; simp
        have up : ∀ {z : By}, (∃ j, l[j]? = some z ∧ (0 < j → ∃ (f : Int) (y : Pss), q[j]? = some (f, y) ∧ f ≤ (k : Int))) → ∃ j, (l ++ [stepM p m s x])[j]? = some z ∧ (0 < j → ∃ (f : Int) (y : Pss), (q ++ [((k : Int), x)])[j]? = some (f, y) ∧ f ≤ (k : Int)) := by
          rintro z ⟨j, h1, h2⟩
          have hjl := (List.getElem?_eq_some_iff.1 h1).1
          exact ⟨j, by rw [hl j hjl]; exact h1, by rw [hq j hjl]; exact h2⟩
        refine visit_ok r (dn ++ [x]) _ _ l' q' ?_ (fun y hy => hr y (by simp [hy])) e
        refine ⟨fun y hy => ?_, ?_, by simp; omega, by simp [h.len], ?_, by rw [hl k hkl]; exact h.here, by rw [hl 0 (by omega)]; exact h.head, by rw [hq 0 (by omega)]; exact h.head2, fun j f y hj0 hj => ?_, fun i j f g y z hij hi hj => ?_, fun i y z hi hy hz => ?_, fun y hy => ?_⟩
        · rcases List.mem_append.1 hy with h1 | h1
          · exact h.fine y h1
          · obtain rfl : y = stepM p m s x := by simpa using h1
            exact hz
        · rw [List.nodup_append]
          refine ⟨h.nodup, by simp, fun a ha b hb => ?_⟩
          obtain rfl : b = stepM p m s x := by simpa using hb
          rintro rfl
          exact hc (hin.2 ha)
        · obtain ⟨r0, rfl⟩ := h.old
          exact ⟨r0 ++ [stepM p m s x], by simp⟩
        · rcases Nat.lt_or_ge j l.length with h1 | h1
          · rw [hq j h1] at hj
            obtain ⟨i, e1, e2, e3, z, e4, e5, e6⟩ := h.link j f y hj0 hj
            exact ⟨i, e1, e2, e3, z, by rw [hl i (by omega)]; exact e4, e5, by rw [hl j h1]; exact e6⟩
          · have h2 := (List.getElem?_eq_some_iff.1 hj).1
            simp only [List.length_append, List.length_singleton, h.len] at h2
            obtain rfl : j = l.length := by omega
            rw [hqn] at hj
            cases hj
            exact ⟨k, rfl, by omega, by omega, s, by rw [hl k hkl]; exact h.here, hx, hln⟩
        · rcases Nat.lt_or_ge j l.length with h1 | h1
          · rw [hq j h1] at hj
            rw [hq i (by omega)] at hi
            exact h.mono i j f g y z hij hi hj
          · have h2 := (List.getElem?_eq_some_iff.1 hj).1
            simp only [List.length_append, List.length_singleton, h.len] at h2
            obtain rfl : j = l.length := by omega
            rw [hqn] at hj
            cases hj
            rcases Nat.lt_or_ge i l.length with h3 | h3
            · rw [hq i h3] at hi
              exact h.low hi
            · obtain rfl : i = l.length := by omega
              rw [hqn] at hi; cases hi; exact Int.le_refl _
        · rw [hl i (by omega)] at hy
          obtain ⟨j, e1, e2⟩ := h.next i y z hi hy hz
          have hjl := (List.getElem?_eq_some_iff.1 e1).1
          exact ⟨j, by rw [hl j hjl]; exact e1, by rw [hq j hjl]; exact e2⟩
        · rcases List.mem_append.1 hy with h1 | h1
          · exact up (h.now y h1)
          · obtain rfl : y = x := by simpa using h1
            exact ⟨l.length, hln, fun _ => ⟨k, y, hqn, Int.le_refl _⟩⟩
theorem vis_start {p : Prg} {m : UInt8} {most k : Nat} {a : Fnd} {s : By} (h : FndI p m most k a) (hs : a.list[k]? = some s) : VisI p m most k s a.list [] a.list a.links :=
  ⟨h.fine, h.nodup, h.many, h.len, ⟨[], by simp⟩, hs, h.head, h.head2, fun j f x h1 h2 => by
    obtain ⟨i, e1, e2, e3, e4⟩ := h.link j f x h1 h2
    exact ⟨i, e1, e2, by omega, e4⟩, h.mono, h.next, fun x hx => by cases hx⟩
theorem vis_in {p : Prg} {m : UInt8} {most k : Nat} {s : By} {l0 : List By} {dn : List Pss} {l : List By} {q : List (Int × Pss)} {x : Pss} (h : VisI p m most k s l0 dn l q) (hx : x ∈ movesM p m s) (hc : isIn l (stepM p m s x) = true) : VisI p m most k s l0 (dn ++ [x]) l q :=
  visit_ok [x] dn l q l q h (fun y hy => by simp at hy; subst hy; exact hx) (by rw [visitR, if_pos hc]; rfl)
theorem vis_new {p : Prg} {m : UInt8} {most k : Nat} {s : By} {l0 : List By} {dn : List Pss} {l : List By} {q : List (Int × Pss)} {x : Pss} (h : VisI p m most k s l0 dn l q) (hx : x ∈ movesM p m s) (hc : isIn l (stepM p m s x) = false) (hm : l.length < most) : VisI p m most k s l0 (dn ++ [x]) (l ++ [stepM p m s x]) (q ++ [((k : Int), x)]) :=
  visit_ok [x] dn l q _ _ h (fun y hy => by simp at hy; subst hy; exact hx) (by rw [visitR, if_neg (by rw [hc]; simp), if_neg (by omega)]; rfl)
theorem search_step {p : Prg} {m : UInt8} {most k : Nat} {a : Fnd} {s : By} {l : List By} {q : List (Int × Pss)} (h : FndI p m most k a) (hs : a.list[k]? = some s) (e : visitR p m most k s (movesM p m s) a.list a.links = some (l, q)) :
    FndI p m most (k + 1) ⟨l, q, if movesM p m s = [] then a.ends ++ [k] else a.ends⟩ := by
  have hkl := (List.getElem?_eq_some_iff.1 hs).1
  have h0 := vis_start h hs
  have h1 := visit_ok _ _ _ _ _ _ h0 (fun x hx => hx) e
  rw [List.nil_append] at h1
  have hlen : k + 1 ≤ l.length := (List.getElem?_eq_some_iff.1 h1.here).1
  refine ⟨h1.fine, h1.nodup, h1.many, hlen, h1.len, h1.head, h1.head2, h1.link, h1.mono, fun i y x hi hy hx => ?_, ?_⟩
  · rcases Nat.lt_or_ge i k with h2 | h2
    · exact h1.next i y x h2 hy hx
    · obtain rfl : i = k := by omega
      have hy : l[i]? = some y := hy
      rw [h1.here] at hy; cases hy
      exact h1.now x hx
  · show (if movesM p m s = [] then a.ends ++ [k] else a.ends) = (List.range (k + 1)).filter fun i => match l[i]? with | some s => (movesM p m s).isEmpty | none => false
    rw [List.range_succ, List.filter_append]
    have h2 : ((List.range k).filter fun i => match l[i]? with | some s => (movesM p m s).isEmpty | none => false) = a.ends := by
      rw [h.ends]
      apply List.filter_congr
      intro i hi
      rw [h1.old_at (by have := List.mem_range.1 hi; omega)]
    rw [h2]
    have h3 : (List.filter (fun i => match l[i]? with | some s => (movesM p m s).isEmpty | none => false) [k]) = if (movesM p m s).isEmpty = true then [k] else [] := by
      rw [List.filter_cons, h1.here]
      rfl
    rw [h3]
    by_cases hm : movesM p m s = []
    · rw [if_pos hm, hm]; rfl
    · rw [if_neg hm, if_neg (by simpa using hm), List.append_nil]
theorem search_ok {p : Prg} {m : UInt8} {most : Nat} : ∀ (f k : Nat) (a b : Fnd), FndI p m most k a → most ≤ k + f → searchR p m most f k a = some b → FndI p m most b.list.length b
  | 0, k, a, b, h, hf, e => by
    simp only [searchR, Option.some.injEq] at e
    subst e
    have := h.kle
    have := h.many
    obtain e : k = a.list.length := by omega
    rw [← e]; exact h
  | f + 1, k, a, b, h, hf, e => by
    rw [searchR] at e
    cases hk : a.list[k]? with
    | none =>
      rw [hk] at e
      simp only [Option.some.injEq] at e
      subst e
      have := h.kle
      have : ¬ k < a.list.length := fun hh => by rw [List.getElem?_eq_getElem hh] at hk; cases hk
      obtain e : k = a.list.length := by omega
      rw [← e]; exact h
    | some s =>
      rw [hk] at e
      cases hv : visitR p m most k s (movesM p m s) a.list a.links with
      | none => simp only [hv] at e; cases e
      | some lq =>
        obtain ⟨l, q⟩ := lq
        simp only [hv] at e
        exact search_ok f (k + 1) _ b (search_step h hk hv) (by omega) e
theorem reach_ok {p : Prg} {m : UInt8} {most : Nat} {b : Fnd} (h : rightErr p = 0) (hm : knownM m = true) (h1 : 1 ≤ most) (e : reachR p m most = some b) : FndI p m most b.list.length b :=
  search_ok (most + 1) 0 _ b (fnd_first h hm h1) (by omega) e
theorem search_go {p : Prg} {m : UInt8} {most f k : Nat} {a : Fnd} {s : By} {l : List By} {q : List (Int × Pss)} (hs : a.list[k]? = some s) (hv : visitR p m most k s (movesM p m s) a.list a.links = some (l, q)) : searchR p m most (f + 1) k a = searchR p m most f (k + 1) ⟨l, q, if movesM p m s = [] then a.ends ++ [k] else a.ends⟩ := by
  rw [searchR, hs]
  simp only [hv]
theorem search_no {p : Prg} {m : UInt8} {most f k : Nat} {a : Fnd} {s : By} (hs : a.list[k]? = some s) (hv : visitR p m most k s (movesM p m s) a.list a.links = none) : searchR p m most (f + 1) k a = none := by
  rw [searchR, hs]
  simp only [hv]
theorem search_end {p : Prg} {m : UInt8} {most k : Nat} {a : Fnd} (hs : a.list.length ≤ k) : ∀ f, searchR p m most f k a = some a
  | 0 => rfl
  | f + 1 => by rw [searchR, List.getElem?_eq_none hs]
theorem visit_inR {p : Prg} {m : UInt8} {most k : Nat} {s : By} {x : Pss} {r : List Pss} {l : List By} {q : List (Int × Pss)} (hc : isIn l (stepM p m s x) = true) : visitR p m most k s (x :: r) l q = visitR p m most k s r l q := by rw [visitR, if_pos hc]
theorem visit_newR {p : Prg} {m : UInt8} {most k : Nat} {s : By} {x : Pss} {r : List Pss} {l : List By} {q : List (Int × Pss)} (hc : isIn l (stepM p m s x) = false) (hm : l.length < most) : visitR p m most k s (x :: r) l q = visitR p m most k s r (l ++ [stepM p m s x]) (q ++ [((k : Int), x)]) := by rw [visitR, if_neg (by rw [hc]; simp), if_neg (by omega)]
theorem visit_fullR {p : Prg} {m : UInt8} {most k : Nat} {s : By} {x : Pss} {r : List Pss} {l : List By} {q : List (Int × Pss)} (hc : isIn l (stepM p m s x) = false) (hm : most ≤ l.length) : visitR p m most k s (x :: r) l q = none := by rw [visitR, if_neg (by rw [hc]; simp), if_pos hm]
end Go.Proofs.YtbgnapmaimkpkaaGreatDoor
