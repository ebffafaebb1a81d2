/-
  Plain Lean: what the parser of a program keeps; a parsed program respects the limits. Nothing of the program. Conditions: none.
-/
import Derived.Test.YtbdjlmdejlklkaaPrF
set_option linter.unusedSimpArgs false
set_option linter.unusedVariables false
namespace Go.Proofs.Ytbdjlmdejlklkaa

section
variable {c : PX}
/-- What holds of a program that is under way. -/
structure QOk (q : QL) (s : PS) : Prop where
  nm : NmOk s.names
  ini : q.init.length ≤ s.names.length
  thr : q.threads.length ≤ 4
  ins : ∀ t ∈ q.threads, t.length ≤ 12 ∧ ∀ x ∈ t, InFit s.names.length x
  three : q.wh = 3 ∨ q.wh = 4 → q.threads ≠ []
  ask : q.wh = 4 → 1 ≤ q.ask.toNat ∧ q.ask.toNat ≤ 3
  name : q.wh ≠ 0 → q.name.toList ≠ []
  fresh : q.wh ≤ 1 → q.init.length = s.names.length
  wh : q.wh ≤ 4
theorem qok_zero : QOk zQL ⟨0, []⟩ := ⟨⟨fun x h => absurd h List.not_mem_nil, .nil, Nat.zero_le _⟩, Nat.le_refl _, Nat.zero_le _, fun t h => absurd h List.not_mem_nil, (fun h => by rcases h with h | h <;> cases h), (fun h => by cases h), fun h => absurd rfl h, fun _ => rfl, Nat.zero_le _⟩
theorem QOk.step {q : QL} {s t : PS} (h : QOk q s) (hg : Gs c s t) (hw : 1 < q.wh ∨ t.names = s.names) : QOk q t :=
  ⟨hg.names h.nm, Nat.le_trans h.ini hg.more, h.thr, fun l hl => ⟨(h.ins l hl).1, fun x hx => ((h.ins l hl).2 x hx).more hg.more⟩, h.three, h.ask, h.name, fun h1 => by
    rcases hw with hw | hw
    · omega
    · rw [hw]; exact h.fresh h1, h.wh⟩
theorem word_ne {i : Nat} (h : ¬ (c.word i).toList = []) : i < c.ts.length := word_lt fun e => h (by rw [e]; simp)
theorem testL_all {q : QL} {s : PS} (hq : QOk q s) (hs : s.pos < c.ts.length) : (testL c q s).All fun q' t => Gs c s t ∧ QOk q' t := by
  unfold testL failP
  refine .ite (fun h0 => .ite (fun _ => .no) (fun hw => .ok ?_)) (fun _ => .no)
  have hg := (Gs.next hs).trans (Gs.next (word_ne hw))
  have hq2 := hq.step hg (.inr rfl)
  exact ⟨hg, hq2.nm, hq2.ini, hq2.thr, hq2.ins, (fun h => by rcases h with h | h <;> cases h), (fun h => by cases h), fun _ => hw, fun _ => hq2.fresh (by omega), Nat.le_of_ble_eq_true rfl⟩
theorem initL_all : ∀ (f : Nat) {q : QL} {s : PS}, QOk q s → q.wh = 1 → (initL c f q s).All fun q' t => Gs c s t ∧ QOk q' t
  | 0, q, s, _, _ => .no
  | f + 1, q, s, hq, hw => by
    unfold initL
    cases hi : idxOf (c.word s.pos) s.names 0 with
    | some _ => exact .no
    | none =>
      refine locP_all.bind fun k s1 _ h1 => signP_all.bind fun _ s2 _ h2 => numQ_all.bind fun v s3 _ h3 => ?_
      have hg := (h1.1.trans h2.1).trans h3.1
      have hl : s3.names.length = s.names.length + 1 := by rw [h3.2, h2.2]; exact h1.2.2.2 hi
      have hf := hq.fresh (by omega)
      have hnew : ∀ w, w ≤ 2 → 1 ≤ w → QOk { q with init := q.init ++ [v], wh := w } s3 := fun w hw2 hw1 => by
        refine ⟨hg.names hq.nm, ?_, hq.thr, fun l hl => ⟨(hq.ins l hl).1, fun x hx => ((hq.ins l hl).2 x hx).more hg.more⟩, fun h => ?_, fun h => ?_, fun _ => hq.name (by omega), fun _ => ?_, ?_⟩
        · show (q.init ++ [v]).length ≤ _
          rw [List.length_append, List.length_singleton]; omega
        · have h : w = 3 ∨ w = 4 := h
          omega
        · have h : w = 4 := h
          omega
        · show (q.init ++ [v]).length = _
          rw [List.length_append, List.length_singleton]; omega
        · show w ≤ 4
          omega
      refine .ite (fun _ => .ok ⟨hg, hnew 2 (by omega) (by omega)⟩) (fun _ => ?_)
      have h4 := hnew q.wh (by omega) (by omega)
      exact (initL_all f (q := { q with init := q.init ++ [v] }) h4 hw).imp fun q' t h => ⟨hg.trans h.1, h.2⟩
theorem threadL_all {q : QL} {s : PS} (hq : QOk q s) (hs : s.pos < c.ts.length) : (threadL c q s).All fun q' t => Gs c s t ∧ QOk q' t := by
  unfold threadL failP
  refine .ite (fun h0 => .ite (fun _ => .no) (fun h4 => .ok ?_)) (fun _ => .no)
  have hg := Gs.next hs
  have hq2 := hq.step hg (.inr rfl)
  have := hq.thr
  refine ⟨hg, hq2.nm, hq2.ini, ?_, fun t ht => ?_, fun _ h => ?_, (fun h => by cases h), fun _ => hq.name (by omega), fun h => absurd (show 3 ≤ 1 from h) (by decide), Nat.le_of_ble_eq_true rfl⟩
  · show (q.threads ++ [[]]).length ≤ 4
    rw [List.length_append, List.length_singleton]; omega
  · rcases List.mem_append.1 ht with ht | ht
    · exact hq2.ins t ht
    · rw [List.mem_singleton.1 ht]
      exact ⟨Nat.zero_le _, fun x hx => absurd hx List.not_mem_nil⟩
  · have h : q.threads ++ [[]] = [] := h
    simp at h
theorem may_lt {i : Nat} (h : mayP c i = true) : i < c.ts.length := by
  unfold mayP at h
  rw [Bool.or_eq_true, Bool.or_eq_true, Bool.or_eq_true] at h
  rcases h with ((h | h) | h) | h
  · exact kw_lt h
  · exact kw_lt h
  · exact reg_lt h
  · exact name_lt h
theorem addL_all {q : QL} {s : PS} (hq : QOk q s) : (addL c q s).All fun q' t => Gs c s t ∧ QOk q' t := by
  unfold addL failP
  refine .ite (fun h3 => .ite (fun hm => .ite (fun _ => .no) (fun h12 => (insP_all (may_lt hm) hq.nm.few).bind fun x t _ hx => .ok ?_)) (fun _ => .no)) (fun _ => .no)
  have hq2 := hq.step hx.1 (.inl (by omega))
  have hne := hq.three (.inl h3)
  have hpos : 0 < q.threads.length := List.length_pos_iff.2 hne
  have hlast : q.threads.getD (q.threads.length - 1) [] ∈ q.threads := by
    rw [List.getD_eq_getElem?_getD, List.getElem?_eq_getElem (by omega)]
    exact List.getElem_mem _
  have hl := hq2.ins _ hlast
  refine ⟨hx.1, hq2.nm, hq2.ini, ?_, fun l hl2 => ?_, fun _ h => ?_, fun h => absurd (h3.symm.trans h) (by decide), fun _ => hq.name (by omega), fun h => absurd (show q.wh ≤ 1 from h) (by omega), hq.wh⟩
  · show (lastAdd q.threads x).length ≤ 4
    have := hq.thr
    unfold lastAdd
    rw [List.length_append, List.length_take, List.length_singleton]; omega
  · have hl2 : l ∈ lastAdd q.threads x := hl2
    unfold lastAdd at hl2
    rcases List.mem_append.1 hl2 with h | h
    · exact hq2.ins l (List.mem_of_mem_take h)
    · rw [List.mem_singleton.1 h]
      refine ⟨by rw [List.length_append, List.length_singleton]; omega, fun y hy => ?_⟩
      rcases List.mem_append.1 hy with hy | hy
      · exact hl.2 y hy
      · rw [List.mem_singleton.1 hy]; exact hx.2
  · have h : lastAdd q.threads x = [] := h
    unfold lastAdd at h
    simp at h
theorem askL_all {k : UInt8} (hk : 1 ≤ k.toNat ∧ k.toNat ≤ 3) {q : QL} {s : PS} (hq : QOk q s) (hs : s.pos < c.ts.length) : (askL c k q s).All fun q' t => Gs c s t ∧ QOk q' t := by
  unfold askL failP
  refine .ite (fun h3 => (disjP_all _ _).bind fun d t _ ht => .ok ?_) (fun _ => .no)
  have hg := (Gs.next hs).trans ht
  have hq2 := hq.step hg (.inl (by omega))
  exact ⟨hg, hq2.nm, hq2.ini, hq2.thr, hq2.ins, fun _ => hq2.three (.inl h3), fun _ => hk, fun _ => hq2.name (by omega), fun h => absurd (show 4 ≤ 1 from h) (by decide), Nat.le_of_ble_eq_true rfl⟩
theorem lineL_all {q : QL} {s : PS} (hq : QOk q s) : (lineL c q s).All fun q' t => Gs c s t ∧ QOk q' t := by
  unfold lineL failP
  refine .ite (fun h => testL_all hq (kw_lt h)) (fun _ => .ite (fun h => .ite (fun hw => ?_) (fun _ => .no)) (fun _ => .ite (fun h => threadL_all hq (kw_lt h)) (fun _ => .ite (fun h => askL_all (by decide) hq (kw_lt h)) (fun _ => .ite (fun h => askL_all (by decide) hq (kw_lt h)) (fun _ => .ite (fun h => askL_all (by decide) hq (kw_lt h)) (fun _ => addL_all hq))))))
  have hg := Gs.next (s := s) (kw_lt h)
  exact (initL_all _ (hq.step hg (.inr rfl)) hw).imp fun q' t ht => ⟨hg.trans ht.1, ht.2⟩
theorem linesL_all : ∀ (f : Nat) {q : QL} {s : PS}, QOk q s → s.pos ≤ c.ts.length → (linesL c f q s).All fun q' t => t.pos ≤ c.ts.length ∧ QOk q' t ∧ q'.wh = 4
  | 0, q, s, _, _ => .no
  | f + 1, q, s, hq, hs => by
    unfold linesL
    refine .ite (fun h => .ok ⟨hs, hq, h⟩) (fun h => (lineL_all hq).bind fun q' t _ ht => endP_all.bind fun _ u _ hu => ?_)
    exact linesL_all f (ht.2.step hu.1 (.inr (by rw [hu.2]; rfl))) hu.1.le
/-- A program within the limits. -/
structure PgFit (p : Prg) : Prop where
  nm : NmOk p.locs
  ini : p.init.length = p.locs.length
  thr : 1 ≤ p.threads.length ∧ p.threads.length ≤ 4
  ins : ∀ t ∈ p.threads, t.length ≤ 12 ∧ ∀ x ∈ t, InFit p.locs.length x
  ask : 1 ≤ p.ask.toNat ∧ p.ask.toNat ≤ 3
  name : p.name.toList ≠ []
  deep : depC p.cond ≤ 20
theorem progP_fit {p : Prg} {s : PS} (h : progP c = .ok p s) : PgFit p := by
  have : (progP c).All fun p _ => PgFit p := by
    unfold progP failP
    refine (linesL_all _ qok_zero (Nat.zero_le _)).bind fun q s _ hq => .ite (fun _ => .no) (fun _ => .ite (fun _ => .no) (fun h20 => .ok ?_))
    obtain ⟨_, hq, h4⟩ := hq
    have := hq.ini
    exact ⟨hq.nm, by show (padI q.init s.names.length).length = s.names.length; unfold padI; rw [List.length_append, List.length_replicate]; omega, ⟨List.length_pos_iff.2 (hq.three (.inr h4)), hq.thr⟩, hq.ins, hq.ask h4, hq.name (by omega), by show depC q.cond ≤ 20; omega⟩
  exact this p s h
end
end Go.Proofs.Ytbdjlmdejlklkaa
