/-
  Plain Lean: how far the parser goes, what it keeps of the names, that its instructions fit. Nothing of the program. Conditions: none.
-/
import Derived.Test.YtbdjlmdejlklkaaPrP
set_option linter.unusedSimpArgs false
set_option linter.unusedVariables false
namespace Go.Proofs.Ytbdjlmdejlklkaa

theorem nameOk_nil : nameOk ByteArray.empty = false := by decide +kernel
theorem regOk_nil : regOk ByteArray.empty = false := by decide +kernel
theorem regV_lt {s : ByteArray} (h : regOk s = true) : (regV s).toNat < 8 := by
  unfold regV
  unfold regOk at h
  split at h
  next hs =>
    rw [dif_pos hs]
    simp only [Bool.and_eq_true, beq_iff_eq, decide_eq_true_eq] at h
    split <;> omega
  next => cases h
/-- What holds of an answer that is no fault. -/
def Rs.All {α : Type} (r : Rs α) (P : α → PS → Prop) : Prop := ∀ v t, r = .ok v t → P v t
theorem Rs.All.bind {α β : Type} {r : Rs α} {f : α → PS → Rs β} {P : α → PS → Prop} {Q : β → PS → Prop} (h : r.All P) (hf : ∀ v t, r = .ok v t → P v t → (f v t).All Q) : (r.bind f).All Q := by
  cases r with
  | ok v s => exact hf v s rfl (h v s rfl)
  | no p e => intro v t h; cases h
theorem Rs.All.no {α : Type} {p e : Nat} {P : α → PS → Prop} : (Rs.no p e : Rs α).All P := fun v t h => by cases h
theorem Rs.All.ok {α : Type} {v : α} {s : PS} {P : α → PS → Prop} (h : P v s) : (Rs.ok v s).All P := fun v' t h' => by cases h'; exact h
theorem Rs.All.ite {α : Type} {p : Prop} [Decidable p] {a b : Rs α} {P : α → PS → Prop} (h1 : p → a.All P) (h2 : ¬ p → b.All P) : (if p then a else b).All P := by
  split
  · exact h1 ‹_›
  · exact h2 ‹_›
theorem Rs.All.imp {α : Type} {r : Rs α} {P Q : α → PS → Prop} (h : r.All P) (f : ∀ v t, P v t → Q v t) : r.All Q := fun v t hr => f v t (h v t hr)
section
variable {c : PX}
theorem kind_lt {i : Nat} (h : c.kind i ≠ 0) : i < c.ts.length := by
  rcases Nat.lt_or_ge i c.ts.length with h1 | h1
  · exact h1
  · refine absurd ?_ h
    unfold PX.kind
    rw [List.getElem?_eq_none h1]
theorem is_lt {i : Nat} {str : List UInt8} (h : c.is i str = true) : i < c.ts.length := by
  unfold PX.is at h
  rw [Bool.and_eq_true, beq_iff_eq] at h
  exact kind_lt (by omega)
theorem word_lt {i : Nat} (h : c.word i ≠ ByteArray.empty) : i < c.ts.length := by
  unfold PX.word at h
  split at h
  · exact kind_lt (by omega)
  · exact absurd rfl h
theorem kw_lt {i : Nat} {x : UInt8} {r : List UInt8} (h : c.kw i (x :: r) = true) : i < c.ts.length := by
  refine word_lt fun e => ?_
  unfold PX.kw at h
  rw [e] at h
  simp at h
theorem name_lt {i : Nat} (h : nameOk (c.word i) = true) : i < c.ts.length := word_lt fun e => by rw [e, nameOk_nil] at h; cases h
theorem reg_lt {i : Nat} (h : regOk (c.word i) = true) : i < c.ts.length := word_lt fun e => by rw [e, regOk_nil] at h; cases h
/-- Names as a program's. -/
structure NmOk (l : List ByteArray) : Prop where
  ok : ∀ x ∈ l, nameOk x = true
  apart : l.Pairwise (fun a b => a.toList ≠ b.toList)
  few : l.length ≤ 6
/-- A step: how far it goes, and what it keeps of the names. -/
structure Gs (c : PX) (s t : PS) : Prop where
  lt : s.pos < t.pos
  le : t.pos ≤ c.ts.length
  more : s.names.length ≤ t.names.length
  names : NmOk s.names → NmOk t.names
  keep : c.fixed = true → t.names = s.names
theorem Gs.trans {s t u : PS} (h : Gs c s t) (k : Gs c t u) : Gs c s u := ⟨Nat.lt_trans h.lt k.lt, k.le, Nat.le_trans h.more k.more, fun hn => k.names (h.names hn), fun hf => (k.keep hf).trans (h.keep hf)⟩
theorem Gs.next {s : PS} (h : s.pos < c.ts.length) : Gs c s s.next := ⟨Nat.lt_succ_self _, h, Nat.le_refl _, id, fun _ => rfl⟩
theorem idxOf_none {w : ByteArray} : ∀ {l : List ByteArray} {k : Nat}, idxOf w l k = none → ∀ x ∈ l, x.toList ≠ w.toList
  | [], _, _, x, hx => absurd hx List.not_mem_nil
  | y :: r, k, h, x, hx => by
    unfold idxOf at h
    split at h
    · cases h
    next hne =>
      rcases List.mem_cons.1 hx with rfl | hx
      · intro e; exact hne (by rw [e]; exact beq_self_eq_true _)
      · exact idxOf_none h x hx
theorem idxOf_some {w : ByteArray} : ∀ {l : List ByteArray} {k j : Nat}, idxOf w l k = some j → k ≤ j ∧ j < k + l.length
  | [], _, _, h => by cases h
  | y :: r, k, j, h => by
    unfold idxOf at h
    split at h
    · cases h; simp
    · obtain ⟨h1, h2⟩ := idxOf_some h
      rw [List.length_cons]; omega
theorem signP_all {str : List UInt8} {s : PS} : (signP c str s).All fun _ t => Gs c s t ∧ t = s.next := by
  unfold signP failP
  exact .ite (fun h => .ok ⟨Gs.next (is_lt h), rfl⟩) (fun _ => .no)
theorem endP_all {s : PS} : (endP c s).All fun _ t => Gs c s t ∧ t = s.next := by
  unfold endP failP
  exact .ite (fun h => .ok ⟨Gs.next (kind_lt (by omega)), rfl⟩) (fun _ => .no)
theorem numQ_all {s : PS} : (numQ c s).All fun _ t => Gs c s t ∧ t = s.next := by
  unfold numQ failP
  exact .ite (fun h => .ok ⟨Gs.next (kind_lt (by omega)), rfl⟩) (fun _ => .no)
theorem regQ_all {s : PS} : (regQ c s).All fun v t => Gs c s t ∧ t = s.next ∧ v.toNat < 8 := by
  unfold regQ failP
  exact .ite (fun h => .ok ⟨Gs.next (reg_lt h), rfl, by have := regV_lt h; rw [UInt8.toNat_ofNat']; omega⟩) (fun _ => .no)
theorem argP_all {s : PS} : (argP' c s).All fun v t => Gs c s t ∧ t = s.next ∧ (v.1 = true → v.2.toNat < 8) := by
  unfold argP'
  exact .ite (fun h => numQ_all.bind fun v t _ hv => .ok ⟨hv.1, hv.2, fun e => by cases e⟩) (fun _ => regQ_all.bind fun v t _ hv => .ok ⟨hv.1, hv.2.1, fun _ => hv.2.2⟩)
theorem locP_all {s : PS} : (locP c s).All fun v t => Gs c s t ∧ t.pos = s.pos + 1 ∧ (s.names.length ≤ 6 → v.toNat < t.names.length) ∧ (idxOf (c.word s.pos) s.names 0 = none → t.names.length = s.names.length + 1) := by
  unfold locP failP
  refine .ite (fun h => ?_) (fun _ => .no)
  have hl := name_lt h
  cases hi : idxOf (c.word s.pos) s.names 0 with
  | some k =>
    have hk := idxOf_some hi
    refine .ok ⟨Gs.next hl, rfl, fun h6 => ?_, fun e => by cases e⟩
    show (UInt8.ofNat k).toNat < s.names.length
    rw [UInt8.toNat_ofNat']; omega
  | none =>
    refine .ite (fun _ => .no) (fun hf => .ite (fun _ => .no) (fun h6 => .ok ⟨⟨Nat.lt_succ_self _, hl, ?_, fun hn => ⟨fun x hx => ?_, ?_, ?_⟩, fun h => absurd h hf⟩, rfl, fun h7 => ?_, fun _ => ?_⟩))
    · show s.names.length ≤ (s.names ++ [c.word s.pos]).length
      rw [List.length_append]; omega
    · rcases List.mem_append.1 hx with hx | hx
      · exact hn.ok x hx
      · rw [List.mem_singleton.1 hx]; exact h
    · refine List.pairwise_append.2 ⟨hn.apart, List.pairwise_singleton _ _, fun a ha b hb => ?_⟩
      rw [List.mem_singleton.1 hb]
      exact idxOf_none hi a ha
    · show (s.names ++ [c.word s.pos]).length ≤ 6
      have := hn.few
      rw [List.length_append, List.length_singleton]; omega
    · show (UInt8.ofNat s.names.length).toNat < (s.names ++ [c.word s.pos]).length
      rw [UInt8.toNat_ofNat', List.length_append, List.length_singleton]; omega
    · show (s.names ++ [c.word s.pos]).length = _
      rw [List.length_append, List.length_singleton]
/-- An instruction with registers and places that there are. -/
structure InFit (n : Nat) (x : Ins) : Prop where
  op : 1 ≤ x.op.toNat ∧ x.op.toNat ≤ 8
  dst : x.dst.toNat < 8
  a : x.aR = true → x.aN.toNat < 8
  b : x.bR = true → x.bN.toNat < 8
  loc : 0 < x.loc.toNat → x.loc.toNat < n
theorem InFit.more {n m : Nat} {x : Ins} (h : InFit n x) (hm : n ≤ m) : InFit m x := ⟨h.op, h.dst, h.a, h.b, fun h0 => Nat.lt_of_lt_of_le (h.loc h0) hm⟩
theorem fenceP_all {s : PS} (hs : s.pos < c.ts.length) : (fenceP c s).All fun x t => Gs c s t ∧ InFit t.names.length x := by
  unfold fenceP
  refine .ite (fun h => .ok ⟨(Gs.next hs).trans (Gs.next (kw_lt h)), ?_⟩) (fun _ => .ite (fun h => .ok ⟨(Gs.next hs).trans (Gs.next (kw_lt h)), ?_⟩) (fun _ => .ok ⟨Gs.next hs, ?_⟩))
  all_goals exact ⟨⟨Nat.le_of_ble_eq_true rfl, Nat.le_of_ble_eq_true rfl⟩, Nat.le_of_ble_eq_true rfl, (fun h => absurd h Bool.false_ne_true), (fun h => absurd h Bool.false_ne_true), (fun h => (Nat.lt_irrefl 0 h).elim)⟩
theorem testP_lt {s : PS} {f : UInt8} (h : testP c s = some f) : s.pos < c.ts.length := by
  unfold testP at h
  split at h
  · exact is_lt ‹_›
  · split at h
    · exact is_lt ‹_›
    · split at h
      · exact is_lt ‹_›
      · cases h
theorem fnP_lt {s : PS} {f : UInt8} (h : fnP c s = some f) : s.pos < c.ts.length := by
  unfold fnP at h
  split at h
  · exact is_lt ‹_›
  · split at h
    · exact is_lt ‹_›
    · split at h
      · exact is_lt ‹_›
      · cases h
theorem skipP_all {s : PS} (hs : s.pos < c.ts.length) : (skipP c s).All fun x t => Gs c s t ∧ InFit t.names.length x := by
  unfold skipP failP
  refine numQ_all.bind fun n s1 _ h1 => .ite (fun hk => argP_all.bind fun x s2 _ h2 => ?_) (fun _ => .no)
  cases hf : testP c s2 with
  | none => exact .no
  | some f =>
    refine argP_all.bind fun y s3 _ h3 => .ok ⟨(((((Gs.next hs).trans h1.1).trans (Gs.next (kw_lt hk))).trans h2.1).trans (Gs.next (testP_lt hf))).trans h3.1, ?_⟩
    exact ⟨⟨Nat.le_of_ble_eq_true rfl, Nat.le_of_ble_eq_true rfl⟩, Nat.le_of_ble_eq_true rfl, h2.2.2, h3.2.2, (fun h => (Nat.lt_irrefl 0 h).elim)⟩
theorem storeP_all {s : PS} (h6 : s.names.length ≤ 6) : (storeP c s).All fun x t => Gs c s t ∧ InFit t.names.length x := by
  unfold storeP
  refine locP_all.bind fun k s1 _ h1 => signP_all.bind fun _ s2 _ h2 => argP_all.bind fun x s3 _ h3 => ?_
  have hg := (h1.1.trans h2.1).trans h3.1
  have hk : k.toNat < s3.names.length := Nat.lt_of_lt_of_le (h1.2.2.1 h6) (h2.1.trans h3.1).more
  refine .ite (fun h => .ok ⟨hg.trans (Gs.next (kw_lt h)), ?_⟩) (fun _ => .ok ⟨hg, ?_⟩)
  all_goals exact ⟨⟨Nat.le_of_ble_eq_true rfl, Nat.le_of_ble_eq_true rfl⟩, Nat.le_of_ble_eq_true rfl, h3.2.2, (fun h => absurd h Bool.false_ne_true), fun _ => hk⟩
theorem moveP_all {d : UInt8} {s : PS} (hd : d.toNat < 8) : (moveP' c d s).All fun x t => Gs c s t ∧ InFit t.names.length x := by
  unfold moveP' failP
  refine argP_all.bind fun x s1 _ h1 => ?_
  cases hf : fnP c s1 with
  | none => exact .no
  | some f => exact argP_all.bind fun y s2 _ h2 => .ok ⟨(h1.1.trans (Gs.next (fnP_lt hf))).trans h2.1, ⟨Nat.le_of_ble_eq_true rfl, Nat.le_of_ble_eq_true rfl⟩, hd, h1.2.2, h2.2.2, (fun h => (Nat.lt_irrefl 0 h).elim)⟩
theorem assignP_all {s : PS} (h6 : s.names.length ≤ 6) : (assignP c s).All fun x t => Gs c s t ∧ InFit t.names.length x := by
  unfold assignP
  refine regQ_all.bind fun d s1 _ h1 => signP_all.bind fun _ s2 _ h2 => ?_
  have hg := h1.1.trans h2.1
  have hd := h1.2.2
  have e2 : s2.names = s.names := by rw [h2.2, h1.2.1]; rfl
  have hn : ∀ s3 : PS, s2.names = s3.names → s3.names.length ≤ 6 := fun s3 e => by rw [← e, e2]; exact h6
  refine .ite (fun hk => locP_all.bind fun k s3 _ h3 => argP_all.bind fun x s4 _ h4 => .ok ⟨((hg.trans (Gs.next (kw_lt hk))).trans h3.1).trans h4.1, ?_⟩) (fun _ => ?_)
  · exact ⟨⟨Nat.le_of_ble_eq_true rfl, Nat.le_of_ble_eq_true rfl⟩, hd, h4.2.2, (fun h => absurd h Bool.false_ne_true), fun _ => Nat.lt_of_lt_of_le (h3.2.2.1 (hn _ rfl)) h4.1.more⟩
  refine .ite (fun hk => locP_all.bind fun k s3 _ h3 => argP_all.bind fun x s4 _ h4 => .ok ⟨((hg.trans (Gs.next (kw_lt hk))).trans h3.1).trans h4.1, ?_⟩) (fun _ => ?_)
  · exact ⟨⟨Nat.le_of_ble_eq_true rfl, Nat.le_of_ble_eq_true rfl⟩, hd, h4.2.2, (fun h => absurd h Bool.false_ne_true), fun _ => Nat.lt_of_lt_of_le (h3.2.2.1 (hn _ rfl)) h4.1.more⟩
  refine .ite (fun hk => locP_all.bind fun k s3 _ h3 => argP_all.bind fun x s4 _ h4 => argP_all.bind fun y s5 _ h5 => .ok ⟨(((hg.trans (Gs.next (kw_lt hk))).trans h3.1).trans h4.1).trans h5.1, ?_⟩) (fun _ => ?_)
  · exact ⟨⟨Nat.le_of_ble_eq_true rfl, Nat.le_of_ble_eq_true rfl⟩, hd, h4.2.2, h5.2.2, fun _ => Nat.lt_of_lt_of_le (h3.2.2.1 (hn _ rfl)) (h4.1.trans h5.1).more⟩
  refine .ite (fun hk => locP_all.bind fun k s3 _ h3 => ?_) (fun _ => ?_)
  · have hl : k.toNat < s3.names.length := h3.2.2.1 (hn _ rfl)
    refine .ite (fun h => .ok ⟨(hg.trans h3.1).trans (Gs.next (kw_lt h)), ?_⟩) (fun _ => .ok ⟨hg.trans h3.1, ?_⟩)
    all_goals exact ⟨⟨Nat.le_of_ble_eq_true rfl, Nat.le_of_ble_eq_true rfl⟩, hd, (fun h => absurd h Bool.false_ne_true), (fun h => absurd h Bool.false_ne_true), fun _ => hl⟩
  · exact (moveP_all hd).imp fun x t h => ⟨hg.trans h.1, h.2⟩
theorem insP_all {k : Nat} {s : PS} (hs : s.pos < c.ts.length) (h6 : s.names.length ≤ 6) : (insP c k s).All fun x t => Gs c s t ∧ InFit t.names.length x := by
  unfold insP
  exact .ite (fun _ => fenceP_all hs) (fun _ => .ite (fun _ => skipP_all hs) (fun _ => .ite (fun _ => assignP_all h6) (fun _ => storeP_all h6)))
theorem sevL_all {part : PS → Rs Cnd} {str : List UInt8} (hp : ∀ s, (part s).All fun _ t => Gs c s t) : ∀ (f : Nat) (ks : List Cnd) (s : PS), (sevL c part str f ks s).All fun _ t => s.pos ≤ t.pos ∧ (s.pos ≤ c.ts.length → t.pos ≤ c.ts.length) ∧ s.names.length ≤ t.names.length ∧ (NmOk s.names → NmOk t.names) ∧ (c.fixed = true → t.names = s.names)
  | 0, ks, s => .no
  | f + 1, ks, s => by
    unfold sevL
    refine .ite (fun h => (hp s.next).bind fun k t _ hk => (sevL_all hp f (ks ++ [k]) t).imp fun v u hu => ?_) (fun _ => .ok ⟨Nat.le_refl _, id, Nat.le_refl _, id, fun _ => rfl⟩)
    have hg := (Gs.next (is_lt h)).trans hk
    exact ⟨Nat.le_of_lt (Nat.lt_of_lt_of_le hg.lt hu.1), fun _ => hu.2.1 hg.le, Nat.le_trans hg.more hu.2.2.1, fun hn => hu.2.2.2.1 (hg.names hn), fun hf => (hu.2.2.2.2 hf).trans (hg.keep hf)⟩
theorem sevP_all {part : PS → Rs Cnd} {kind : UInt8} {str : List UInt8} (hp : ∀ s, (part s).All fun _ t => Gs c s t) (s : PS) : (sevP c kind str part s).All fun _ t => Gs c s t := by
  unfold sevP
  refine (hp s).bind fun k t _ hk => .ite (fun _ => (sevL_all hp _ _ _).bind fun ks u _ hu => .ok ?_) (fun _ => .ok hk)
  exact ⟨Nat.lt_of_lt_of_le hk.lt hu.1, hu.2.1 hk.le, Nat.le_trans hk.more hu.2.2.1, fun hn => hu.2.2.2.1 (hk.names hn), fun hf => (hu.2.2.2.2 hf).trans (hk.keep hf)⟩
theorem factP_all : ∀ (n : Nat) (s : PS), (factP c n s).All fun _ t => Gs c s t
  | 0, s => .no
  | n + 1, s => by
    unfold factP
    refine .ite (fun h => (factP_all n s.next).bind fun k t _ hk => .ok ((Gs.next (is_lt h)).trans hk)) (fun _ => ?_)
    refine .ite (fun h => (sevP_all (sevP_all (factP_all n)) s.next).bind fun k t _ hk => signP_all.bind fun _ u _ hu => .ok (((Gs.next (is_lt h)).trans hk).trans hu.1)) (fun _ => ?_)
    refine .ite (fun h => .ok (Gs.next (kw_lt h))) (fun _ => ?_)
    refine .ite (fun h => numQ_all.bind fun t s1 _ h1 => signP_all.bind fun _ s2 _ h2 => regQ_all.bind fun n s3 _ h3 => signP_all.bind fun _ s4 _ h4 => numQ_all.bind fun v s5 _ h5 => .ok ((((h1.1.trans h2.1).trans h3.1).trans h4.1).trans h5.1)) (fun _ => ?_)
    exact locP_all.bind fun k s1 _ h1 => signP_all.bind fun _ s2 _ h2 => numQ_all.bind fun v s3 _ h3 => .ok ((h1.1.trans h2.1).trans h3.1)
theorem conjP_all (n : Nat) (s : PS) : (conjP c n s).All fun _ t => Gs c s t := by unfold conjP; exact sevP_all (factP_all n) s
theorem disjP_all (n : Nat) (s : PS) : (disjP c n s).All fun _ t => Gs c s t := by unfold disjP; exact sevP_all (conjP_all n) s
end
end Go.Proofs.Ytbdjlmdejlklkaa
