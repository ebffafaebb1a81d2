/-
  Plain Lean: the runs that ends enumerates: all of them, in order, each once; how many. Conditions: none.
-/
import Derived.Test.YtklpiodciblabaaGreatDoorPl1
set_option linter.unusedSimpArgs false
set_option linter.unusedVariables false
namespace Go.Proofs.YtklpiodciblabaaGreatDoor
set_option maxRecDepth 100000
/-! ### Members -/
theorem path_go {l : List Ins} {r z : RunP} {vs : List UInt8} : ∀ (n : Nat) (r : RunP), l.length - r.pc ≤ n → (Path8 l (proceedP l r) vs z ↔ Path8 l r vs z) := by
  intro n
  induction n with
  | zero =>
    intro r hn
    have hx : l[r.pc]? = none := List.getElem?_eq_none (by omega)
    rw [proceed_stop (.inr hx)]
  | succ n ih =>
    intro r hn
    cases hx : l[r.pc]? with
    | none => rw [proceed_stop (.inr hx)]
    | some x =>
      have hp := (List.getElem?_eq_some_iff.1 hx).1
      cases hr : readsB x.op with
      | true => rw [proceed_stop (.inl ((wants_of hx).trans hr))]
      | false =>
        rw [proceed_step hx hr, ih _ (by have := exec_pc x 0 r; omega)]
        constructor
        · exact fun h => .pass hx hr h
        · intro h
          cases h with
          | stop hx2 => rw [hx] at hx2; cases hx2
          | read hx2 hr2 _ =>
            obtain rfl := Option.some.inj (hx.symm.trans hx2)
            rw [hr] at hr2; cases hr2
          | pass hx2 _ h => obtain rfl := Option.some.inj (hx.symm.trans hx2); exact h
theorem stop_of {l : List Ins} {r : RunP} (h : wantsP l (proceedP l r) = false) : l[(proceedP l r).pc]? = none := by
  rcases proceed_end (l := l) (l.length - r.pc) r (Nat.le_refl _) with hw | hx
  · have hw : wantsP l (proceedP l r) = true := hw
    rw [h] at hw; cases hw
  · exact hx
theorem mem_spread {l : List Ins} {dom : List UInt8} {z : RunP} : ∀ (f : Nat) (r : RunP), l.length - r.pc < f → (z ∈ spreadL l dom f r ↔ ∃ vs, (∀ v ∈ vs, v ∈ dom) ∧ Path8 l r vs z) := by
  intro f
  induction f with
  | zero => intro r h; omega
  | succ f ih =>
    intro r hf
    have hpr := proceed_le (l := l) r
    cases hw : wantsP l (proceedP l r) with
    | false =>
      rw [spread_end hw]
      have hx := stop_of hw
      constructor
      · intro hz
        obtain rfl := List.mem_singleton.1 hz
        exact ⟨[], fun v h => by simp at h, (path_go (r := r) _ r (Nat.le_refl _)).1 (.stop hx)⟩
      · rintro ⟨vs, _, h⟩
        have h := (path_go (r := r) _ r (Nat.le_refl _)).2 h
        cases h with
        | stop _ => exact List.mem_singleton.2 rfl
        | read hx2 _ _ => rw [hx] at hx2; cases hx2
        | pass hx2 _ _ => rw [hx] at hx2; cases hx2
    | true =>
      rw [spread_on hw]
      obtain ⟨hx, hr⟩ := wants_ins hw
      have hp := (List.getElem?_eq_some_iff.1 hx).1
      rw [List.mem_flatMap]
      constructor
      · rintro ⟨v, hv, hz⟩
        obtain ⟨vs, h1, h2⟩ := (ih _ (by have := exec_pc (insAt l (proceedP l r)) v (proceedP l r); omega)).1 hz
        exact ⟨v :: vs, fun u hu => by
          rcases List.mem_cons.1 hu with rfl | hu
          · exact hv
          · exact h1 u hu, (path_go (r := r) _ r (Nat.le_refl _)).1 (.read hx hr h2)⟩
      · rintro ⟨vs, hd, h⟩
        have h := (path_go (r := r) _ r (Nat.le_refl _)).2 h
        cases h with
        | stop hx2 => rw [hx] at hx2; cases hx2
        | pass hx2 hr2 _ =>
          obtain rfl := Option.some.inj (hx.symm.trans hx2)
          rw [hr] at hr2; cases hr2
        | @read _ _ x2 v vs hx2 _ h =>
          obtain rfl := Option.some.inj (hx.symm.trans hx2)
          exact ⟨v, hd v List.mem_cons_self, (ih _ (by have := exec_pc (insAt l (proceedP l r)) v (proceedP l r); omega)).2 ⟨vs, fun u hu => hd u (List.mem_cons_of_mem _ hu), h⟩⟩
theorem mem_ends {l : List Ins} {dom : List UInt8} {z : RunP} : z ∈ endsL l dom ↔ ∃ vs, (∀ v ∈ vs, v ∈ dom) ∧ Path8 l zRun vs z := mem_spread _ _ (by have : zRun.pc = 0 := rfl; omega)
/-! ### Their order -/
theorem bl_pre (p a b : List UInt8) : Go.Op.bytesLess (p ++ a) (p ++ b) = Go.Op.bytesLess a b := by
  induction p with
  | nil => rfl
  | cons x p ih => simp [Go.Op.bytesLess, ih]
theorem bl_head {v u : UInt8} (h : v.toNat < u.toNat) (a b : List UInt8) : Go.Op.bytesLess (v :: a) (u :: b) = true := by
  have : v < u := h
  simp [Go.Op.bytesLess, this]
theorem less_not : ∀ {a b : List UInt8}, Go.Op.bytesLess a b = true → (Go.Op.bytesLess b a || a == b) = false
  | [], [], h => by simp [Go.Op.bytesLess] at h
  | _ :: _, [], h => by simp [Go.Op.bytesLess] at h
  | [], _ :: _, _ => by simp [Go.Op.bytesLess]
  | x :: a, y :: b, h => by
    simp only [Go.Op.bytesLess, Bool.or_eq_true, Bool.and_eq_true, decide_eq_true_eq, beq_iff_eq] at h
    rcases h with h | ⟨rfl, h⟩
    · have h1 : ¬ y < x := fun h2 => absurd (show x.toNat < y.toNat from h) (Nat.lt_asymm h2)
      have h2 : x ≠ y := fun e => by subst e; exact absurd (show x.toNat < x.toNat from h) (Nat.lt_irrefl _)
      have h3 : y ≠ x := fun e => h2 e.symm
      simp [Go.Op.bytesLess, h1, h2, h3]
    · have ih := less_not h
      rw [Bool.or_eq_false_iff] at ih
      have h1 : ¬ x < x := fun h => absurd (show x.toNat < x.toNat from h) (Nat.lt_irrefl _)
      have h2 : a ≠ b := beq_eq_false_iff_ne.1 ih.2
      simp [Go.Op.bytesLess, h1, ih.1, h2]
theorem spread_order {l : List Ins} {dom : List UInt8} (hd : dom.Pairwise fun x y => x.toNat < y.toNat) : ∀ (f : Nat) (r : RunP), l.length - r.pc < f → (spreadL l dom f r).Pairwise fun a b => Go.Op.bytesLess (rdL (evsP a)) (rdL (evsP b)) = true := by
  intro f
  induction f with
  | zero => intro r h; omega
  | succ f ih =>
    intro r hf
    have hpr := proceed_le (l := l) r
    cases hw : wantsP l (proceedP l r) with
    | false => rw [spread_end hw]; exact List.pairwise_singleton _ _
    | true =>
      rw [spread_on hw]
      obtain ⟨hx, hr⟩ := wants_ins hw
      have hp := (List.getElem?_eq_some_iff.1 hx).1
      have hlt : ∀ v, l.length - (execE (insAt l (proceedP l r)) v (proceedP l r)).pc < f := fun v => by have := exec_pc (insAt l (proceedP l r)) v (proceedP l r); omega
      rw [List.pairwise_flatMap]
      refine ⟨fun v _ => ih _ (hlt v), hd.imp fun {v u} hvu a ha b hb => ?_⟩
      obtain ⟨vs, _, h1⟩ := (mem_spread f _ (hlt v)).1 ha
      obtain ⟨us, _, h2⟩ := (mem_spread f _ (hlt u)).1 hb
      rw [h1.rd, h2.rd, rd_read hr, rd_read hr, List.append_assoc, List.append_assoc, bl_pre]
      exact bl_head hvu _ _
theorem ends_order {l : List Ins} (dom : List UInt8) : (endsL l (distL dom)).Pairwise fun a b => Go.Op.bytesLess (rdL (evsP a)) (rdL (evsP b)) = true := spread_order (dist_inc dom) _ _ (by have : zRun.pc = 0 := rfl; omega)
/-! ### How many -/
def rcL (l : List Ins) (k : Nat) : Nat := ((l.drop k).filter fun x => readsB x.op).length
theorem rc_step {l : List Ins} {k : Nat} {x : Ins} (hx : l[k]? = some x) : rcL l k = rcL l (k + 1) + (if readsB x.op = true then 1 else 0) := by
  obtain ⟨hk, rfl⟩ := List.getElem?_eq_some_iff.1 hx
  unfold rcL
  rw [List.drop_eq_getElem_cons hk, List.filter_cons]
  split <;> simp
theorem rc_mono {l : List Ins} {j k : Nat} (h : j ≤ k) : rcL l k ≤ rcL l j := by
  unfold rcL
  have e : l.drop k = (l.drop j).drop (k - j) := by rw [List.drop_drop]; congr 1; omega
  rw [e]
  exact ((List.drop_sublist _ _).filter _).length_le
theorem Path8.rc {l : List Ins} {r z : RunP} {vs : List UInt8} (h : Path8 l r vs z) : vs.length ≤ rcL l r.pc := by
  induction h with
  | stop hx => exact Nat.zero_le _
  | @read r z x v vs hx hr _ ih =>
    rw [rc_step hx, if_pos hr, List.length_cons]
    exact Nat.succ_le_succ (Nat.le_trans ih (rc_mono (by have := exec_pc x v r; omega)))
  | @pass r z x vs hx hr _ ih => exact Nat.le_trans ih (rc_mono (by have := exec_pc x 0 r; omega))
theorem spread_len {l : List Ins} {dom : List UInt8} (hd : dom.length ≤ 4) : ∀ (f : Nat) (r : RunP), (spreadL l dom f r).length ≤ 4 ^ rcL l r.pc := by
  intro f
  induction f with
  | zero => intro r; exact Nat.zero_le _
  | succ f ih =>
    intro r
    have hpr := proceed_le (l := l) r
    cases hw : wantsP l (proceedP l r) with
    | false => rw [spread_end hw]; exact Nat.pow_pos (by decide)
    | true =>
      rw [spread_on hw]
      obtain ⟨hx, hr⟩ := wants_ins hw
      have key : ∀ d : List UInt8, (d.flatMap fun v => spreadL l dom f (execE (insAt l (proceedP l r)) v (proceedP l r))).length ≤ d.length * 4 ^ rcL l ((proceedP l r).pc + 1) := fun d => by
        induction d with
        | nil => simp
        | cons v d ihd =>
          rw [List.flatMap_cons, List.length_append, List.length_cons, Nat.add_mul, Nat.one_mul]
          have h1 := ih (execE (insAt l (proceedP l r)) v (proceedP l r))
          have h2 : 4 ^ rcL l (execE (insAt l (proceedP l r)) v (proceedP l r)).pc ≤ 4 ^ rcL l ((proceedP l r).pc + 1) := Nat.pow_le_pow_right (by omega) (rc_mono (by have := exec_pc (insAt l (proceedP l r)) v (proceedP l r); omega))
          omega
      refine Nat.le_trans (key dom) ?_
      have e := rc_step hx
      rw [if_pos hr] at e
      have h3 : 4 ^ rcL l (proceedP l r).pc ≤ 4 ^ rcL l r.pc := Nat.pow_le_pow_right (by omega) (rc_mono hpr)
      rw [e, Nat.pow_succ] at h3
      have h4 : dom.length * 4 ^ rcL l ((proceedP l r).pc + 1) ≤ 4 * 4 ^ rcL l ((proceedP l r).pc + 1) := Nat.mul_le_mul_right _ hd
      omega
def fewP (l : List Ins) : Bool := decide (l.length ≤ 12) && decide (rcL l 0 ≤ 4)
theorem ends_few {l : List Ins} {dom : List UInt8} (h : rcL l 0 ≤ 4) (hd : dom.length ≤ 4) : (endsL l dom).length ≤ 256 := by
  refine Nat.le_trans (spread_len hd _ zRun) ?_
  have : 4 ^ rcL l zRun.pc ≤ 4 ^ 4 := Nat.pow_le_pow_right (by omega) h
  simpa using this
/-! ### Reads on the way -/
theorem pad_of {l : List Ins} (hl : threadOk 6 l = true) (xs : List UInt8) : ∃ k z, Path8 l zRun ((xs ++ List.replicate 12 0).take k) z ∧ k ≤ xs.length + 12 ∧ (k < xs.length → followP l xs = .many) ∧ (k = xs.length → followP l xs = .done z) ∧ (xs.length < k → followP l xs = .wants) := by
  obtain ⟨k, z, hk, hz⟩ := done_ex hl (ws := xs ++ List.replicate 12 0) (by rw [List.length_append, List.length_replicate]; omega)
  rw [List.length_append, List.length_replicate] at hk
  refine ⟨k, z, hz.path, hk, fun h => ?_, fun h => ?_, fun h => ?_⟩
  · have h1 := hz.path
    rw [List.take_append_of_le_length (by omega)] at h1
    have e : xs = xs.take k ++ xs[k] :: xs.drop (k + 1) := by rw [← List.drop_eq_getElem_cons h, List.take_append_drop]
    show goP l xs zRun = .many
    rw [e]
    exact h1.more _ _
  · have h1 := hz.path
    rw [h, List.take_left' rfl] at h1
    exact h1.go
  · have h1 := hz.path.less xs.length (by rw [List.length_take, List.length_append, List.length_replicate]; omega)
    rw [List.take_take, Nat.min_eq_left (by omega), List.take_left' rfl] at h1
    exact h1
end Go.Proofs.YtklpiodciblabaaGreatDoor
