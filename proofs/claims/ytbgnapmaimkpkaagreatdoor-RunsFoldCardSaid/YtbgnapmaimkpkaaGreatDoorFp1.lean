/-
  Plain Lean: what is left when dead code is removed: the fixed point, what is reached, places. Conditions: none.
-/
import Derived.Test.YtbgnapmaimkpkaaGreatDoorFoP
import Derived.Test.YtbgnapmaimkpkaaGreatDoorFoG
import Derived.Test.YtbgnapmaimkpkaaGreatDoorCkL
import Derived.Test.YtbgnapmaimkpkaaGreatDoorVcL
set_option linter.unusedSimpArgs false
set_option linter.unusedVariables false
namespace Go.Proofs.YtbgnapmaimkpkaaGreatDoor
-- FpA
theorem lgetD_some {α : Type} {l : List α} {k : Nat} {v d : α} (h : l[k]? = some v) : l.getD k d = v := by rw [List.getD_eq_getElem?_getD, h]; rfl
theorem getD_true {l : List Bool} {k : Nat} (h : l.getD k false = true) : l[k]? = some true := by
  rw [List.getD_eq_getElem?_getD] at h
  cases e : l[k]? with
  | none => rw [e] at h; cases h
  | some v => rw [e] at h; exact congrArg some h
theorem getD_set_true {l : List Bool} {i k : Nat} {v : Bool} (h : (l.set i v).getD k false = true) : (i = k ∧ v = true) ∨ l.getD k false = true := by
  have h1 := getD_true h
  rw [List.getElem?_set] at h1
  split at h1
  · rename_i e
    split at h1
    · exact .inl ⟨e, by simpa using h1⟩
    · cases h1
  · exact .inr (lgetD_some h1)
inductive Reach (l : List Ins) (al : List Bool) : Nat → Prop
  | zero : Reach l al 0
  | next {i : Nat} {x : Ins} : Reach l al i → l[i]? = some x → (al.getD i false = true → x.op = 8 → wayN x = true) → Reach l al (i + 1)
  | jump {i : Nat} {x : Ins} : Reach l al i → l[i]? = some x → al.getD i false = true → x.op = 8 → wayJ x = true → Reach l al (i + 1 + x.skip.toNat)
theorem reach_sound (l : List Ins) (al : List Bool) : ∀ K k, (reachP l al K).getD k false = true → Reach l al k
  | 0, k, h => by
    cases k with
    | zero => exact .zero
    | succ k =>
      have h1 := getD_true h
      rw [reachP, List.getElem?_cons_succ, List.getElem?_replicate] at h1
      split at h1 <;> simp at h1
  | K + 1, k, h => by
    cases e : l[K]? with
    | none =>
      rw [reachP, e] at h
      exact reach_sound l al K k h
    | some x =>
      rw [reachP_at e] at h
      unfold reach1 at h
      split at h
      · exact reach_sound l al K k h
      · rename_i hr
        have hK : Reach l al K := reach_sound l al K K (by simpa using hr)
        have hq : ∀ n : Bool, (n = true → al.getD K false = true → x.op = 8 → wayN x = true) → ((reachP l al K).set (K + 1) ((reachP l al K).getD (K + 1) false || n)).getD k false = true → Reach l al k := fun n hn g => by
          rcases getD_set_true g with ⟨e1, g2⟩ | g2
          · subst e1
            rw [Bool.or_eq_true] at g2
            rcases g2 with g3 | g3
            · exact reach_sound l al K _ g3
            · exact .next hK e (hn g3)
          · exact reach_sound l al K k g2
        by_cases hc : (al.getD K false && x.op == 8) = true
        · have hc' : al.getD K false = true ∧ x.op = 8 := by simpa using hc
          simp only [hc, if_true] at h
          split at h
          · rename_i hj
            rcases getD_set_true h with ⟨rfl, _⟩ | h
            · exact .jump hK e hc'.1 hc'.2 hj
            · exact hq _ (fun h _ _ => h) h
          · exact hq _ (fun h _ _ => h) h
        · simp only [Bool.not_eq_true] at hc
          simp only [hc] at h
          refine hq true (fun _ h1 h2 => ?_) (by simpa using h)
          rw [h1, h2] at hc
          simp at hc
theorem set_keeps {l : List Bool} {i k : Nat} {v : Bool} (h : l.getD k false = true) (hv : i = k → v = true) : (l.set i v).getD k false = true := by
  have h1 := getD_true h
  have hk := (List.getElem?_eq_some_iff.1 h1).1
  apply lgetD_some
  rw [List.getElem?_set]
  split
  · rename_i e
    subst e;rw [if_pos hk, hv rfl]
  · exact h1
def reachQ (x : Ins) (r : List Bool) (i : Nat) (n j : Bool) : List Bool := if j = true then (r.set (i + 1) (r.getD (i + 1) false || n)).set (i + 1 + x.skip.toNat) true else r.set (i + 1) (r.getD (i + 1) false || n)
theorem reach1_eq {x : Ins} {a : Bool} {r : List Bool} {i : Nat} : reach1 x a r i = if r.getD i false = false then r else reachQ x r i (if (a && x.op == 8) = true then wayN x else true) (if (a && x.op == 8) = true then wayJ x else false) := rfl
theorem reachQ_of {x : Ins} {r : List Bool} {i k : Nat} {n : Bool} (j : Bool) (h : (r.set (i + 1) (r.getD (i + 1) false || n)).getD k false = true) : (reachQ x r i n j).getD k false = true := by
  unfold reachQ
  split
  · exact set_keeps h (fun _ => rfl)
  · exact h
theorem reach1_keeps {x : Ins} {a : Bool} {r : List Bool} {i k : Nat} (h : r.getD k false = true) : (reach1 x a r i).getD k false = true := by
  have hq : ∀ n : Bool, (r.set (i + 1) (r.getD (i + 1) false || n)).getD k false = true := fun n => set_keeps h (fun e => by rw [e, h]; rfl)
  rw [reach1_eq]
  split
  · exact h
  · exact reachQ_of _ (hq _)
theorem reach_up {l : List Ins} {al : List Bool} {k a b : Nat} (hab : a ≤ b) (h : (reachP l al a).getD k false = true) : (reachP l al b).getD k false = true := by
  induction hab with
  | refl => exact h
  | @step m _ ih =>
    cases e : l[m]? with
    | none => rw [reachP, e]; exact ih
    | some x => rw [reachP_at e]; exact reach1_keeps ih
theorem reach_full {l : List Ins} {al : List Bool} (hv : ∀ i x, l[i]? = some x → x.op = 8 → i + 1 + x.skip.toNat ≤ l.length) {k : Nat} (h : Reach l al k) : k ≤ l.length ∧ ∀ K, k ≤ K → (reachP l al K).getD k false = true := by
  induction h with
  | zero => exact ⟨Nat.zero_le _, fun K hK => reach_up hK (by simp [reachP])⟩
  | @next i x _ hx hn ih =>
    have hi := (List.getElem?_eq_some_iff.1 hx).1
    refine ⟨hi, fun K hK => reach_up hK ?_⟩
    rw [reachP_at hx]
    have h0 := ih.2 i (Nat.le_refl _)
    have hl := reachP_length l al i
    rw [reach1_eq, if_neg (by rw [h0]; simp)]
    have hn' : (if (al.getD i false && x.op == 8) = true then wayN x else true) = true := by
      split
      · rename_i hc
        simp only [Bool.and_eq_true, beq_iff_eq] at hc
        exact hn hc.1 hc.2
      · rfl
    rw [hn']
    have hq : ((reachP l al i).set (i + 1) ((reachP l al i).getD (i + 1) false || true)).getD (i + 1) false = true := by
      rw [Bool.or_true]
      exact lgetD_some (by rw [List.getElem?_set_self (by omega)])
    exact reachQ_of _ hq
  | @jump i x _ hx ha h8 hj ih =>
    have hle := hv i x hx h8
    refine ⟨hle, fun K hK => reach_up (show i + 1 ≤ K by omega) ?_⟩
    rw [reachP_at hx]
    have h0 := ih.2 i (Nat.le_refl _)
    have hl := reachP_length l al i
    unfold reach1
    rw [if_neg (by rw [h0]; simp)]
    simp only [ha, h8, hj, beq_self_eq_true, Bool.and_self, if_true]
    exact lgetD_some (by rw [List.getElem?_set_self (by rw [List.length_set]; omega)])
theorem sweepK_still {l : List Ins} {r al : List Bool} : ∀ K, (sweepK l r al K).2 = false → (sweepK l r al K).1 = al ∧ ∀ k x, k < K → l[k]? = some x → al.getD k false = true → r.getD k false = true ∧ (x.op = 8 → idleP x al k = false)
  | 0, _ => ⟨rfl, fun k x hk => absurd hk (by omega)⟩
  | K + 1, h => by
    cases e : l[K]? with
    | none =>
      rw [sweepK, e] at h ⊢
      obtain ⟨h1, h2⟩ := sweepK_still K h
      refine ⟨h1, fun k x hk hx => ?_⟩
      rcases Nat.lt_or_ge k K with hkK | hkK
      · exact h2 k x hkK hx
      · obtain rfl : k = K := by omega
        rw [e] at hx; cases hx
    | some y =>
      rw [sweepK_at e] at h ⊢
      split at h
      · cases h
      · rename_i hc
        rw [if_neg hc]
        obtain ⟨h1, h2⟩ := sweepK_still K h
        rw [h1] at hc
        refine ⟨h1, fun k x hk hx ha => ?_⟩
        rcases Nat.lt_or_ge k K with hkK | hkK
        · exact h2 k x hkK hx ha
        · obtain rfl : k = K := by omega
          rw [e] at hx; cases hx
          rw [ha] at hc
          simp only [Bool.true_and, Bool.or_eq_true, Bool.not_eq_true', Bool.and_eq_true, beq_iff_eq, not_or, not_and, Bool.not_eq_true] at hc
          exact ⟨by cases hr : r.getD k false with | false => exact absurd hr hc.1 | true => rfl, hc.2⟩
theorem foldA_still (l : List Ins) : ∀ (n : Nat) (al : List Bool), al.length = l.length → al.count true < n → (sweepP l (foldA l n al)).2 = false ∧ (foldA l n al).length = l.length
  | 0, al, _, h => absurd h (by omega)
  | n + 1, al, hl, h => by
    unfold foldA
    split
    · rename_i hs
      exact foldA_still l n _ (by rw [sweepP_length, hl]) (by have := (sweepK_count l (reachP l al l.length) al l.length).2 hs; show (sweepK l (reachP l al l.length) al l.length).1.count true < n; omega)
    · rename_i hs
      have hs' : (sweepP l al).2 = false := by simpa using hs
      have he : (sweepP l al).1 = al := (sweepK_still l.length hs').1
      rw [he]
      exact ⟨hs', hl⟩
theorem alive_at {l : List Ins} {k : Nat} {x : Ins} (hx : l[k]? = some x) (ha : (foldAl l).getD k false = true) : Reach l (foldAl l) k ∧ (x.op = 8 → wayJ x = true ∧ skippedP (foldAl l) k x.skip.toNat ≠ 0) := by
  have hs := (foldA_still l (l.length + 1) (List.replicate l.length true) (by simp) (by simp)).1
  have h := (sweepK_still l.length hs).2 k x (List.getElem?_eq_some_iff.1 hx).1 hx ha
  refine ⟨reach_sound _ _ _ _ h.1, fun h8 => ?_⟩
  have := h.2 h8
  simp only [idleP, Bool.or_eq_false_iff, Bool.not_eq_false', beq_eq_false_iff_ne] at this
  exact this
def rank (al : List Bool) (k : Nat) : Nat := (al.take k).count true
theorem rank_succ {al : List Bool} {k : Nat} : rank al (k + 1) = rank al k + (if al.getD k false = true then 1 else 0) := by
  unfold rank
  cases e : al[k]? with
  | none =>
    rw [List.take_add_one, e, List.getD_eq_getElem?_getD, e]
    simp
  | some v => rw [count_take e, lgetD_some e]
theorem rank_mono {al : List Bool} {a b : Nat} (h : a ≤ b) : rank al a ≤ rank al b := by
  induction h with
  | refl => exact Nat.le_refl _
  | step _ ih => rw [rank_succ]; omega
theorem rank_skip (al : List Bool) (i s : Nat) : rank al (i + 1 + s) = rank al (i + 1) + skippedP al i s := by
  unfold rank skippedP
  rw [List.take_add, List.count_append]
theorem outP_rank (l : List Ins) (al : List Bool) : ∀ k, k ≤ l.length → (outP l al k).length = rank al k
  | 0, _ => by simp [outP, rank]
  | k + 1, h => by
    have hx : l[k]? = some l[k] := List.getElem?_eq_getElem (by omega)
    rw [outP_at hx, rank_succ, ← outP_rank l al k (by omega)]
    split <;> simp
theorem outP_get (l : List Ins) (al : List Bool) : ∀ n, n ≤ l.length → ∀ k x, k < n → l[k]? = some x → al.getD k false = true → (outP l al n)[rank al k]? = some (keepI x al k)
  | 0, _, k, _, hk, _, _ => absurd hk (by omega)
  | n + 1, h, k, x, hk, hx, ha => by
    have hy : l[n]? = some l[n] := List.getElem?_eq_getElem (by omega)
    rw [outP_at hy]
    have hlen := outP_rank l al n (by omega)
    rcases Nat.lt_or_ge k n with hkn | hkn
    · have ih := outP_get l al n (by omega) k x hkn hx ha
      split
      · rw [List.getElem?_append_left (List.getElem?_eq_some_iff.1 ih).1]
        exact ih
      · exact ih
    · obtain rfl : k = n := by omega
      rw [hx] at hy;rw [if_pos ha, ← hlen, List.getElem?_append_right (Nat.le_refl _), Nat.sub_self, List.getElem?_cons_zero, Option.some.inj hy]
theorem rank_onto (al : List Bool) : ∀ n j, j < rank al n → ∃ k, k < n ∧ al.getD k false = true ∧ rank al k = j
  | 0, j, h => absurd h (by simp [rank])
  | n + 1, j, h => by
    rw [rank_succ] at h
    rcases Nat.lt_or_ge j (rank al n) with h1 | h1
    · obtain ⟨k, hk, h2, h3⟩ := rank_onto al n j h1
      exact ⟨k, by omega, h2, h3⟩
    · split at h
      · rename_i ha
        exact ⟨n, by omega, ha, by omega⟩
      · omega
-- FpB
theorem keep_op (x : Ins) (al : List Bool) (k : Nat) : (keepI x al k).op = x.op := by unfold keepI; split <;> rfl
theorem fold_len (l : List Ins) : (foldP l).length = rank (foldAl l) l.length := outP_rank l _ _ (Nat.le_refl _)
theorem fold_get {l : List Ins} {k : Nat} {x : Ins} (hx : l[k]? = some x) (ha : (foldAl l).getD k false = true) : (foldP l)[rank (foldAl l) k]? = some (keepI x (foldAl l) k) :=
  outP_get l _ _ (Nat.le_refl _) k x (List.getElem?_eq_some_iff.1 hx).1 hx ha
theorem fold_at {l : List Ins} {j : Nat} {y : Ins} (hy : (foldP l)[j]? = some y) : ∃ k x, l[k]? = some x ∧ (foldAl l).getD k false = true ∧ rank (foldAl l) k = j ∧ y = keepI x (foldAl l) k := by
  have hj := (List.getElem?_eq_some_iff.1 hy).1
  rw [fold_len] at hj
  obtain ⟨k, hk, ha, hr⟩ := rank_onto _ _ j hj
  have hx : l[k]? = some l[k] := List.getElem?_eq_getElem hk
  refine ⟨k, _, hx, ha, hr, ?_⟩
  have := fold_get hx ha
  rw [hr, hy] at this
  exact Option.some.inj this
theorem skipped_le (al : List Bool) (i s : Nat) : skippedP al i s ≤ s := by
  unfold skippedP
  exact Nat.le_trans List.count_le_length (by rw [List.length_take]; omega)
theorem keep_skip {l : List Ins} {k : Nat} {x : Ins} (hx : l[k]? = some x) (ha : (foldAl l).getD k false = true) (h8 : x.op = 8) :
    (keepI x (foldAl l) k).skip.toNat = skippedP (foldAl l) k x.skip.toNat ∧ 1 ≤ skippedP (foldAl l) k x.skip.toNat ∧ rank (foldAl l) k + 1 + skippedP (foldAl l) k x.skip.toNat = rank (foldAl l) (k + 1 + x.skip.toNat) := by
  have h1 := skipped_le (foldAl l) k x.skip.toNat
  have h2 := x.skip.toNat_lt
  have h3 := ((alive_at hx ha).2 h8).2
  refine ⟨?_, by omega, ?_⟩
  · unfold keepI
    rw [if_pos h8]
    show (UInt8.ofNat _).toNat = _
    rw [UInt8.toNat_ofNat']
    omega
  · rw [rank_skip, rank_succ, if_pos ha]
theorem hv_fold {l : List Ins} (hv : hvP l) : hvP (foldP l) := fun j y hy h8 => by
  obtain ⟨k, x, hx, ha, rfl, rfl⟩ := fold_at hy
  rw [keep_op] at h8
  obtain ⟨h1, h2, h3⟩ := keep_skip hx ha h8
  rw [h1, h3, fold_len]
  exact ⟨h2, rank_mono (hv k x hx h8).2⟩
theorem foldPre_of {p : Prg} (h : rightErr p = 0) : FoldPre p := by
  have V := valid h
  refine ⟨V.thr4, by have := V.init; have := V.locs6; omega, fun t ht => ?_⟩
  obtain ⟨j, hj⟩ := List.mem_iff_getElem?.1 ht
  refine ⟨V.long j t hj, fun i x hx h8 => ?_⟩
  have h7 := ins_cond (inses_at (V.ins j t hj) hx) 7 (by omega)
  simp only [condK, h8, Bool.or_eq_true, Bool.not_eq_true', Bool.and_eq_true, decide_eq_true_eq] at h7
  rcases h7 with h7 | ⟨h7, h9⟩
  · exact absurd h7 (by decide)
  · have := UInt8.le_iff_toNat_le.1 h7
    simp at this
    have hi := (List.getElem?_eq_some_iff.1 hx).1
    omega
theorem needed_skip {x : Ins} (h8 : x.op = 8) (h : x = x.needed) (s : UInt8) : ({ x with skip := s } : Ins) = ({ x with skip := s } : Ins).needed := by
  obtain ⟨op, dst, loc, aR, aN, bR, bN, fn, mode, skip⟩ := x
  simp only at h8
  subst h8
  simp only [Ins.needed, Ins.mk.injEq] at h ⊢
  obtain ⟨a, b, c, d, e, f, g, i, j, _⟩ := h
  exact ⟨a, b, c, d, e, f, g, i, j, by rw [show hasB 8 64 = true by decide]; rfl⟩
theorem keep_ok {l : List Ins} {k : Nat} {x : Ins} {locs : Int} (hx : l[k]? = some x) (ha : (foldAl l).getD k false = true) (hv : hvP l) (h : insOk x locs ((l.length : Int) - 1 - k) = true) :
    insOk (keepI x (foldAl l) k) locs (((foldP l).length : Int) - 1 - (rank (foldAl l) k : Nat)) = true := by
  have hg := fold_get hx ha
  by_cases h8 : x.op = 8
  · obtain ⟨h1, h2, h3⟩ := keep_skip hx ha h8
    have h9 := hv_fold hv _ _ hg (by rw [keep_op]; exact h8)
    have hc := ins_cond h
    simp only [insOk, List.all_eq_true, List.mem_range]
    intro i hi
    have hci := hc i hi
    have hk : keepI x (foldAl l) k = { x with skip := UInt8.ofNat (skippedP (foldAl l) k x.skip.toNat) } := by unfold keepI; rw [if_pos h8]
    match i, hi with
    | 0, _ => rw [condK, keep_op]; exact hci
    | 1, _ =>
      simp only [condK, beq_iff_eq] at hci ⊢
      rw [hk]
      exact needed_skip h8 hci _
    | 2, _ => rw [condK, hk]; exact hci
    | 3, _ => rw [condK, hk]; exact hci
    | 4, _ => rw [condK, hk]; exact hci
    | 5, _ => rw [condK, hk]; exact hci
    | 6, _ => rw [condK, hk]; exact hci
    | 7, _ =>
      simp only [condK, Bool.or_eq_true, Bool.and_eq_true, decide_eq_true_eq]
      refine .inr ⟨UInt8.le_iff_toNat_le.2 (by rw [h1]; simpa using h2), ?_⟩
      have := h9.2
      omega
    | i + 8, hi => omega
  · have hk : keepI x (foldAl l) k = x := by unfold keepI; rw [if_neg h8]
    rw [hk]
    have hc := ins_cond h
    simp only [insOk, List.all_eq_true, List.mem_range]
    intro i hi
    have hci := hc i hi
    match i, hi with
    | 0, _ => exact hci
    | 1, _ => exact hci
    | 2, _ => exact hci
    | 3, _ => exact hci
    | 4, _ => exact hci
    | 5, _ => exact hci
    | 6, _ => exact hci
    | 7, _ =>
      have h0 := hc 0 (by omega)
      simp only [condK] at h0
      have : hasB x.op 64 = false := by rcases op_cases _ h0 with e | e | e | e | e | e | e | e <;> rw [e] at h8 ⊢ <;> first | decide | exact absurd rfl h8
      rw [condK, this]
      rfl
    | i + 8, hi => omega
theorem inses_of {locs : Int} {n : Nat} : ∀ {l : List Ins} {i : Nat}, (∀ k x, l[k]? = some x → insOk x locs ((n : Int) - 1 - ((i + k : Nat) : Int)) = true) → insesOk locs n i l = true
  | [], _, _ => rfl
  | y :: r, i, h => by
    simp only [insesOk, Bool.and_eq_true]
    exact ⟨h 0 y rfl, inses_of (fun k x hx => by have := h (k + 1) x (by simpa using hx); rwa [show i + (k + 1) = i + 1 + k by omega] at this)⟩
theorem rightFrom_of {p : Prg} : ∀ (n k : Nat), (∀ i, k ≤ i → i < k + n → demandK p i = true) → rightFrom p n k = 0
  | 0, _, _ => rfl
  | n + 1, k, h => by
    unfold rightFrom
    rw [if_pos (h k (Nat.le_refl _) (by omega))]
    exact rightFrom_of n (k + 1) (fun i h1 h2 => h i (by omega) (by omega))
def foldPr (p : Prg) : Prg := ⟨p.name, p.locs, p.init, p.threads.map foldP, p.ask, p.cond⟩
theorem right_fold {p : Prg} (h : rightErr p = 0) : rightErr (foldPr p) = 0 := by
  have V := valid h
  have hf := foldPre_of h
  refine rightFrom_of 6 0 (fun i _ hi => ?_)
  match i, hi with
  | 0, _ => exact right_demand h 0 (by omega)
  | 1, _ => exact right_demand h 1 (by omega)
  | 2, _ =>
    have h2 : threadsShort p = true := right_demand h 2 (by omega)
    show threadsShort (foldPr p) = true
    simp only [threadsShort, foldPr, Bool.and_eq_true, decide_eq_true_eq, List.length_map, List.all_eq_true] at h2 ⊢
    refine ⟨h2.1, fun t ht => ?_⟩
    obtain ⟨u, hu, rfl⟩ := List.mem_map.1 ht
    exact Nat.le_trans (outP_length _ _ _) (h2.2 u hu)
  | 3, _ =>
    show threadsOk (foldPr p) = true
    simp only [threadsOk, foldPr, List.all_eq_true]
    intro t ht
    obtain ⟨u, hu, rfl⟩ := List.mem_map.1 ht
    obtain ⟨hu12, hv⟩ := hf.2.2 u hu
    obtain ⟨j, hj⟩ := List.mem_iff_getElem?.1 hu
    have hok := V.ins j u hj
    simp only [threadOk, Bool.and_eq_true, decide_eq_true_eq]
    refine ⟨Nat.le_trans (outP_length _ _ _) hu12, inses_of (fun k y hy => ?_)⟩
    obtain ⟨q, x, hx, ha, rfl, rfl⟩ := fold_at hy
    rw [Nat.zero_add]
    exact keep_ok hx ha hv (by have := inses_at hok hx; rwa [Nat.zero_add] at this)
  | 4, _ => exact right_demand h 4 (by omega)
  | 5, _ =>
    have h5 : condOk p.threads.length p.locs.length 20 p.cond = true := right_demand h 5 (by omega)
    show condOk (p.threads.map foldP).length p.locs.length 20 p.cond = true
    rw [List.length_map]
    exact h5
  | i + 6, hi => omega
-- FpC
def DeadOk (l : List Ins) (al : List Bool) : Prop := ∀ i x, l[i]? = some x → al.getD i false = false → Reach l (List.replicate l.length true) i → x.op = 8 ∧ (wayJ x = false ∨ skippedP al i x.skip.toNat = 0)
theorem all_true {n i : Nat} (h : i < n) : (List.replicate n true).getD i false = true := lgetD_some (by rw [List.getElem?_replicate, if_pos h])
theorem reach_pass {l : List Ins} {al : List Bool} {i : Nat} : ∀ n, Reach l al (i + 1) → i + 1 + n ≤ l.length → ((al.drop (i + 1)).take n).count true = 0 → Reach l al (i + 1 + n)
  | 0, h, _, _ => h
  | n + 1, h, hl, hc => by
    have hx : l[i + 1 + n]? = some l[i + 1 + n] := List.getElem?_eq_getElem (by omega)
    rw [List.take_add_one, List.count_append] at hc
    have ih := reach_pass n h (by omega) (by omega)
    refine .next ih hx (fun ha _ => ?_)
    have this : al[i + 1 + n]? = some true := getD_true ha
    rw [List.getElem?_drop, this] at hc
    simp at hc
theorem reach_dead {l : List Ins} {al : List Bool} (hv : hvP l) (hd : DeadOk l al) {i : Nat} (h : Reach l (List.replicate l.length true) i) : Reach l al i := by
  induction h with
  | zero => exact .zero
  | @next i x hr hx hn ih =>
    have hi := (List.getElem?_eq_some_iff.1 hx).1
    exact .next ih hx (fun _ h8 => hn (all_true hi) h8)
  | @jump i x hr hx _ h8 hj ih =>
    cases ha : al.getD i false with
    | true => exact .jump ih hx ha h8 hj
    | false =>
      rcases (hd i x hx ha hr).2 with h | h
      · rw [hj] at h; cases h
      · exact reach_pass _ (.next ih hx (fun h => by rw [ha] at h; cases h)) (hv i x hx h8).2 h
theorem skipped_set {al : List Bool} {i s k : Nat} (h : skippedP al i s = 0) : skippedP (al.set k false) i s = 0 := by
  unfold skippedP at h ⊢
  rw [List.count_eq_zero] at h ⊢
  intro hm
  obtain ⟨j, hj⟩ := List.mem_iff_getElem?.1 hm
  refine h (List.mem_iff_getElem?.2 ⟨j, ?_⟩)
  rw [List.getElem?_take] at hj ⊢
  split at hj
  · rename_i hjs
    rw [if_pos hjs, List.getElem?_drop] at *
    rw [List.getElem?_set] at hj
    split at hj
    · split at hj <;> cases hj
    · exact hj
  · cases hj
theorem dead_set {l : List Ins} {al : List Bool} {k : Nat} (hd : DeadOk l al) (hk : ∀ x, l[k]? = some x → Reach l (List.replicate l.length true) k → x.op = 8 ∧ (wayJ x = false ∨ skippedP al k x.skip.toNat = 0)) : DeadOk l (al.set k false) := by
  intro i x hx ha hr
  have key : x.op = 8 ∧ (wayJ x = false ∨ skippedP al i x.skip.toNat = 0) := by
    by_cases e : k = i
    · subst e; exact hk x hx hr
    · refine hd i x hx ?_ hr
      rw [List.getD_eq_getElem?_getD, List.getElem?_set_ne e, ← List.getD_eq_getElem?_getD] at ha
      exact ha
  exact ⟨key.1, key.2.imp id skipped_set⟩
theorem dead_sweep {l : List Ins} {al : List Bool} (hv : hvP l) (hd : DeadOk l al) : ∀ K, DeadOk l (sweepK l (reachP l al l.length) al K).1
  | 0 => hd
  | K + 1 => by
    have ih := dead_sweep hv hd K
    cases e : l[K]? with
    | none => rw [sweepK, e]; exact ih
    | some y =>
      rw [sweepK_at e]
      split
      · rename_i hc
        refine dead_set ih (fun x hx hr => ?_)
        rw [e] at hx; cases hx
        have h1 := (reach_full (fun i x hx h8 => (hv i x hx h8).2) (reach_dead hv hd hr)).2 l.length (Nat.le_of_lt (List.getElem?_eq_some_iff.1 e).1)
        rw [h1] at hc
        simp only [Bool.not_true, Bool.false_or, Bool.and_eq_true, beq_iff_eq, idleP, Bool.or_eq_true, Bool.not_eq_true'] at hc
        exact hc.2
      · exact ih
theorem dead_fold {l : List Ins} (hv : hvP l) : ∀ n al, DeadOk l al → DeadOk l (foldA l n al)
  | 0, _, h => h
  | n + 1, al, h => by
    unfold foldA
    split
    · exact dead_fold hv n _ (dead_sweep hv h _)
    · exact dead_sweep hv h _
theorem dead_ok {l : List Ins} (hv : hvP l) : DeadOk l (foldAl l) := dead_fold hv _ _ (fun i x hx ha _ => by rw [all_true (List.getElem?_eq_some_iff.1 hx).1] at ha; cases ha)
end Go.Proofs.YtbgnapmaimkpkaaGreatDoor
