/-
  Plain Lean: folding again changes nothing; what is folded is valid. Conditions: none.
-/
import Derived.Test.YtmfdpnjgljlkbaaDoorFpA
import Derived.Test.YtmfdpnjgljlkbaaDoorFoG
import Derived.Test.YtmfdpnjgljlkbaaDoorCkL
set_option linter.unusedSimpArgs false
set_option linter.unusedVariables false
namespace Go.Proofs.YtmfdpnjgljlkbaaDoor

theorem keep_op (x : Ins) (al : List Bool) (k : Nat) : (keepI x al k).op = x.op := by unfold keepI; split <;> rfl
theorem keep_wayN (x : Ins) (al : List Bool) (k : Nat) : wayN (keepI x al k) = wayN x := by unfold keepI; split <;> rfl
theorem keep_wayJ (x : Ins) (al : List Bool) (k : Nat) : wayJ (keepI x al k) = wayJ x := by unfold keepI; split <;> rfl
theorem fold_len (l : List Ins) : (foldP l).length = rank (foldAl l) l.length := outP_rank l _ _ (Nat.le_refl _)
theorem fold_get {l : List Ins} {k : Nat} {x : Ins} (hx : l[k]? = some x) (ha : (foldAl l).getD k false = true) : (foldP l)[rank (foldAl l) k]? = some (keepI x (foldAl l) k) :=
  outP_get l _ _ (Nat.le_refl _) k x (List.getElem?_eq_some_iff.1 hx).1 hx ha
theorem fold_at {l : List Ins} {j : Nat} {y : Ins} (hy : (foldP l)[j]? = some y) : ∃ k x, l[k]? = some x ∧ (foldAl l).getD k false = true ∧ rank (foldAl l) k = j ∧ y = keepI x (foldAl l) k := by
  have hj := (List.getElem?_eq_some_iff.1 hy).1
  rw [fold_len] at hj
  obtain ⟨k, hk, ha, hr⟩ := rank_onto _ _ j hj
  have hx : l[k]? = some l[k] := List.getElem?_eq_getElem hk
  refine ⟨k, _, hx, ha, hr, ?_⟩
  have := fold_get hx ha
  rw [hr, hy] at this
  exact Option.some.inj this
theorem skipped_le (al : List Bool) (i s : Nat) : skippedP al i s ≤ s := by
  unfold skippedP
  exact Nat.le_trans List.count_le_length (by rw [List.length_take]; omega)
theorem keep_skip {l : List Ins} {k : Nat} {x : Ins} (hx : l[k]? = some x) (ha : (foldAl l).getD k false = true) (h8 : x.op = 8) :
    (keepI x (foldAl l) k).skip.toNat = skippedP (foldAl l) k x.skip.toNat ∧ 1 ≤ skippedP (foldAl l) k x.skip.toNat ∧ rank (foldAl l) k + 1 + skippedP (foldAl l) k x.skip.toNat = rank (foldAl l) (k + 1 + x.skip.toNat) := by
  have h1 := skipped_le (foldAl l) k x.skip.toNat
  have h2 := x.skip.toNat_lt
  have h3 := ((alive_at hx ha).2 h8).2
  refine ⟨?_, by omega, ?_⟩
  · unfold keepI
    rw [if_pos h8]
    show (UInt8.ofNat _).toNat = _
    rw [UInt8.toNat_ofNat']
    omega
  · rw [rank_skip, rank_succ, if_pos ha]
theorem hv_fold {l : List Ins} (hv : hvP l) : hvP (foldP l) := fun j y hy h8 => by
  obtain ⟨k, x, hx, ha, rfl, rfl⟩ := fold_at hy
  rw [keep_op] at h8
  obtain ⟨h1, h2, h3⟩ := keep_skip hx ha h8
  rw [h1, h3, fold_len]
  exact ⟨h2, rank_mono (hv k x hx h8).2⟩
theorem reach_fold {l : List Ins} {k : Nat} (h : Reach l (foldAl l) k) : Reach (foldP l) (List.replicate (foldP l).length true) (rank (foldAl l) k) := by
  induction h with
  | zero => exact .zero
  | @next i x _ hx hn ih =>
    rw [rank_succ]
    split
    · rename_i ha
      exact .next ih (fold_get hx ha) (fun _ h8 => by rw [keep_wayN]; rw [keep_op] at h8; exact hn ha h8)
    · exact ih
  | @jump i x _ hx ha h8 hj ih =>
    obtain ⟨h1, _, h3⟩ := keep_skip hx ha h8
    rw [← h3, ← h1]
    have hg := fold_get hx ha
    exact .jump ih hg (lgetD_some (by rw [List.getElem?_replicate, if_pos (List.getElem?_eq_some_iff.1 hg).1])) (by rw [keep_op]; exact h8) (by rw [keep_wayJ]; exact hj)
theorem sweepK_none {l : List Ins} {r al : List Bool} (h : ∀ k x, l[k]? = some x → r.getD k false = true ∧ (x.op = 8 → idleP x al k = false)) : ∀ K, sweepK l r al K = (al, false)
  | 0 => rfl
  | K + 1 => by
    cases e : l[K]? with
    | none => rw [sweepK, e]; exact sweepK_none h K
    | some x =>
      obtain ⟨h1, h2⟩ := h K x e
      rw [sweepK_at e, sweepK_none h K, if_neg]
      intro hc
      simp only [Bool.and_eq_true, Bool.or_eq_true, Bool.not_eq_true', beq_iff_eq] at hc
      rcases hc.2 with hc | ⟨h8, hi⟩
      · rw [h1] at hc; cases hc
      · rw [h2 h8] at hi; cases hi
theorem skipped_all {n j s : Nat} (h : j + 1 + s ≤ n) : skippedP (List.replicate n true) j s = s := by
  unfold skippedP
  rw [List.drop_replicate, List.take_replicate, List.count_replicate_self]
  omega
theorem outP_all {l : List Ins} (hv : hvP l) : ∀ k, k ≤ l.length → outP l (List.replicate l.length true) k = l.take k
  | 0, _ => by simp [outP]
  | k + 1, h => by
    have hx : l[k]? = some l[k] := List.getElem?_eq_getElem (by omega)
    rw [outP_at hx, if_pos (lgetD_some (by rw [List.getElem?_replicate, if_pos (by omega)])), outP_all hv k (by omega), List.take_add_one, hx]
    congr 1
    have : keepI l[k] (List.replicate l.length true) k = l[k] := by
      unfold keepI
      split
      · rename_i h8
        rw [skipped_all (hv k _ hx h8).2]
        simp
      · rfl
    rw [this]
    rfl
theorem fold_fold {l : List Ins} (hv : hvP l) : foldP (foldP l) = foldP l := by
  have hv2 := hv_fold hv
  have hs : sweepP (foldP l) (List.replicate (foldP l).length true) = (List.replicate (foldP l).length true, false) := by
    refine sweepK_none (fun j y hy => ?_) _
    obtain ⟨k, x, hx, ha, rfl, rfl⟩ := fold_at hy
    obtain ⟨h1, h2⟩ := alive_at hx ha
    have hj := (List.getElem?_eq_some_iff.1 hy).1
    refine ⟨(reach_full (fun i x hx h8 => (hv2 i x hx h8).2) (reach_fold h1)).2 _ (by omega), fun h8 => ?_⟩
    have h9 := hv2 _ _ hy h8
    rw [keep_op] at h8
    rw [idleP, keep_wayJ, (h2 h8).1, skipped_all h9.2]
    simp only [Bool.not_true, Bool.false_or, beq_eq_false_iff_ne]
    omega
  have hA : foldAl (foldP l) = List.replicate (foldP l).length true := by
    unfold foldAl foldA
    rw [hs]
    rfl
  rw [foldP, hA, outP_all hv2 _ (Nat.le_refl _), List.take_length]
/-- A valid program can be folded. -/
theorem foldPre_of {p : Prg} (h : rightErr p = 0) : FoldPre p := by
  have V := valid h
  refine ⟨V.thr4, by have := V.init; have := V.locs6; omega, fun t ht => ?_⟩
  obtain ⟨j, hj⟩ := List.mem_iff_getElem?.1 ht
  refine ⟨V.long j t hj, fun i x hx h8 => ?_⟩
  have h7 := ins_cond (inses_at (V.ins j t hj) hx) 7 (by omega)
  simp only [condK, h8, Bool.or_eq_true, Bool.not_eq_true', Bool.and_eq_true, decide_eq_true_eq] at h7
  rcases h7 with h7 | ⟨h7, h9⟩
  · exact absurd h7 (by decide)
  · have := UInt8.le_iff_toNat_le.1 h7
    simp at this
    have hi := (List.getElem?_eq_some_iff.1 hx).1
    omega
theorem needed_skip {x : Ins} (h8 : x.op = 8) (h : x = x.needed) (s : UInt8) : ({ x with skip := s } : Ins) = ({ x with skip := s } : Ins).needed := by
  obtain ⟨op, dst, loc, aR, aN, bR, bN, fn, mode, skip⟩ := x
  simp only at h8
  subst h8
  simp only [Ins.needed, Ins.mk.injEq] at h ⊢
  obtain ⟨a, b, c, d, e, f, g, i, j, _⟩ := h
  exact ⟨a, b, c, d, e, f, g, i, j, by rw [show hasB 8 64 = true by decide]; rfl⟩
theorem keep_ok {l : List Ins} {k : Nat} {x : Ins} {locs : Int} (hx : l[k]? = some x) (ha : (foldAl l).getD k false = true) (hv : hvP l) (h : insOk x locs ((l.length : Int) - 1 - k) = true) :
    insOk (keepI x (foldAl l) k) locs (((foldP l).length : Int) - 1 - (rank (foldAl l) k : Nat)) = true := by
  have hg := fold_get hx ha
  by_cases h8 : x.op = 8
  · obtain ⟨h1, h2, h3⟩ := keep_skip hx ha h8
    have h9 := hv_fold hv _ _ hg (by rw [keep_op]; exact h8)
    have hc := ins_cond h
    simp only [insOk, List.all_eq_true, List.mem_range]
    intro i hi
    have hci := hc i hi
    have hk : keepI x (foldAl l) k = { x with skip := UInt8.ofNat (skippedP (foldAl l) k x.skip.toNat) } := by unfold keepI; rw [if_pos h8]
    match i, hi with
    | 0, _ => rw [condK, keep_op]; exact hci
    | 1, _ =>
      simp only [condK, beq_iff_eq] at hci ⊢
      rw [hk]
      exact needed_skip h8 hci _
    | 2, _ => rw [condK, hk]; exact hci
    | 3, _ => rw [condK, hk]; exact hci
    | 4, _ => rw [condK, hk]; exact hci
    | 5, _ => rw [condK, hk]; exact hci
    | 6, _ => rw [condK, hk]; exact hci
    | 7, _ =>
      simp only [condK, Bool.or_eq_true, Bool.and_eq_true, decide_eq_true_eq]
      refine .inr ⟨UInt8.le_iff_toNat_le.2 (by rw [h1]; simpa using h2), ?_⟩
      have := h9.2
      omega
    | i + 8, hi => omega
  · have hk : keepI x (foldAl l) k = x := by unfold keepI; rw [if_neg h8]
    rw [hk]
    have hc := ins_cond h
    simp only [insOk, List.all_eq_true, List.mem_range]
    intro i hi
    have hci := hc i hi
    match i, hi with
    | 0, _ => exact hci
    | 1, _ => exact hci
    | 2, _ => exact hci
    | 3, _ => exact hci
    | 4, _ => exact hci
    | 5, _ => exact hci
    | 6, _ => exact hci
    | 7, _ =>
      have h0 := hc 0 (by omega)
      simp only [condK] at h0
      have : hasB x.op 64 = false := by rcases op_cases _ h0 with e | e | e | e | e | e | e | e <;> rw [e] at h8 ⊢ <;> first | decide | exact absurd rfl h8
      rw [condK, this]
      rfl
    | i + 8, hi => omega
theorem inses_of {locs : Int} {n : Nat} : ∀ {l : List Ins} {i : Nat}, (∀ k x, l[k]? = some x → insOk x locs ((n : Int) - 1 - ((i + k : Nat) : Int)) = true) → insesOk locs n i l = true
  | [], _, _ => rfl
  | y :: r, i, h => by
    simp only [insesOk, Bool.and_eq_true]
    exact ⟨h 0 y rfl, inses_of (fun k x hx => by have := h (k + 1) x (by simpa using hx); rwa [show i + (k + 1) = i + 1 + k by omega] at this)⟩
theorem rightFrom_of {p : Prg} : ∀ (n k : Nat), (∀ i, k ≤ i → i < k + n → demandK p i = true) → rightFrom p n k = 0
  | 0, _, _ => rfl
  | n + 1, k, h => by
    unfold rightFrom
    rw [if_pos (h k (Nat.le_refl _) (by omega))]
    exact rightFrom_of n (k + 1) (fun i h1 h2 => h i (by omega) (by omega))
def foldPr (p : Prg) : Prg := ⟨p.name, p.locs, p.init, p.threads.map foldP, p.ask, p.cond⟩
theorem right_fold {p : Prg} (h : rightErr p = 0) : rightErr (foldPr p) = 0 := by
  have V := valid h
  have hf := foldPre_of h
  refine rightFrom_of 6 0 (fun i _ hi => ?_)
  match i, hi with
  | 0, _ => exact right_demand h 0 (by omega)
  | 1, _ => exact right_demand h 1 (by omega)
  | 2, _ =>
    have h2 : threadsShort p = true := right_demand h 2 (by omega)
    show threadsShort (foldPr p) = true
    simp only [threadsShort, foldPr, Bool.and_eq_true, decide_eq_true_eq, List.length_map, List.all_eq_true] at h2 ⊢
    refine ⟨h2.1, fun t ht => ?_⟩
    obtain ⟨u, hu, rfl⟩ := List.mem_map.1 ht
    exact Nat.le_trans (outP_length _ _ _) (h2.2 u hu)
  | 3, _ =>
    show threadsOk (foldPr p) = true
    simp only [threadsOk, foldPr, List.all_eq_true]
    intro t ht
    obtain ⟨u, hu, rfl⟩ := List.mem_map.1 ht
    obtain ⟨hu12, hv⟩ := hf.2.2 u hu
    obtain ⟨j, hj⟩ := List.mem_iff_getElem?.1 hu
    have hok := V.ins j u hj
    simp only [threadOk, Bool.and_eq_true, decide_eq_true_eq]
    refine ⟨Nat.le_trans (outP_length _ _ _) hu12, inses_of (fun k y hy => ?_)⟩
    obtain ⟨q, x, hx, ha, rfl, rfl⟩ := fold_at hy
    rw [Nat.zero_add]
    exact keep_ok hx ha hv (by have := inses_at hok hx; rwa [Nat.zero_add] at this)
  | 4, _ => exact right_demand h 4 (by omega)
  | 5, _ =>
    have h5 : condOk p.threads.length p.locs.length 20 p.cond = true := right_demand h 5 (by omega)
    show condOk (p.threads.map foldP).length p.locs.length 20 p.cond = true
    rw [List.length_map]
    exact h5
  | i + 6, hi => omega
end Go.Proofs.YtmfdpnjgljlkbaaDoor
