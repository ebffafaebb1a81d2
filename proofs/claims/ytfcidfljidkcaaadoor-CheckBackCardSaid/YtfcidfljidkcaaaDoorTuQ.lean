/-
  Plain Lean: a valid program renumbered is valid, and renumbered back it is the program. Conditions: none.
-/
import Derived.Test.YtfcidfljidkcaaaDoorTuP
set_option linter.unusedSimpArgs false
set_option linter.unusedVariables false
namespace Go.Proofs.YtfcidfljidkcaaaDoor
set_option maxRecDepth 100000
theorem idxOf_none {x : ByteArray} : ∀ {l : List ByteArray} {k : Nat}, (idxOf x l k).isSome = false ↔ ∀ y ∈ l, x.toList ≠ y.toList
  | [], k => by simp [idxOf]
  | y :: r, k => by
    unfold idxOf
    by_cases h : x.toList = y.toList
    · rw [if_pos (beq_iff_eq.2 h)]
      refine ⟨fun e => Bool.noConfusion e, fun e => absurd h (e y (by simp))⟩
    · rw [if_neg (fun e => h (beq_iff_eq.1 e)), idxOf_none]
      refine ⟨fun e z hz => ?_, fun e z hz => e z (by simp [hz])⟩
      rcases List.mem_cons.1 hz with hz | hz
      · rw [hz]; exact h
      · exact e z hz
/-- Names that may be: each a word, none twice. -/
theorem names_iff {m : List ByteArray} : ∀ {l : List ByteArray} {j : Nat}, m.drop j = l → (namesOk m j l = true ↔ (∀ x ∈ l, nameOk x = true) ∧ ∀ (i : Nat) (x : ByteArray), j ≤ i → m[i]? = some x → ∀ y ∈ m.take i, x.toList ≠ y.toList)
  | [], j, hd => by
    refine ⟨fun _ => ⟨fun x hx => (by cases hx), fun i x hi hx => ?_⟩, fun _ => rfl⟩
    have h1 : m.length ≤ j := List.drop_eq_nil_iff.1 hd
    rw [List.getElem?_eq_none (by omega)] at hx
    cases hx
  | y :: r, j, hd => by
    have hj : m[j]? = some y := by
      have := congrArg (fun q : List ByteArray => q[0]?) hd
      simpa using this
    have hd' : m.drop (j + 1) = r := by
      have := congrArg List.tail hd
      simpa using this
    have ih := names_iff (m := m) hd'
    have e : namesOk m j (y :: r) = ((nameOk y && !(idxOf y (m.take j) 0).isSome) && namesOk m (j + 1) r) := rfl
    rw [e, Bool.and_eq_true, Bool.and_eq_true, ih, Bool.not_eq_true', idxOf_none]
    constructor
    · rintro ⟨⟨h1, h2⟩, h3, h4⟩
      refine ⟨fun x hx => ?_, fun i x hi hx => ?_⟩
      · rcases List.mem_cons.1 hx with hx | hx
        · rw [hx]; exact h1
        · exact h3 x hx
      · rcases Nat.lt_or_ge j i with h | h
        · exact h4 i x h hx
        · obtain rfl : i = j := by omega
          rw [hj] at hx
          obtain rfl := Option.some.inj hx
          exact h2
    · rintro ⟨h1, h4⟩
      exact ⟨⟨h1 y (by simp), h4 j y (Nat.le_refl _) hj⟩, fun x hx => h1 x (by simp [hx]), fun i x hi hx => h4 i x (by omega) hx⟩
theorem names_nodup {m : List ByteArray} : namesOk m 0 m = true ↔ (∀ x ∈ m, nameOk x = true) ∧ ∀ (i k : Nat) (x y : ByteArray), m[i]? = some x → m[k]? = some y → x.toList = y.toList → i = k := by
  rw [names_iff (m := m) (j := 0) (by simp)]
  refine and_congr_right fun _ => ⟨fun h i k x y hi hk e => ?_, fun h i x _ hx y hm e => ?_⟩
  · rcases Nat.lt_trichotomy i k with q | q | q
    · exact absurd e.symm (h k y (Nat.zero_le _) hk x (List.mem_of_getElem? (i := i) (by rw [List.getElem?_take, if_pos q]; exact hi)))
    · exact q
    · exact absurd e (h i x (Nat.zero_le _) hi y (List.mem_of_getElem? (i := k) (by rw [List.getElem?_take, if_pos q]; exact hk)))
  · obtain ⟨k, hk⟩ := List.mem_iff_getElem?.1 hm
    rw [List.getElem?_take] at hk
    split at hk
    · have := h i k x y hx hk e; omega
    · cases hk
theorem prg_ext : ∀ {q p : Prg}, q.name = p.name → q.locs = p.locs → q.init = p.init → q.threads = p.threads → q.ask = p.ask → q.cond = p.cond → q = p
  | ⟨_, _, _, _, _, _⟩, ⟨_, _, _, _, _, _⟩, h1, h2, h3, h4, h5, h6 => by
    simp only at h1 h2 h3 h4 h5 h6
    subst h1 h2 h3 h4 h5 h6
    rfl
section
variable {p : Prg} {T L : List Int} {h : Nat}
theorem locs_at (hL : IsPerm p.locs.length L) {k : Nat} (hk : k < p.locs.length) : (turnPr h p T L).locs[k]? = p.locs[idxZ L k]? := by
  show ((List.range p.locs.length).map _)[k]? = _
  rw [List.getElem?_map, List.getElem?_range hk]
  show some (p.locs.getD (idxZ L k) ByteArray.empty) = _
  rw [List.getD_eq_getElem?_getD, List.getElem?_eq_getElem (idx_at hL hk).2]; rfl
theorem locs_len : (turnPr h p T L).locs.length = p.locs.length := by show ((List.range _).map _).length = _; rw [List.length_map, List.length_range]
theorem init_len : (turnPr h p T L).init.length = p.locs.length := by show ((List.range _).map _).length = _; rw [List.length_map, List.length_range]
theorem thr_lenT : (turnPr h p T L).threads.length = p.threads.length := by show ((List.range _).map _).length = _; rw [List.length_map, List.length_range]
theorem init_at (hi : p.init.length = p.locs.length) (hL : IsPerm p.locs.length L) {k : Nat} (hk : k < p.locs.length) : (turnPr h p T L).init[k]? = p.init[idxZ L k]? := by
  show ((List.range p.locs.length).map _)[k]? = _
  rw [List.getElem?_map, List.getElem?_range hk]
  show some (p.init.getD (idxZ L k) 0) = _
  rw [List.getD_eq_getElem?_getD, List.getElem?_eq_getElem (by rw [hi]; exact (idx_at hL hk).2)]; rfl
theorem thr_atT (hT : IsPerm p.threads.length T) {k : Nat} (hk : k < p.threads.length) : (turnPr h p T L).threads[k]? = (p.threads[idxZ T k]?).map (fun l => l.map (turnI L)) := by
  show ((List.range p.threads.length).map _)[k]? = _
  rw [List.getElem?_map, List.getElem?_range hk]
  show some ((p.threads.getD (idxZ T k) []).map (turnI L)) = _
  rw [List.getD_eq_getElem?_getD, List.getElem?_eq_getElem (idx_at hT hk).2]; rfl
theorem loc_in {locs after : Int} {x : Ins} (hx : insOk x locs after = true) (hb : hasB x.op 2 = true) : (x.loc.toNat : Int) < locs := by
  have h3 : (!hasB x.op 2 || decide ((x.loc.toNat : Int) < locs)) = true := ins_cond hx 3 (by decide)
  rw [hb] at h3
  exact of_decide_eq_true h3
theorem turnI_ok {m : Nat} {after : Int} {x : Ins} (hL : IsPerm m L) (hm : m ≤ 256) (hx : insOk x (m : Int) after = true) : insOk (turnI L x) (m : Int) after = true := by
  have hc := fun k hk => ins_cond hx k hk
  unfold insOk
  rw [List.all_eq_true]
  intro k hk
  rw [List.mem_range] at hk
  match k, hk with
  | 0, _ => exact hc 0 (by decide)
  | 1, _ =>
    have h1 : (x == x.needed) = true := hc 1 (by decide)
    have e := beq_iff_eq.1 h1
    show (turnI L x == (turnI L x).needed) = true
    rw [beq_iff_eq]
    have e2 : (turnI L x).needed = { x.needed with loc := bif hasB x.op 2 then (turnI L x).loc else 0 } := rfl
    rw [e2, ← e]
    unfold turnI
    cases hb : hasB x.op 2 with
    | true => simp only [if_true, cond_true]
    | false =>
      simp only [Bool.false_eq_true, if_false, cond_false]
      have hl : x.loc = x.needed.loc := congrArg Ins.loc e
      have hl2 : x.needed.loc = bif hasB x.op 2 then x.loc else 0 := rfl
      rw [hb] at hl2
      rw [hl2] at hl
      rw [hl]; rfl
  | 2, _ => exact hc 2 (by decide)
  | 3, _ =>
    show (!hasB x.op 2 || decide ((((turnI L x).loc.toNat : Nat) : Int) < (m : Int))) = true
    cases hb : hasB x.op 2 with
    | false => rfl
    | true =>
      have h3 := loc_in hx hb
      have h4 : x.loc.toNat < m := by omega
      have h5 := newN_nat hL hm h4
      have h6 := (pos_at hL h4).1
      have h7 : (turnI L x).loc = newN L x.loc := by unfold turnI; rw [hb]; rfl
      rw [h7, h5]
      simp only [Bool.not_true, Bool.false_or]
      exact decide_eq_true (by omega)
  | 4, _ => exact hc 4 (by decide)
  | 5, _ => exact hc 5 (by decide)
  | 6, _ => exact hc 6 (by decide)
  | 7, _ => exact hc 7 (by decide)
theorem inses_turn {m : Nat} (hL : IsPerm m L) (hm : m ≤ 256) (n : Nat) : ∀ (l : List Ins) (i : Nat), insesOk (m : Int) n i l = true → insesOk (m : Int) n i (l.map (turnI L)) = true
  | [], _, _ => rfl
  | x :: r, i, hx => by
    simp only [insesOk, List.map_cons, Bool.and_eq_true] at hx ⊢
    exact ⟨turnI_ok hL hm hx.1, inses_turn hL hm n r (i + 1) hx.2⟩
theorem right_turn (hv : rightErr p = 0) (hT : IsPerm p.threads.length T) (hL : IsPerm p.locs.length L) : rightErr (turnPr h p T L) = 0 := by
  have V := valid hv
  have h6 := V.locs6
  have h4 := V.thr4
  have key : ∀ i, i < 6 → demandK (turnPr h p T L) i = true := fun i hi => by
    match i, hi with
    | 0, _ => exact right_demand hv 0 (by omega)
    | 1, _ =>
      have h1 : locsOk p = true := right_demand hv 1 (by omega)
      show locsOk (turnPr h p T L) = true
      unfold locsOk at h1 ⊢
      rw [Bool.and_eq_true] at h1 ⊢
      refine ⟨?_, ?_⟩
      · rw [locs_len, init_len]
        have := h1.1
        simp only [Bool.and_eq_true, decide_eq_true_eq, beq_iff_eq] at this ⊢
        exact ⟨this.1, trivial⟩
      · have h2 := names_nodup.1 h1.2
        rw [names_nodup]
        refine ⟨fun x hx => ?_, fun i k x y hi hk he => ?_⟩
        · obtain ⟨k, hk⟩ := List.mem_iff_getElem?.1 hx
          have hkl : k < p.locs.length := by rw [← locs_len (h := h) (T := T) (L := L)]; exact (List.getElem?_eq_some_iff.1 hk).1
          rw [locs_at hL hkl] at hk
          exact h2.1 x (List.mem_of_getElem? hk)
        · have hil : i < p.locs.length := by rw [← locs_len (h := h) (T := T) (L := L)]; exact (List.getElem?_eq_some_iff.1 hi).1
          have hkl : k < p.locs.length := by rw [← locs_len (h := h) (T := T) (L := L)]; exact (List.getElem?_eq_some_iff.1 hk).1
          rw [locs_at hL hil] at hi
          rw [locs_at hL hkl] at hk
          have := h2.2 _ _ x y hi hk he
          rw [← pos_idx hL hil, this, pos_idx hL hkl]
    | 2, _ =>
      have h2 : threadsShort p = true := right_demand hv 2 (by omega)
      show threadsShort (turnPr h p T L) = true
      simp only [threadsShort, Bool.and_eq_true, decide_eq_true_eq, List.all_eq_true] at h2 ⊢
      rw [thr_lenT]
      refine ⟨h2.1, fun t ht => ?_⟩
      obtain ⟨k, hk⟩ := List.mem_iff_getElem?.1 ht
      have hkl : k < p.threads.length := by rw [← thr_lenT (h := h) (T := T) (L := L)]; exact (List.getElem?_eq_some_iff.1 hk).1
      rw [thr_atT hT hkl] at hk
      cases hq : p.threads[idxZ T k]? with
      | none => rw [hq] at hk; cases hk
      | some u =>
        rw [hq] at hk
        obtain rfl := Option.some.inj hk
        rw [List.length_map]
        exact h2.2 u (List.mem_of_getElem? hq)
    | 3, _ =>
      have h3 : threadsOk p = true := right_demand hv 3 (by omega)
      show threadsOk (turnPr h p T L) = true
      simp only [threadsOk, List.all_eq_true] at h3 ⊢
      rw [locs_len]
      intro t ht
      obtain ⟨k, hk⟩ := List.mem_iff_getElem?.1 ht
      have hkl : k < p.threads.length := by rw [← thr_lenT (h := h) (T := T) (L := L)]; exact (List.getElem?_eq_some_iff.1 hk).1
      rw [thr_atT hT hkl] at hk
      cases hq : p.threads[idxZ T k]? with
      | none => rw [hq] at hk; cases hk
      | some u =>
        rw [hq] at hk
        obtain rfl := Option.some.inj hk
        have h4 := h3 u (List.mem_of_getElem? hq)
        simp only [threadOk, Bool.and_eq_true, List.length_map] at h4 ⊢
        exact ⟨h4.1, inses_turn hL (by omega) _ _ _ h4.2⟩
    | 4, _ => exact right_demand hv 4 (by omega)
    | 5, _ =>
      have h5 : condOk p.threads.length p.locs.length 20 p.cond = true := right_demand hv 5 (by omega)
      show condOk (turnPr h p T L).threads.length (turnPr h p T L).locs.length 20 (turnH T L h p.cond) = true
      rw [thr_lenT, locs_len]
      exact condOk_turn hT hL (by omega) (by omega) h 20 _ h5
    | i + 6, hi => omega
  unfold rightErr
  simp [rightFrom, key]
theorem turn_back (hv : rightErr p = 0) (hT : IsPerm p.threads.length T) (hL : IsPerm p.locs.length L) : turnPr h (turnPr h p T L) (backZ p.threads.length T) (backZ p.locs.length L) = p := by
  have V := valid hv
  have h6 := V.locs6
  have h4 := V.thr4
  have hbT := back_perm hT
  have hbL := back_perm hL
  have h5 : condOk p.threads.length p.locs.length 20 p.cond = true := right_demand hv 5 (by omega)
  have e1 : (turnPr h (turnPr h p T L) (backZ p.threads.length T) (backZ p.locs.length L)).locs = p.locs := by
    refine List.ext_getElem? fun k => ?_
    rcases Nat.lt_or_ge k p.locs.length with hk | hk
    · rw [locs_at (by rw [locs_len]; exact hbL) (by rw [locs_len]; exact hk), back_idx hk, locs_at hL (pos_at hL hk).1, idx_pos hL hk]
    · rw [List.getElem?_eq_none (by rw [locs_len, locs_len]; exact hk), List.getElem?_eq_none hk]
  have e2 : (turnPr h (turnPr h p T L) (backZ p.threads.length T) (backZ p.locs.length L)).init = p.init := by
    refine List.ext_getElem? fun k => ?_
    rcases Nat.lt_or_ge k p.locs.length with hk | hk
    · rw [init_at (by rw [init_len, locs_len]) (by rw [locs_len]; exact hbL) (by rw [locs_len]; exact hk), back_idx hk, init_at V.init hL (pos_at hL hk).1, idx_pos hL hk]
    · rw [List.getElem?_eq_none (by rw [init_len, locs_len]; exact hk), List.getElem?_eq_none (by rw [V.init]; exact hk)]
  have e3 : (turnPr h (turnPr h p T L) (backZ p.threads.length T) (backZ p.locs.length L)).threads = p.threads := by
    refine List.ext_getElem? fun k => ?_
    rcases Nat.lt_or_ge k p.threads.length with hk | hk
    · rw [thr_atT (by rw [thr_lenT]; exact hbT) (by rw [thr_lenT]; exact hk), back_idx hk, thr_atT hT (pos_at hT hk).1, idx_pos hT hk]
      cases hq : p.threads[k]? with
      | none => rfl
      | some l =>
        show some ((l.map (turnI L)).map (turnI (backZ p.locs.length L))) = some l
        rw [List.map_map]
        refine congrArg some ((List.map_congr_left (g := id) fun x hx => ?_).trans (List.map_id _))
        obtain ⟨j, hj⟩ := List.mem_iff_getElem?.1 hx
        have hi := inses_at (V.ins k l hq) hj
        exact turnI_back hL (by omega) fun hb => by have := loc_in hi hb; omega
    · rw [List.getElem?_eq_none (by rw [thr_lenT, thr_lenT]; exact hk), List.getElem?_eq_none hk]
  have e4 : (turnPr h (turnPr h p T L) (backZ p.threads.length T) (backZ p.locs.length L)).cond = p.cond := turnH_back hT hL (by omega) (by omega) h 20 p.cond h5
  exact prg_ext rfl e1 e2 e3 rfl e4
end
end Go.Proofs.YtfcidfljidkcaaaDoor
