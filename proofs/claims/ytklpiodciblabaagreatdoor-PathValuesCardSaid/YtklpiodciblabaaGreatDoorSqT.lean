/-
  WALK2. The law PathValues. Conditions: the program lies in memory; the tables.
-/
import Derived.Test.YtklpiodciblabaaGreatDoorSqR
set_option linter.unusedSimpArgs false
set_option linter.unusedVariables false
namespace Go.Proofs.YtklpiodciblabaaGreatDoor
open Go.RowKit
set_option maxRecDepth 100000
/-! ### Counts -/
def mCells (M : Nat → Nat) : List Value := (List.range 256).map fun v => .int .i64 (M v : Int)
theorem mc_at {M : Nat → Nat} {k : Nat} (h : k < 256) : (mCells M)[k]? = some (.int .i64 (M k : Int)) := by
  unfold mCells; rw [List.getElem?_map, List.getElem?_range h]; rfl
theorem mc_set {M : Nat → Nat} {k n : Nat} (h : k < 256) : (mCells M).set k (.int .i64 (n : Int)) = mCells (putN M k n) := by
  refine List.ext_getElem? fun i => ?_
  rcases Nat.lt_or_ge i 256 with hi | hi
  · rw [List.getElem?_set, mc_at hi]
    by_cases he : k = i
    · subst he
      rw [if_pos rfl, if_pos (by simp [mCells, h]), mc_at hi]
      unfold putN; rw [if_pos rfl]
    · rw [if_neg he, mc_at hi]
      unfold putN; rw [if_neg (fun e => he e.symm)]
  · rw [List.getElem?_eq_none (by simp [mCells]; omega), List.getElem?_eq_none (by simp [mCells]; omega)]
theorem mc_zero : List.replicate 256 (Value.int .i64 0) = mCells fun _ => 0 := by kernel_rfl
theorem put_pos {M : Nat → Nat} {k v : Nat} {W : Nat → Prop} (h : 0 < M v ↔ W v) : 0 < putN M k (M k + 1) v ↔ W v ∨ v = k := by
  unfold putN
  by_cases hv : v = k
  · rw [if_pos hv]; exact ⟨fun _ => .inr hv, fun _ => Nat.succ_pos _⟩
  · rw [if_neg hv, h]; exact ⟨.inl, fun h => h.resolve_right hv⟩
theorem put_le {M : Nat → Nat} {k b : Nat} (h : ∀ v, M v ≤ b) : ∀ v, putN M k (M k + 1) v ≤ b + 1 := fun v => by
  unfold putN; split
  · have := h k; omega
  · have := h v; omega
/-! ### The values -/
theorem goV_pos {p : Prg} {most : Int} : ∀ (f : Nat) (vals : List UInt8), goV p most f vals = ([], 5) ∨ ∃ g vals', goV p most f vals = (vals', 0) ∧ goV p most (g + 1) vals' = (vals', 0) ∧ ∃ nx, vStep p vals' = some nx ∧ nx.length = vals'.length := by
  intro f
  induction f with
  | zero => intro vals; exact .inl rfl
  | succ f ih =>
    intro vals
    by_cases h : most < (vals.length : Int)
    · exact .inl (goV_many h)
    · cases hs : vStep p vals with
      | none => exact .inl (goV_none hs)
      | some nx =>
        by_cases hl : nx.length = vals.length
        · exact .inr ⟨f, vals, goV_end h hs hl, goV_end h hs hl, nx, hs, hl⟩
        · rw [goV_on h hs hl]; exact ih nx
structure ValsOf (p : Prg) (dom : List UInt8) : Prop where
  dist : distL dom = dom
  few : ∀ l ∈ p.threads, (endsL l dom).length ≤ 4096
  mem : ∀ v : Nat, v < 256 → (UInt8.ofNat v ∈ dom ↔ (∃ u ∈ p.init, u.toNat = v) ∨ ∃ l ∈ p.threads, wroteL (endsL l dom) v = true)
theorem byW_mem {W : Nat → Bool} {x : UInt8} : x ∈ byW 256 W ↔ W x.toNat = true := by
  unfold byW
  rw [List.mem_map]
  constructor
  · rintro ⟨v, hv, rfl⟩
    obtain ⟨h1, h2⟩ := List.mem_filter.1 hv
    have := List.mem_range.1 h1
    have e : (UInt8.ofNat v).toNat = v := by simp; omega
    rw [e]; exact h2
  · intro h
    exact ⟨x.toNat, List.mem_filter.2 ⟨List.mem_range.2 (UInt8.toNat_lt x), h⟩, by simp⟩
theorem wrote_mono {l : List Ins} {a b : List UInt8} (h : ∀ x ∈ a, x ∈ b) {v : Nat} (hw : wroteL (endsL l a) v = true) : wroteL (endsL l b) v = true := by
  unfold wroteL at hw ⊢
  rw [List.any_eq_true] at hw ⊢
  obtain ⟨z, hz, hv⟩ := hw
  obtain ⟨vs, h1, h2⟩ := mem_ends.1 hz
  exact ⟨z, mem_ends.2 ⟨vs, fun x hx => h x (h1 x hx), h2⟩, hv⟩
def Born (p : Prg) (vals : List UInt8) (dom : List UInt8) : Prop := ∀ x ∈ vals, x ∈ p.init ∨ ∃ l ∈ p.threads, wroteL (endsL l dom) x.toNat = true
theorem vstep_eq {p : Prg} {vals nx : List UInt8} (h : vStep p vals = some nx) : (∀ l ∈ p.threads, (writesR l vals).2 = true) ∧ nx = distL (vals ++ p.threads.flatMap fun l => (writesR l vals).1) := by
  unfold vStep at h
  split at h
  · rename_i hq
    exact ⟨List.all_eq_true.1 hq, (Option.some.inj h).symm⟩
  · cases h
theorem writes_in {l : List Ins} {vals : List UInt8} (h : (writesR l vals).2 = true) : (endsL l vals).length ≤ 4096 ∧ (writesR l vals).1 = byW 256 (wroteL (endsL l vals)) := by
  unfold writesR at h ⊢
  split at h
  · cases h
  · rename_i hq; rw [if_neg hq]; exact ⟨by omega, rfl⟩
theorem goV_chain {p : Prg} {most : Int} {dom : List UInt8} : ∀ (f : Nat) (vals : List UInt8), distL vals = vals → goV p most f vals = (dom, 0) → (∀ x ∈ vals, x ∈ dom) ∧ distL dom = dom ∧ (Born p vals dom → Born p dom dom) ∧ ∃ nx, vStep p dom = some nx ∧ nx.length = dom.length := by
  intro f
  induction f with
  | zero => intro vals _ h; cases (Prod.mk.inj h).2
  | succ f ih =>
    intro vals hd h
    by_cases hm : most < (vals.length : Int)
    · rw [goV_many hm] at h; cases (Prod.mk.inj h).2
    · cases hs : vStep p vals with
      | none => rw [goV_none hs] at h; cases (Prod.mk.inj h).2
      | some nx =>
        by_cases hl : nx.length = vals.length
        · rw [goV_end hm hs hl] at h
          obtain rfl := (Prod.mk.inj h).1
          exact ⟨fun x hx => hx, hd, id, nx, hs, hl⟩
        · rw [goV_on hm hs hl] at h
          obtain ⟨h1, h2⟩ := vstep_eq hs
          obtain ⟨i1, i2, i3, i4⟩ := ih nx (by rw [h2]; exact dist_dist _) h
          have hsub : ∀ x ∈ vals, x ∈ dom := fun x hx => i1 x (by rw [h2]; exact (dist_mem _ x).2 (List.mem_append_left _ hx))
          refine ⟨hsub, i2, fun hb => i3 (fun x hx => ?_), i4⟩
          rw [h2] at hx
          rcases List.mem_append.1 ((dist_mem _ x).1 hx) with hx | hx
          · exact hb x hx
          · obtain ⟨l, hl1, hl2⟩ := List.mem_flatMap.1 hx
            rw [(writes_in (h1 l hl1)).2] at hl2
            exact .inr ⟨l, hl1, wrote_mono hsub (byW_mem.1 hl2)⟩
theorem dist_same {a b : List UInt8} (ha : distL a = a) (h : ∀ x ∈ a, x ∈ b) (hl : (distL b).length = a.length) : ∀ x ∈ b, x ∈ a := by
  have hs : (distL a).Sublist (distL b) := by
    unfold distL
    have : ∀ R : List UInt8, (R.filter fun v => a.contains v).Sublist (R.filter fun v => b.contains v) := fun R => by
      have e : (R.filter fun v => a.contains v) = (R.filter fun v => b.contains v).filter fun v => a.contains v := by
        rw [List.filter_filter]
        refine List.filter_congr fun x _ => ?_
        cases hx : a.contains x with
        | false => rfl
        | true =>
          have : b.contains x = true := List.contains_iff_mem.2 (h x (List.contains_iff_mem.1 hx))
          rw [this]; rfl
      rw [e]
      exact List.filter_sublist
    exact this _
  have e : distL a = distL b := hs.eq_of_length (by rw [ha]; exact hl.symm)
  intro x hx
  rw [← ha, e]
  exact (dist_mem b x).2 hx
theorem vals_of {p : Prg} {most : Int} {dom : List UInt8} (hr : rightErr p = 0) (h : valuesR p most = (dom, 0)) : ValsOf p dom := by
  have hb : ¬ (most < 0 ∨ 16 < most ∨ rightErr p ≠ 0) := fun hb => by rw [values_bad hb] at h; cases (Prod.mk.inj h).2
  have h0 : ¬ most < 0 := fun q => hb (.inl q)
  have h1 : ¬ 16 < most := fun q => hb (.inr (.inl q))
  rw [values_ok h0 h1 hr] at h
  obtain ⟨c1, c2, c3, nx, c4, c5⟩ := goV_chain 18 _ (dist_dist _) h
  obtain ⟨e1, e2⟩ := vstep_eq c4
  have hback := dist_same (b := dom ++ p.threads.flatMap fun l => (writesR l dom).1) c2 (fun x hx => List.mem_append_left _ hx) (by rw [← e2]; exact c5)
  have hborn := c3 (fun x hx => .inl ((dist_mem _ x).1 hx))
  refine ⟨c2, fun l hl => (writes_in (e1 l hl)).1, fun v hv => ⟨fun hm => ?_, fun hm => ?_⟩⟩
  · have e : (UInt8.ofNat v).toNat = v := by simp; omega
    rcases hborn _ hm with h | ⟨l, h1, h2⟩
    · exact .inl ⟨_, h, e⟩
    · rw [e] at h2; exact .inr ⟨l, h1, h2⟩
  · rcases hm with ⟨u, hu, rfl⟩ | ⟨l, hl, hw⟩
    · have : UInt8.ofNat u.toNat = u := by simp
      rw [this]
      exact c1 u ((dist_mem _ u).2 hu)
    · refine hback _ (List.mem_append_right _ (List.mem_flatMap.2 ⟨l, hl, ?_⟩))
      rw [(writes_in (e1 l hl)).2, byW_mem]
      have e : (UInt8.ofNat v).toNat = v := by simp; omega
      rw [e]; exact hw
theorem vals_err {p : Prg} {most : Int} (h0 : ¬ most < 0) (h1 : ¬ 16 < most) (hr : rightErr p = 0) (he : (valuesR p most).2 ≠ 0) : valuesR p most = ([], 5) := by
  rw [values_ok h0 h1 hr] at he ⊢
  rcases goV_pos 18 (distL p.init) with h | ⟨g, vals, h, _⟩
  · exact h
  · rw [h] at he; exact absurd rfl he
theorem told_len {dom : List UInt8} (hd : distL dom = dom) {M : Nat → Nat} (hM : ∀ v, v < 256 → (0 < M v ↔ UInt8.ofNat v ∈ dom)) : ((List.range 256).filter fun v => decide (0 < M v)).length = dom.length := by
  have e : (distL dom).length = ((List.range 256).filter fun v => decide (0 < M v)).length := by
    unfold distL
    rw [List.filter_map, List.length_map]
    congr 1
    refine List.filter_congr fun v hv => ?_
    have hv := List.mem_range.1 hv
    by_cases h : UInt8.ofNat v ∈ dom
    · rw [decide_eq_true ((hM v hv).2 h)]; exact List.contains_iff_mem.2 h
    · rw [decide_eq_false (fun q => h ((hM v hv).1 q))]
      exact Bool.eq_false_iff.2 (fun q => h (List.contains_iff_mem.1 q))
  rw [← e, hd]
theorem ev_of {z : RunP} {e : Nat} {x : Ev} (h : (evsP z)[e]? = some x) : e < z.many ∧ x = z.ev e := by
  unfold evsP at h
  rw [List.getElem?_map] at h
  obtain ⟨k, hk, rfl⟩ := Option.map_eq_some_iff.1 h
  obtain ⟨h1, h2⟩ := List.getElem?_eq_some_iff.1 hk
  rw [List.length_range] at h1;rw [List.getElem_range] at h2;subst h2
  exact ⟨h1, rfl⟩
theorem wroteL_take {zs : List RunP} {i : Nat} {z : RunP} (h : zs[i]? = some z) (v : Nat) : wroteL (zs.take (i + 1)) v = (wroteL (zs.take i) v || wrote z z.many v) := by
  rw [List.take_add_one, h]; exact wroteL_snoc _ _ _
end Go.Proofs.YtklpiodciblabaaGreatDoor
