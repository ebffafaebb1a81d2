/-
  Plain Lean: the stores of a thread reach memory in their order. Conditions: none.
-/
import Derived.Test.YtjephfjnohgcbaaDoorBfY
set_option linter.unusedSimpArgs false
set_option linter.unusedVariables false
namespace Go.Proofs.YtjephfjnohgcbaaDoor

/-- Beside a state: the stores of thread t not yet in memory; the locations that others write; what t wrote last. -/
structure OrdI (p : Prg) (m : UInt8) (s : By) (t : Nat) (pl : List (UInt8 × UInt8)) (oth : Nat → Bool) (last : By) : Prop where
  r : RightM p m s
  m1 : m ≠ 1
  t4 : t < 4
  q : m ≠ 3 → pl = bufL s t
  per : ∀ k, perL pl k = perL (bufL s t) k
  see : ∀ k : UInt8, k.toNat < 6 → oth k.toNat = false → seenP s t k = last k.toNat ∧ ∀ u, u < 4 → u ≠ t → perL (bufL s u) k = []
def putB (f : Nat → Bool) (j : Nat) : Nat → Bool := fun i => if i = j then true else f i
theorem putB_false {f : Nat → Bool} {j i : Nat} (h : putB f j i = false) : i ≠ j ∧ f i = false := by
  unfold putB at h
  split at h
  · cases h
  · rename_i hne; exact ⟨hne, h⟩
section
variable {p : Prg} {m : UInt8} {s : By} {t u : Nat} {pl : List (UInt8 × UInt8)} {oth : Nat → Bool} {last : By} {l : List Ins} {i : Ins}
theorem seen_same {z : By} (hr : RightM p m s) (hz : RightM p m z) (ht : t < 4) {k : UInt8} (hp : perL (bufL z t) k = perL (bufL s t) k) (hm : z (36 + k.toNat) = s (36 + k.toNat)) : seenP z t k = seenP s t k := by
  rw [seen_per hz ht, seen_per hr ht, hp, hm]
theorem ExecOf.memAt (h : ExecOf p m s t l i) {k : UInt8} (hk : k.toNat < 6) (hc : ¬ writesM m i ∨ i.loc ≠ k) : execP m i s t (36 + k.toNat) = s (36 + k.toNat) := by
  rw [h.mem hk, if_neg]
  rintro ⟨hw, e⟩
  rcases hc with hc | hc
  · exact hc hw
  · exact hc (UInt8.toNat_inj.1 e.symm)
/-- Another thread's instruction that does not write, or any that is neither a store nor writes. -/
theorem OrdI.still (h : OrdI p m s t pl oth last) (hE : ExecOf p m s u l i) (hb : ¬ buffers m i) (hw : ¬ writesM m i) : OrdI p m (execP m i s u) t pl oth last := by
  have hk : ∀ v, v < 4 → bufL (execP m i s u) v = bufL s v := fun v hv => hE.bufKeep hv (.inr hb)
  refine ⟨hE.right, h.m1, h.t4, fun h3 => (h.q h3).trans (hk t h.t4).symm, fun k => (h.per k).trans (by rw [hk t h.t4]), fun k hk6 ho => ?_⟩
  obtain ⟨h1, h2⟩ := h.see k hk6 ho
  refine ⟨(seen_same h.r hE.right h.t4 (by rw [hk t h.t4]) (hE.memAt hk6 (.inl hw))).trans h1, fun v hv hne => ?_⟩
  rw [hk v hv]; exact h2 v hv hne
theorem OrdI.ownStore (h : OrdI p m s t pl oth last) (hE : ExecOf p m s t l i) (hop : i.op = 2) : OrdI p m (execP m i s t) t (pl ++ [(i.loc, valA i (cut s (t * 9)))]) oth (put last i.loc.toNat (valA i (cut s (t * 9)))) := by
  have hb : buffers m i := ⟨hop, h.m1⟩
  refine ⟨hE.right, h.m1, h.t4, fun h3 => ?_, fun k => ?_, fun k hk6 ho => ?_⟩
  · rw [hE.bufAdd hb h3, h.q h3]
  · rw [hE.perAdd hb, perL_append, perL_one, h.per k]
  · obtain ⟨h1, h2⟩ := h.see k hk6 ho
    refine ⟨?_, fun v hv hne => by rw [hE.bufKeep hv (.inl hne)]; exact h2 v hv hne⟩
    rw [hE.seenOwn hb hk6]
    unfold put
    by_cases e : i.loc = k
    · rw [if_pos e, if_pos (by rw [e])]
    · rw [if_neg e, if_neg (fun hh => e (UInt8.toNat_inj.1 hh.symm)), h1]
theorem OrdI.ownSwap (h : OrdI p m s t pl oth last) (hE : ExecOf p m s t l i) (hop : i.op = 4 ∨ i.op = 5 ∨ i.op = 6) : OrdI p m (execP m i s t) t pl oth (put last i.loc.toNat (execP m i s t (36 + i.loc.toNat))) := by
  have hb : ¬ buffers m i := fun hh => by
    have := hh.1
    rcases hop with h | h | h <;> rw [h] at this <;> exact absurd this (by decide)
  have hk : ∀ v, v < 4 → bufL (execP m i s t) v = bufL s v := fun v hv => hE.bufKeep hv (.inr hb)
  have h0 : manyB s t = 0 := by
    have hr := hE.ready
    unfold readyI at hr
    rw [if_pos hop] at hr
    unfold manyB
    rw [eq_of_beq hr]; rfl
  have hnil : ∀ k, perL (bufL s t) k = [] := fun k => by
    have : bufL s t = [] := List.eq_nil_of_length_eq_zero ((buf_len s t).trans h0)
    rw [this]; rfl
  refine ⟨hE.right, h.m1, h.t4, fun h3 => (h.q h3).trans (hk t h.t4).symm, fun k => (h.per k).trans (by rw [hk t h.t4]), fun k hk6 ho => ?_⟩
  obtain ⟨h1, h2⟩ := h.see k hk6 ho
  refine ⟨?_, fun v hv hne => by rw [hk v hv]; exact h2 v hv hne⟩
  unfold put
  by_cases e : k.toNat = i.loc.toNat
  · rw [if_pos e, seen_per hE.right h.t4, hk t h.t4, hnil, ← e]
    rfl
  · rw [if_neg e]
    exact (seen_same h.r hE.right h.t4 (by rw [hk t h.t4]) (hE.memAt hk6 (.inr fun hh => e (by rw [hh])))).trans h1
theorem OrdI.far (h : OrdI p m s t pl oth last) (hE : ExecOf p m s u l i) (hne : u ≠ t) : OrdI p m (execP m i s u) t pl (putB oth i.loc.toNat) last := by
  have hu := hE.t4
  have hk : bufL (execP m i s u) t = bufL s t := hE.bufKeep h.t4 (.inl hne.symm)
  refine ⟨hE.right, h.m1, h.t4, fun h3 => (h.q h3).trans hk.symm, fun k => (h.per k).trans (by rw [hk]), fun k hk6 ho => ?_⟩
  obtain ⟨ho1, ho⟩ := putB_false ho
  obtain ⟨h1, h2⟩ := h.see k hk6 ho
  have hlk : i.loc ≠ k := fun hh => ho1 (by rw [hh])
  refine ⟨(seen_same h.r hE.right h.t4 (by rw [hk]) (hE.memAt hk6 (.inr hlk))).trans h1, fun v hv hvt => ?_⟩
  by_cases hc : v ≠ u ∨ ¬ buffers m i
  · rw [hE.bufKeep hv hc]; exact h2 v hv hvt
  · have e : v = u := Decidable.not_not.1 fun e => hc (.inl e)
    have hb : buffers m i := Decidable.not_not.1 fun e => hc (.inr e)
    subst e
    rw [hE.perAdd hb, if_neg hlk, List.append_nil]
    exact h2 v hv hvt
theorem OrdI.farDrain {a : Nat} (h : OrdI p m s t pl oth last) (hD : DrainOf p m s u a) (hne : u ≠ t) : OrdI p m (drainR s u a) t pl oth last := by
  have hk : bufL (drainR s u a) t = bufL s t := hD.bufKeep h.t4 hne.symm
  refine ⟨hD.right, h.m1, h.t4, fun h3 => (h.q h3).trans hk.symm, fun k => (h.per k).trans (by rw [hk]), fun k hk6 ho => ?_⟩
  obtain ⟨h1, h2⟩ := h.see k hk6 ho
  have hlk : bLoc s u a ≠ k := fun hh => by
    have h3 := h2 u hD.t4 hne
    have h4 := hD.perHere
    rw [hh, h3] at h4; cases h4
  refine ⟨(seen_same h.r hD.right h.t4 (by rw [hk]) ?_).trans h1, fun v hv hvt => ?_⟩
  · rw [drain_mem hD.lt hk6, if_neg (fun hh => hlk (UInt8.toNat_inj.1 hh.symm))]
  · by_cases e : v = u
    · subst e
      rw [hD.perElse hlk]; exact h2 v hv hvt
    · rw [hD.bufKeep hv e]; exact h2 v hv hvt
end
theorem perL_first {pl : List (UInt8 × UInt8)} {k : UInt8} {n : Nat} {x : UInt8 × UInt8} (hx : pl[n]? = some x) (hk : x.1 = k) (hb : ∀ i y, i < n → pl[i]? = some y → y.1 ≠ k) : perL pl k = x :: perL (pl.take n ++ pl.drop (n + 1)) k := by
  have hlt := (List.getElem?_eq_some_iff.1 hx).1
  have h2 := List.take_append_drop n pl
  rw [List.drop_eq_getElem_cons hlt] at h2
  rw [List.getElem?_eq_getElem hlt] at hx
  rw [Option.some.inj hx] at h2
  have h0 : perL (pl.take n) k = [] := perL_none fun i y hy => by
    rcases Nat.lt_or_ge i n with h | h
    · rw [List.getElem?_take_of_lt h] at hy; exact hb i y h hy
    · rw [List.getElem?_eq_none (by rw [List.length_take]; omega)] at hy; cases hy
  conv => lhs; rw [← h2]
  rw [perL_append, perL_append, h0]
  show perL ([x] ++ _) k = _
  rw [perL_append, perL_one, if_pos hk]
  rfl
theorem perL_skip {pl : List (UInt8 × UInt8)} {k : UInt8} {n : Nat} {x : UInt8 × UInt8} (hx : pl[n]? = some x) (hk : x.1 ≠ k) : perL (pl.take n ++ pl.drop (n + 1)) k = perL pl k := by
  have hlt := (List.getElem?_eq_some_iff.1 hx).1
  have h2 := List.take_append_drop n pl
  rw [List.drop_eq_getElem_cons hlt] at h2
  rw [List.getElem?_eq_getElem hlt] at hx
  rw [Option.some.inj hx] at h2
  conv => rhs; rw [← h2]
  rw [perL_append, perL_append]
  show _ = _ ++ perL ([x] ++ _) k
  rw [perL_append, perL_one, if_neg hk]
  rfl
/-- A drain of the thread itself: the first of its stores (to the location), which reaches memory. -/
theorem OrdI.ownDrain {p : Prg} {m : UInt8} {s : By} {t a n : Nat} {pl : List (UInt8 × UInt8)} {oth : Nat → Bool} {last : By} {x : Pss} (h : OrdI p m s t pl oth last) (hD : DrainOf p m s t a) (hxl : m = 3 → bLoc s t a = x.l)
    (hn : n ≤ pl.length) (hlow : ∀ i y, i < n → pl[i]? = some y → m = 3 ∧ y.1 ≠ x.l) (hend : n < pl.length → m ≠ 3 ∨ ∃ y, pl[n]? = some y ∧ y.1 = x.l) :
    ∃ y, pl[n]? = some y ∧ y.1.toNat < 6 ∧ drainR s t a (36 + y.1.toNat) = y.2 ∧ OrdI p m (drainR s t a) t (pl.take n ++ pl.drop (n + 1)) oth last := by
  have ht := h.t4
  have key : pl[n]? = some (bLoc s t a, bVal s t a) ∧ (∀ i y, i < n → pl[i]? = some y → y.1 ≠ bLoc s t a) := by
    by_cases h3 : m = 3
    · have hl := hxl h3
      have hh := hD.perHere
      rw [← h.per] at hh
      have hlt : n < pl.length := by
        apply Decidable.byContradiction
        intro hge
        have hm : (bLoc s t a, bVal s t a) ∈ perL pl (bLoc s t a) := by rw [hh]; simp
        obtain ⟨j, hj⟩ := List.mem_iff_getElem?.1 (List.mem_filter.1 hm).1
        have := (List.getElem?_eq_some_iff.1 hj).1
        exact (hlow j _ (by omega) hj).2 hl
      obtain ⟨y, hy, hyl⟩ := (hend hlt).resolve_left fun hh => hh h3
      have hb : ∀ i y, i < n → pl[i]? = some y → y.1 ≠ bLoc s t a := fun i y hi hy => by rw [hl]; exact (hlow i y hi hy).2
      rw [perL_first hy (hyl.trans hl.symm) hb] at hh
      refine ⟨?_, hb⟩
      rw [hy, (List.cons.inj hh).1]
    · have ha : a = 0 := by
        rcases Nat.eq_zero_or_pos a with e | e
        · exact e
        · exact absurd (hD.fst 0 e).1 h3
      subst ha
      have hq := h.q h3
      have hn0 : n = 0 := by
        rcases Nat.eq_zero_or_pos n with e | e
        · exact e
        · obtain ⟨y, hy⟩ : ∃ y, pl[0]? = some y := ⟨_, List.getElem?_eq_getElem (by omega)⟩
          exact absurd (hlow 0 y e hy).1 h3
      subst hn0
      refine ⟨by rw [hq, buf_get, if_pos hD.lt], fun i y hi => absurd hi (by omega)⟩
  obtain ⟨hx, hb⟩ := key
  refine ⟨_, hx, hD.loc6, by rw [drain_mem hD.lt hD.loc6, if_pos rfl], hD.right, h.m1, ht, fun h3 => ?_, fun k => ?_, fun k hk6 ho => ?_⟩
  · have ha : a = 0 := by
      rcases Nat.eq_zero_or_pos a with e | e
      · exact e
      · exact absurd (hD.fst 0 e).1 h3
    subst ha
    have hn0 : n = 0 := by
      rcases Nat.eq_zero_or_pos n with e | e
      · exact e
      · obtain ⟨y, hy⟩ : ∃ y, pl[0]? = some y := ⟨_, List.getElem?_eq_getElem (by omega)⟩
        exact absurd (hlow 0 y e hy).1 h3
    subst hn0
    rw [hD.bufOwn, h.q h3]
  · by_cases e : bLoc s t a = k
    · subst e
      have h1 := perL_first hx rfl hb
      have h2 := hD.perHere
      rw [h.per, h2] at h1
      exact (List.cons.inj h1).2.symm
    · rw [perL_skip hx e, hD.perElse e]; exact h.per k
  · obtain ⟨h1, h2⟩ := h.see k hk6 ho
    exact ⟨(hD.seen hk6).trans h1, fun v hv hne => by rw [hD.bufKeep hv hne]; exact h2 v hv hne⟩
/-- At the end nothing is left, and memory holds what the thread wrote last. -/
theorem OrdI.over {p : Prg} {m : UInt8} {s : By} {t : Nat} {pl : List (UInt8 × UInt8)} {oth : Nat → Bool} {last : By} (h : OrdI p m s t pl oth last) (he : manyB s t = 0) : pl = [] ∧ ∀ k, k < 6 → oth k = false → s (36 + k) = last k := by
  have hb : bufL s t = [] := List.eq_nil_of_length_eq_zero ((buf_len s t).trans he)
  refine ⟨List.eq_nil_iff_forall_not_mem.2 fun x hx => ?_, fun k hk ho => ?_⟩
  · have h1 := h.per x.1
    rw [hb] at h1
    have h2 : x ∈ perL pl x.1 := List.mem_filter.2 ⟨hx, by simp⟩
    rw [h1] at h2; cases h2
  · have e : (UInt8.ofNat k).toNat = k := by rw [UInt8.toNat_ofNat']; omega
    have h1 := (h.see (UInt8.ofNat k) (by omega) (by rw [e]; exact ho)).1
    rw [seen_mem he, e] at h1
    exact h1
theorem ord_start {p : Prg} {m : UInt8} (hp : rightErr p = 0) (hm : knownM m = true) (m1 : m ≠ 1) {t : Nat} (ht : t < 4) : OrdI p m (startP p) t [] (fun _ => false) (cut (startP p) 36) := by
  obtain ⟨hr, h0⟩ := start_rightM hp hm
  have hb : ∀ u, u < 4 → bufL (startP p) u = [] := fun u hu => List.eq_nil_of_length_eq_zero ((buf_len _ u).trans (h0 u hu))
  refine ⟨hr, m1, ht, fun _ => (hb t ht).symm, fun k => by rw [hb t ht], fun k hk _ => ⟨seen_mem (h0 t ht), fun u hu _ => by rw [hb u hu]; rfl⟩⟩
end Go.Proofs.YtjephfjnohgcbaaDoor
