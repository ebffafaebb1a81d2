/-
  Plain Lean: a run of a fenced program with store buffers beside a run without them. Conditions: none.
-/
import Derived.Test.YtbgnapmaimkpkaaGreatDoorBfM
import Derived.Test.YtbgnapmaimkpkaaGreatDoorBfK
set_option linter.unusedSimpArgs false
set_option linter.unusedVariables false
namespace Go.Proofs.YtbgnapmaimkpkaaGreatDoor

theorem exec_still {p : Prg} {m : UInt8} {s : By} {t : Nat} {l : List Ins} {x : Ins} (h : ExecOf p m s t l x) (hm : manyB s t = 0) (hb : ¬ buffers m x) (i : Nat) : execP m x s t i = moveP x s t i := by
  rw [h.val, moveP_at]
  by_cases hi : t * 9 ≤ i ∧ i < t * 9 + 9
  · rw [if_pos hi, if_pos hi]
    unfold execT thrP
    by_cases h1 : x.op = 1
    · rw [if_pos h1, seen_mem hm, if_neg (by simp [isLocal, h1])]
    · rw [if_neg h1]
      by_cases h2 : x.op = 2
      · rw [if_pos h2, if_neg (by simp [isLocal, h2])]
        unfold farP
        rw [if_pos h2]
        rfl
      · rw [if_neg h2]
        by_cases h4 : x.op = 4 ∨ x.op = 5 ∨ x.op = 6
        · rw [if_pos h4, if_neg (by rcases h4 with h | h | h <;> simp [isLocal, h])]
        · rw [if_neg h4, if_pos]
          rcases h.op with h | h | h | h | h | h | h | h
          · exact absurd h h1
          · exact absurd h h2
          · simp [isLocal, h]
          · exact absurd (.inl h) h4
          · exact absurd (.inr (.inl h)) h4
          · exact absurd (.inr (.inr h)) h4
          · simp [isLocal, h]
          · simp [isLocal, h]
  · rw [if_neg hi, if_neg hi, if_neg hb]
    by_cases hw : writesM m x
    · have hL := h.notLocal (.inl hw)
      by_cases e : i = 36 + x.loc.toNat
      · rw [if_pos ⟨hw, e⟩, if_pos ⟨hL, e⟩]
      · rw [if_neg (fun hh => e hh.2), if_neg (fun hh => e hh.2)]
    · rw [if_neg (fun hh => hw hh.1)]
      by_cases e : isLocal x = false ∧ i = 36 + x.loc.toNat
      · rw [if_pos e]
        have h1 : x.op = 1 := by
          rcases h.op with h | h | h | h | h | h | h | h
          · exact h
          · by_cases h3 : m = 1
            · exact absurd (.inl ⟨h, h3⟩) hw
            · exact absurd ⟨h, h3⟩ hb
          · simp [isLocal, h] at e
          · exact absurd (.inr (.inl h)) hw
          · exact absurd (.inr (.inr (.inl h))) hw
          · exact absurd (.inr (.inr (.inr h))) hw
          · simp [isLocal, h] at e
          · simp [isLocal, h] at e
        rw [hasP_loadM h1, e.2]
      · rw [if_neg e]
theorem exec_add {p : Prg} {m : UInt8} {s : By} {t : Nat} {l : List Ins} {x : Ins} (h : ExecOf p m s t l x) (hm0 : manyB s t = 0) (hb : buffers m x) :
    manyB (execP m x s t) t = 1 ∧ bLoc (execP m x s t) t 0 = x.loc ∧ bVal (execP m x s t) t 0 = valA x (cut s (t * 9)) := by
  have ht := h.t4
  have ha0 : addAt m s t x.loc (manyB s t) = 0 := by rw [hm0]; rfl
  obtain ⟨h1, h2⟩ := h.adds hb t
  refine ⟨?_, ?_, ?_⟩
  · rw [h1]
    have := add_many (st := stP x.loc (valA x (cut s (t * 9)))) (addAt_le (m := m) (s := s) (t := t) (loc := x.loc) (manyB s t)) h.room
    exact this.trans (by rw [hm0])
  · rw [(h2 0).1]
    unfold addP
    rw [add_loc (addAt_le _) h.room ht (by omega), if_pos (by rw [show stP x.loc (valA x (cut s (t * 9))) 0 = x.loc from rfl, ha0])]
    rfl
  · rw [(h2 0).2]
    unfold addP
    rw [add_val (addAt_le _) h.room ht (by omega), if_pos (by rw [show stP x.loc (valA x (cut s (t * 9))) 0 = x.loc from rfl, ha0])]
    rfl
theorem moveP_rel {x : Ins} {s z : By} {t : Nat} (ht : ∀ k, k < 9 → s (t * 9 + k) = z (t * 9 + k)) (hl : isLocal x = false → s (36 + x.loc.toNat) = z (36 + x.loc.toNat)) (i : Nat) (hi : s i = z i) : moveP x s t i = moveP x z t i := by
  have hc : ∀ k, k < 9 → cut s (t * 9) k = cut z (t * 9) k := ht
  rw [moveP_at, moveP_at]
  by_cases h1 : t * 9 ≤ i ∧ i < t * 9 + 9
  · rw [if_pos h1, if_pos h1]
    cases hL : isLocal x with
    | true => rw [thrP_local hL _ (s (36 + x.loc.toNat)) (z (36 + x.loc.toNat))]; exact thrP_congr hc _ (by omega)
    | false => rw [hl hL]; exact thrP_congr hc _ (by omega)
  · rw [if_neg h1, if_neg h1]
    by_cases h2 : isLocal x = false ∧ i = 36 + x.loc.toNat
    · rw [if_pos h2, if_pos h2, hl h2.1, hasP_congr hc]
    · rw [if_neg h2, if_neg h2]; exact hi
def FencedP (q : Prg) : Prop := ∀ (t : Nat) (l : List Ins) (k : Nat) (x : Ins), q.threads[t]? = some l → l[k]? = some x → x.op = 2 → ∃ y, l[k + 1]? = some y ∧ y.op = 7 ∧ y.mode = 3
structure HeldT (q : Prg) (s z : By) (t : Nat) : Prop where
  many : manyB s t = 1
  ex : ∃ l x, q.threads[t]? = some l ∧ l[pcP z t]? = some x ∧ x.op = 2 ∧ bLoc s t 0 = x.loc ∧ bVal s t 0 = valA x (cut z (t * 9))
  pc : s (t * 9) = z (t * 9) + 1
  regs : ∀ k, 1 ≤ k → k < 9 → s (t * 9 + k) = z (t * 9 + k)
def SideT (q : Prg) (s z : By) (t : Nat) : Prop := (manyB s t = 0 ∧ ∀ k, k < 9 → s (t * 9 + k) = z (t * 9 + k)) ∨ HeldT q s z t
structure SimF (q : Prg) (m : UInt8) (s z : By) : Prop where
  r : RightM q m s
  rz : rightS q z = true
  mem : ∀ k, k < 6 → s (36 + k) = z (36 + k)
  thr : ∀ t, t < 4 → SideT q s z t
theorem SideT.keep {q : Prg} {s z s' z' : By} {u : Nat} (h : SideT q s z u) (hm : manyB s' u = manyB s u) (hb : ∀ i, i < 12 → bLoc s' u i = bLoc s u i ∧ bVal s' u i = bVal s u i) (hs : ∀ k, k < 9 → s' (u * 9 + k) = s (u * 9 + k)) (hz : ∀ k, k < 9 → z' (u * 9 + k) = z (u * 9 + k)) : SideT q s' z' u := by
  rcases h with ⟨h1, h2⟩ | h
  · exact .inl ⟨hm.trans h1, fun k hk => by rw [hs k hk, hz k hk, h2 k hk]⟩
  · obtain ⟨l, x, e1, e2, e3, e4, e5⟩ := h.ex
    have hp : z' (u * 9) = z (u * 9) := hz 0 (by omega)
    have hp2 : s' (u * 9) = s (u * 9) := hs 0 (by omega)
    refine .inr ⟨hm.trans h.many, ⟨l, x, e1, by unfold pcP; rw [hp]; exact e2, e3, (hb 0 (by omega)).1.trans e4, (hb 0 (by omega)).2.trans (e5.trans (valA_congr fun k hk => (hz k hk).symm))⟩, by rw [hp, hp2]; exact h.pc, fun k h1 h2 => by rw [hs k h2, hz k h2]; exact h.regs k h1 h2⟩
theorem storeP_next {p : Prg} {s : By} {t : Nat} {x : Ins} (h : nextI p s t = some x) : storeP p s t = (x.op == 2) := by unfold storeP; rw [h]
theorem enabled_mem {p : Prg} {s : By} {t : Nat} {l : List Ins} {x : Ins} (hl : p.threads[t]? = some l) (hx : l[pcP s t]? = some x) : t ∈ enabledP p s := by
  refine List.mem_filter.2 ⟨List.mem_range.2 (List.getElem?_eq_some_iff.1 hl).1, ?_⟩
  unfold mayP
  rw [hl]
  exact decide_eq_true (List.getElem?_eq_some_iff.1 hx).1
theorem sim_step {q : Prg} {m : UInt8} {s z : By} {x : Pss} (hF : FencedP q) (hm : m ≠ 1) (h : SimF q m s z) (hx : x ∈ movesM q m s) :
    ((storeP q s x.t.toNat && !x.d) = true ∧ SimF q m (stepM q m s x) z) ∨ ((storeP q s x.t.toNat && !x.d) = false ∧ x.t.toNat ∈ enabledP q z ∧ SimF q m (stepM q m s x) (stepP q z x.t.toNat)) := by
  have hw := went h.r hx
  have hp := h.r.prog
  generalize stepM q m s x = s' at hw
  cases hw with
  | @exec t l i hE hn =>
    have hto := ofNat_to hE.t4
    show ((storeP q s (UInt8.ofNat t).toNat && !false) = true ∧ _) ∨ ((storeP q s (UInt8.ofNat t).toNat && !false) = false ∧ (UInt8.ofNat t).toNat ∈ enabledP q z ∧ SimF q m (execP m i s t) (stepP q z (UInt8.ofNat t).toNat))
    rw [hto, storeP_next hn, Bool.not_false, Bool.and_true]
    have hen : enabledM q m s t = true := by unfold enabledM; rw [hn]; exact hE.ready
    rcases h.thr t hE.t4 with ⟨hm0, hk⟩ | hH
    · have hpc : s (t * 9) = z (t * 9) := hk 0 (by omega)
      by_cases hop : i.op = 2
      · have hb : buffers m i := ⟨hop, hm⟩
        obtain ⟨a1, a2, a3⟩ := exec_add hE hm0 hb
        refine .inl ⟨by rw [hop]; rfl, hE.right, h.rz, fun k hk6 => ?_, fun u hu => ?_⟩
        · rw [hE.mem hk6, if_neg (fun hh => not_writes hb hh.1)]; exact h.mem k hk6
        · by_cases e : u = t
          · subst e
            have hown : ∀ k, k < 9 → execP m i s u (u * 9 + k) = if k = 0 then s (u * 9) + 1 else s (u * 9 + k) := fun k hk9 => by
              rw [hE.own hk9]
              unfold execT
              rw [if_neg (by rw [hop]; decide), if_pos hop]
              unfold put
              rfl
            refine .inr ⟨a1, ⟨l, i, hE.hl, ?_, hop, a2, a3.trans (valA_congr hk)⟩, ?_, fun k h1 h2 => ?_⟩
            · have := hE.hx
              unfold pcP at this ⊢
              rw [← hpc]; exact this
            · have := hown 0 (by omega)
              rw [if_pos rfl] at this
              rw [← hpc]; exact this
            · rw [hown k h2, if_neg (by omega)]; exact hk k h2
          · obtain ⟨b1, b2⟩ := hE.far hu e
            exact (h.thr u hu).keep b1 b2 (fun k hk9 => hE.other hu e hk9) (fun _ _ => rfl)
      · have hb : ¬ buffers m i := fun hh => hop hh.1
        have hxz : l[pcP z t]? = some i := by
          have := hE.hx
          unfold pcP at this ⊢
          rw [← hpc]; exact this
        have hez := enabled_mem hE.hl hxz
        have eS : stepP q z t = moveP i z t := stepP_at hE.hl hxz
        obtain ⟨l2, i2, hst⟩ := stepOf hp hez
        have hst2 := hst
        have hl6 : isLocal i = false → s (36 + i.loc.toNat) = z (36 + i.loc.toNat) := fun hL => h.mem _ (hE.loc6 hL)
        refine .inr ⟨by rw [beq_eq_false_iff_ne]; exact hop, hez, hE.right, hst.right h.rz, fun k hk6 => ?_, fun u hu => ?_⟩
        · rw [exec_still hE hm0 hb, eS]
          exact moveP_rel hk hl6 _ (h.mem k hk6)
        · obtain ⟨c1, c2⟩ := hE.still hb u
          by_cases e : u = t
          · subst e
            refine .inl ⟨c1.trans hm0, fun k hk9 => ?_⟩
            rw [exec_still hE hm0 hb, eS]
            exact moveP_rel hk hl6 _ (hk k hk9)
          · exact (h.thr u hu).keep c1 (fun i _ => c2 i) (fun k hk9 => hE.other hu e hk9) (fun k hk9 => hst.far e hk9 hu)
    · obtain ⟨l', x', e1, e2, e3, _, _⟩ := hH.ex
      rw [hE.hl] at e1; cases e1
      obtain ⟨y, f1, f2, f3⟩ := hF t l (pcP z t) x' hE.hl e2 e3
      have hpl := (List.getElem?_eq_some_iff.1 e2).1
      have hl12 := hE.l12
      have hpc : pcP s t = pcP z t + 1 := by
        unfold pcP at hpl ⊢
        rw [hH.pc, UInt8.toNat_add, show (1 : UInt8).toNat = 1 from rfl]
        omega
      have hix := hE.hx
      rw [hpc, f1] at hix; cases hix
      exact absurd ⟨f2, f3⟩ (enabled_wait hE.hl hE.hx hen (by rw [hH.many]; omega)).2
  | @drain t i hD hi he =>
    generalize drainI m s t (drainAt m s t i).l = a at hD he
    have hto := ofNat_to hD.t4
    show ((storeP q s (UInt8.ofNat t).toNat && !true) = true ∧ _) ∨ ((storeP q s (UInt8.ofNat t).toNat && !true) = false ∧ (UInt8.ofNat t).toNat ∈ enabledP q z ∧ SimF q m (drainR s t a) (stepP q z (UInt8.ofNat t).toNat))
    rw [hto, Bool.not_true, Bool.and_false]
    rcases h.thr t hD.t4 with ⟨hm0, _⟩ | hH
    · omega
    · obtain ⟨l, y, e1, e2, e3, e4, e5⟩ := hH.ex
      have ha : a = 0 := by have := hD.lt; rw [hH.many] at this; omega
      subst ha
      have hez := enabled_mem e1 e2
      have eS : stepP q z t = moveP y z t := stepP_at e1 e2
      obtain ⟨l2, i2, hst⟩ := stepOf hp hez
      have hL : isLocal y = false := by simp [isLocal, e3]
      have ht4 := hD.t4
      refine .inr ⟨rfl, hez, hD.right, hst.right h.rz, fun k hk6 => ?_, fun u hu => ?_⟩
      · rw [drain_mem hD.lt hk6, e4, e5, eS, moveP_at, if_neg (show ¬ (t * 9 ≤ 36 + k ∧ 36 + k < t * 9 + 9) by omega)]
        by_cases ek : k = y.loc.toNat
        · rw [if_pos ek, if_pos ⟨hL, by rw [ek]⟩]
          unfold hasP
          rw [if_pos (.inl e3)]
        · rw [if_neg ek, if_neg (fun hh => ek (by omega))]
          exact h.mem k hk6
      · by_cases e : u = t
        · subst e
          refine .inl ⟨by rw [drain_many hD.lt hD.loc6, hH.many], fun k hk9 => ?_⟩
          rw [hD.low (by omega), eS, moveP_at, if_pos (by omega), show u * 9 + k - u * 9 = k by omega]
          unfold thrP
          rw [if_neg (by rw [hL]; simp)]
          unfold farP
          rw [if_pos e3]
          unfold put
          by_cases k0 : k = 0
          · subst k0; rw [if_pos rfl]; exact hH.pc
          · rw [if_neg k0]; exact hH.regs k (by omega) hk9
        · obtain ⟨b1, b2⟩ := drain_far hD.lt hD.loc6 hD.n12 hD.t4 hu e
          exact (h.thr u hu).keep b1 b2 (fun k hk9 => hD.low (by omega)) (fun k hk9 => hst.far e hk9 hu)
theorem sim_start {q : Prg} {m : UInt8} (hp : rightErr q = 0) (hm : knownM m = true) : SimF q m (startP q) (startP q) := by
  obtain ⟨hr, h0⟩ := start_rightM hp hm
  exact ⟨hr, start_right hp, fun _ _ => rfl, fun t ht => .inl ⟨h0 t ht, fun _ _ => rfl⟩⟩
theorem sim_end {q : Prg} {m : UInt8} {s z : By} (h : SimF q m s z) (he : movesM q m s = []) : enabledP q z = [] ∧ same 38 (finalP z) (finalP s) = true := by
  obtain ⟨h1, h2⟩ := over_of h.r he
  have ht : ∀ t, t < 4 → ∀ k, k < 9 → s (t * 9 + k) = z (t * 9 + k) := fun t ht => by
    rcases h.thr t ht with ⟨_, hk⟩ | hH
    · exact hk
    · have := hH.many; rw [h1 t ht] at this; cases this
  have hV4 := (valid h.r.prog).thr4
  refine ⟨?_, same_iff.2 fun i hi => ?_⟩
  · refine List.filter_eq_nil_iff.2 fun t htm => ?_
    have htl := List.mem_range.1 htm
    obtain ⟨l, hl⟩ : ∃ l, q.threads[t]? = some l := ⟨_, List.getElem?_eq_getElem htl⟩
    have := h2 t l htl hl
    have h0 := ht t (by omega) 0 (by omega)
    unfold mayP
    rw [hl]
    unfold pcP at this
    rw [Nat.add_zero] at h0
    rw [h0] at this
    simp [this]
  · unfold finalP
    split
    · have := ht (i / 8) (by omega) (1 + i % 8) (by omega)
      rw [show i / 8 * 9 + 1 + i % 8 = i / 8 * 9 + (1 + i % 8) by omega]
      exact this.symm
    · exact (h.mem (i - 32) (by omega)).symm
def fenceI : Ins := ⟨7, 0, 0, false, 0, false, 0, 0, 3, 0⟩
def fence1 (x : Ins) : List Ins := if x.op = 8 then [] else if x.op = 2 then [x, fenceI] else [x]
def fenceL (l : List Ins) : List Ins := l.flatMap fence1
theorem fenceL_succ {l : List Ins} {k : Nat} {x : Ins} (h : l[k]? = some x) : fenceL (l.take (k + 1)) = fenceL (l.take k) ++ fence1 x := by
  unfold fenceL
  rw [List.take_add_one, h, List.flatMap_append]; simp
theorem fence1_len (x : Ins) : (fence1 x).length ≤ 2 := by
  unfold fence1
  split
  · simp
  · split <;> simp
theorem fenceL_len : ∀ l : List Ins, (fenceL l).length ≤ 2 * l.length
  | [] => by simp [fenceL]
  | x :: r => by
    have h1 := fenceL_len r
    have h2 := fence1_len x
    unfold fenceL at h1 ⊢
    rw [List.flatMap_cons, List.length_append, List.length_cons]
    omega
theorem fenced_at : ∀ (l : List Ins) (k : Nat) (x : Ins), (fenceL l)[k]? = some x → x.op = 2 → ∃ y, (fenceL l)[k + 1]? = some y ∧ y.op = 7 ∧ y.mode = 3
  | [], k, x, h, _ => by simp [fenceL] at h
  | a :: r, k, x, h, ho => by
    have ih := fenced_at r
    unfold fenceL at h ih ⊢
    rw [List.flatMap_cons] at h ⊢
    unfold fence1 at h ⊢
    by_cases h8 : a.op = 8
    · rw [if_pos h8, List.nil_append] at h ⊢
      exact ih k x h ho
    · rw [if_neg h8] at h ⊢
      by_cases h2 : a.op = 2
      · rw [if_pos h2] at h ⊢
        match k, h with
        | 0, _ => exact ⟨fenceI, rfl, rfl, rfl⟩
        | 1, h => cases h; exact absurd ho (by decide)
        | k + 2, h => exact ih k x h ho
      · rw [if_neg h2] at h ⊢
        match k, h with
        | 0, h => cases h; exact absurd ho h2
        | k + 1, h => exact ih k x h ho
theorem mem_fence {l : List Ins} {y : Ins} (h : y ∈ fenceL l) : y = fenceI ∨ (y ∈ l ∧ y.op ≠ 8) := by
  obtain ⟨x, hx, hy⟩ := List.mem_flatMap.1 h
  unfold fence1 at hy
  split at hy
  · cases hy
  · rename_i h8
    split at hy
    · rcases List.mem_cons.1 hy with e | e
      · exact .inr (e ▸ ⟨hx, h8⟩)
      · exact .inl (by simpa using e)
    · exact .inr ((List.mem_singleton.1 hy) ▸ ⟨hx, h8⟩)
theorem insOk_fence (locs a : Int) : insOk fenceI locs a = true := rfl
theorem insOk_any {x : Ins} {locs a b : Int} (h : insOk x locs a = true) (h8 : x.op ≠ 8) : insOk x locs b = true := by
  have h0 := op_cases x.op (ins_cond h 0 (by omega))
  have hs : hasB x.op 64 = false := by
    rcases h0 with e | e | e | e | e | e | e | e <;> first | exact absurd e h8 | (rw [e]; decide)
  unfold insOk at h ⊢
  rw [List.all_eq_true] at h ⊢
  intro k hk
  have := h k hk
  match k, this with
  | 0, t => exact t
  | 1, t => exact t
  | 2, t => exact t
  | 3, t => exact t
  | 4, t => exact t
  | 5, t => exact t
  | 6, t => exact t
  | 7, _ => show (!hasB x.op 64 || _) = true; rw [hs]; rfl
  | n + 8, t => exact t
theorem inses_all {locs : Int} {n : Nat} : ∀ {l : List Ins} {i : Nat}, (∀ x ∈ l, ∀ a, insOk x locs a = true) → insesOk locs n i l = true
  | [], _, _ => rfl
  | x :: r, i, h => by
    rw [insesOk, h x (by simp), inses_all (l := r) (fun y hy => h y (by simp [hy]))]
    rfl
def fencePr (n : Nat) (p : Prg) : Prg := { p with threads := p.threads.map fun l => fenceL (l.take n) }
theorem fence_fenced (n : Nat) (p : Prg) : FencedP (fencePr n p) := fun t l k x hl hx ho => by
  have hl : (p.threads.map fun l => fenceL (l.take n))[t]? = some l := hl
  rw [List.getElem?_map] at hl
  obtain ⟨l0, _, rfl⟩ := Option.map_eq_some_iff.1 hl
  exact fenced_at _ k x hx ho
theorem right_of_demands {p : Prg} (h : ∀ i, i < 6 → demandK p i = true) : rightErr p = 0 := by
  unfold rightErr
  simp [rightFrom, h]
theorem fence_right {n : Nat} {p : Prg} (hn : n ≤ 6) (h : rightErr p = 0) : rightErr (fencePr n p) = 0 := by
  have hv := valid h
  have hlen : (fencePr n p).threads.length = p.threads.length := by simp [fencePr]
  refine right_of_demands fun i hi => ?_
  have h0 := right_demand h i hi
  match i, hi, h0 with
  | 0, _, h0 => exact h0
  | 1, _, h0 => exact h0
  | 2, _, h0 =>
    show threadsShort (fencePr n p) = true
    have h0 : threadsShort p = true := h0
    simp only [threadsShort, Bool.and_eq_true, decide_eq_true_eq, List.all_eq_true] at h0 ⊢
    rw [hlen]
    refine ⟨h0.1, fun l hl => ?_⟩
    obtain ⟨l0, _, rfl⟩ := List.mem_map.1 hl
    have := fenceL_len (l0.take n)
    rw [List.length_take] at this
    omega
  | 3, _, h0 =>
    show threadsOk (fencePr n p) = true
    have h0 : threadsOk p = true := h0
    simp only [threadsOk, List.all_eq_true] at h0 ⊢
    intro l hl
    obtain ⟨l0, hl0, rfl⟩ := List.mem_map.1 hl
    have h1 := h0 l0 hl0
    simp only [threadOk, Bool.and_eq_true, decide_eq_true_eq] at h1 ⊢
    have h2 := fenceL_len (l0.take n)
    rw [List.length_take] at h2
    refine ⟨by omega, inses_all fun y hy a => ?_⟩
    rcases mem_fence hy with rfl | ⟨hm, h8⟩
    · exact insOk_fence _ _
    · obtain ⟨k, hk⟩ := List.getElem?_of_mem (List.mem_of_mem_take hm)
      exact insOk_any (inses_at h1.2 hk) h8
  | 4, _, h0 => exact h0
  | 5, _, h0 =>
    show condOk (fencePr n p).threads.length p.locs.length 20 p.cond = true
    rw [hlen]; exact h0
end Go.Proofs.YtbgnapmaimkpkaaGreatDoor
