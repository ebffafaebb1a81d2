/-
  Plain Lean: a folded program comes to the same outcomes as the program, and through no more states. Conditions: none.
-/
import Derived.Test.YtbgnapmaimkpkaaGreatDoorRnY
import Derived.Test.YtbgnapmaimkpkaaGreatDoorBfW1
import Derived.Test.YtbgnapmaimkpkaaGreatDoorFp1
set_option linter.unusedSimpArgs false
set_option linter.unusedVariables false
namespace Go.Proofs.YtbgnapmaimkpkaaGreatDoor
-- RlP
def Got (p : Prg) (m : UInt8) (z : By) : Prop := Fine p m z ∧ ∃ r, RunM p m (startP p) r z
theorem RunM.append' {p : Prg} {m : UInt8} {y z : By} {q : List Pss} : ∀ {r : List Pss} {s : By}, RunM p m s r y → RunM p m y q z → RunM p m s (r ++ q) z
  | [], s, h, e => by
    have h : y = s := h
    subst h; exact e
  | _ :: _, _, h, e => ⟨h.1, RunM.append' h.2 e⟩
theorem Got.step {p : Prg} {m : UInt8} {z : By} {x : Pss} (h : Got p m z) (hx : x ∈ movesM p m z) : Got p m (stepM p m z x) := ⟨h.1.step hx, by
  obtain ⟨r, hr⟩ := h.2
  exact ⟨_, hr.snoc hx⟩⟩
theorem got_start {p : Prg} {m : UInt8} (hp : rightErr p = 0) (hm : knownM m = true) : Got p m (startP p) := ⟨fine_start hp hm, [], rfl⟩
def ManyGot (p : Prg) (m : UInt8) (most : Nat) : Prop := ∃ L : List By, L.Nodup ∧ most < L.length ∧ ∀ z ∈ L, Got p m z
theorem visit_many {p : Prg} {m : UInt8} {most k : Nat} {s : By} (hs : Got p m s) : ∀ (r : List Pss) (l : List By) (q : List (Int × Pss)), (∀ x ∈ r, x ∈ movesM p m s) → (∀ y ∈ l, Got p m y) → l.Nodup →
    (visitR p m most k s r l q = none → ManyGot p m most) ∧ ∀ l' q', visitR p m most k s r l q = some (l', q') → (∀ y ∈ l', Got p m y) ∧ l'.Nodup
  | [], l, q, _, hl, hn => ⟨fun e => (by simp [visitR] at e), fun l' q' e => by
    simp only [visitR, Option.some.injEq, Prod.mk.injEq] at e
    obtain ⟨rfl, rfl⟩ := e
    exact ⟨hl, hn⟩⟩
  | x :: r, l, q, hr, hl, hn => by
    have hx := hr x (by simp)
    have hz := hs.step hx
    have hin := isIn_iff (fun y hy => (hl y hy).1.t) hz.1.t
    have hr' : ∀ y ∈ r, y ∈ movesM p m s := fun y hy => hr y (by simp [hy])
    rw [visitR]
    by_cases hc : isIn l (stepM p m s x) = true
    · rw [if_pos hc]; exact visit_many hs r l q hr' hl hn
    · rw [if_neg hc]
      have hl2 : ∀ y ∈ l ++ [stepM p m s x], Got p m y := fun y hy => by
        rcases List.mem_append.1 hy with h | h
        · exact hl y h
        · rw [List.mem_singleton.1 h]; exact hz
      have hn2 : (l ++ [stepM p m s x]).Nodup := by
        rw [List.nodup_append]
        refine ⟨hn, by simp, fun a ha b hb => ?_⟩
        obtain rfl : b = stepM p m s x := by simpa using hb
        rintro rfl
        exact hc (hin.2 ha)
      by_cases hm : most ≤ l.length
      · rw [if_pos hm]
        exact ⟨fun _ => ⟨_, hn2, by simp; omega, hl2⟩, fun _ _ e => by cases e⟩
      · rw [if_neg hm]; exact visit_many hs r _ _ hr' hl2 hn2
theorem search_many {p : Prg} {m : UInt8} {most : Nat} : ∀ (f k : Nat) (a : Fnd), (∀ y ∈ a.list, Got p m y) → a.list.Nodup → searchR p m most f k a = none → ManyGot p m most
  | 0, _, _, _, _, e => by simp [searchR] at e
  | f + 1, k, a, hl, hn, e => by
    rw [searchR] at e
    cases hs : a.list[k]? with
    | none => rw [hs] at e; cases e
    | some s =>
      have hv := visit_many (most := most) (k := k) (hl s (List.mem_of_getElem? hs)) (movesM p m s) a.list a.links (fun x hx => hx) hl hn
      simp only [hs] at e
      cases hq : visitR p m most k s (movesM p m s) a.list a.links with
      | none => exact hv.1 hq
      | some lq =>
        obtain ⟨l, q⟩ := lq
        rw [hq] at e
        have h2 := hv.2 l q hq
        exact search_many f (k + 1) _ h2.1 h2.2 e
theorem reach_many {p : Prg} {m : UInt8} {most : Nat} (hp : rightErr p = 0) (hm : knownM m = true) (h : reachR p m most = none) : ManyGot p m most :=
  search_many _ 0 (firstR p) (fun y hy => by
    rw [show y = startP p by simpa [firstR] using hy]
    exact got_start hp hm) (by simp [firstR]) h
theorem len_sub {α : Type} : ∀ {l q : List α}, l.Nodup → (∀ x ∈ l, x ∈ q) → l.length ≤ q.length
  | [], _, _, _ => Nat.zero_le _
  | x :: r, q, hn, h => by
    obtain ⟨a, b, rfl⟩ := List.append_of_mem (h x (by simp))
    have hn' := List.nodup_cons.1 hn
    have := len_sub (l := r) (q := a ++ b) hn'.2 (fun y hy => by
      have := h y (by simp [hy])
      rw [List.mem_append, List.mem_cons] at this
      rcases this with h1 | h1 | h1
      · exact List.mem_append.2 (.inl h1)
      · rw [h1] at hy; exact absurd hy hn'.1
      · exact List.mem_append.2 (.inr h1))
    simp only [List.length_append, List.length_cons] at this ⊢
    omega
theorem less_states {p q : Prg} {m : UInt8} {fd : Fnd} {n : Int} {g : By → By} (hq : rightErr q = 0) (h : statesR p m n = some fd) (he : statesE p m n = 0) (hg : ∀ z, Got q m z → ∃ s, Got p m s ∧ g s = z) :
    statesE q m n = 0 ∧ ∃ fd2, statesR q m n = some fd2 ∧ fd2.list.length ≤ fd.list.length := by
  obtain ⟨fd', h3, hI, _, hr, hk⟩ := states_some he
  rw [h] at h3
  cases h3
  have key : ∀ L : List By, L.Nodup → (∀ z ∈ L, Got q m z) → L.length ≤ fd.list.length := fun L hn hL => by
    have := len_sub (q := fd.list.map g) hn (fun z hz => by
      obtain ⟨s, ⟨_, r, hs⟩, rfl⟩ := hg z (hL z hz)
      obtain ⟨j, hj, _⟩ := way_least hI r s hs
      exact List.mem_map.2 ⟨s, List.mem_of_getElem? hj, rfl⟩)
    rwa [List.length_map] at this
  have hC : statesC p m n := by
    rcases Classical.em (statesC p m n) with hC | hC
    · exact hC
    · have := (states_neg hC).2; rw [h] at this; cases this
  have hC2 : statesC q m n := ⟨hC.1, hC.2.1, hC.2.2.1, hq⟩
  rcases states_pos hC2 with ⟨_, h2⟩ | ⟨h1, fd2, h2, h3⟩
  · exfalso
    have h3 : reachR q m n.toNat = none := by
      unfold statesR at h2
      rwa [if_pos hC2] at h2
    obtain ⟨L, a1, a2, a3⟩ := reach_many hq hk h3
    have := key L a1 a3
    have := hI.many
    omega
  · have hI2 := reach_ok hq hk (by have := hC.2.1; omega) h3
    refine ⟨h1, fd2, h2, key _ hI2.nodup fun z hz => ⟨hI2.fine z hz, ?_⟩⟩
    obtain ⟨j, hj⟩ := List.getElem?_of_mem hz
    exact ⟨_, way_run hI2 j z hj⟩
-- RlQ
def thrL (p : Prg) (t : Nat) : List Ins := (p.threads[t]?).getD []
def foldS (p : Prg) (s : By) : By := fun i => if i < 36 ∧ i % 9 = 0 then UInt8.ofNat (rank (foldAl (thrL p (i / 9))) (s i).toNat) else s i
def Off (s z : By) : Prop := ∀ i, ¬ (i < 36 ∧ i % 9 = 0) → z i = s i
theorem foldS_off (p : Prg) (s : By) : Off s (foldS p s) := fun _ h => if_neg h
theorem foldS_pc {p : Prg} {s : By} {t : Nat} (ht : t < 4) : foldS p s (t * 9) = UInt8.ofNat (rank (foldAl (thrL p t)) (pcP s t)) := by
  unfold foldS pcP
  rw [if_pos ⟨by omega, by omega⟩, show t * 9 / 9 = t by omega]
theorem rank_le (al : List Bool) (k : Nat) : rank al k ≤ k := by
  unfold rank
  exact Nat.le_trans List.count_le_length (by rw [List.length_take]; omega)
theorem ofNat_small {n : Nat} (h : n ≤ 12) : (UInt8.ofNat n).toNat = n := by rw [UInt8.toNat_ofNat']; omega
section
variable {p q : Prg} {m : UInt8} {s z : By} {t : Nat} {l l' : List Ins} {x y : Ins}
theorem Off.many (h : Off s z) (t : Nat) : manyB z t = manyB s t := by unfold manyB; rw [h _ (by omega)]
theorem Off.bl (h : Off s z) (t i : Nat) : bLoc z t i = bLoc s t i ∧ bVal z t i = bVal s t i := ⟨by unfold bLoc; rw [h _ (by omega)], by unfold bVal; rw [h _ (by omega)]⟩
theorem Off.addAt (h : Off s z) (t : Nat) (loc : UInt8) : ∀ n, addAt m z t loc n = addAt m s t loc n
  | 0 => rfl
  | n + 1 => by rw [Go.Proofs.YtbgnapmaimkpkaaGreatDoor.addAt, Go.Proofs.YtbgnapmaimkpkaaGreatDoor.addAt, (h.bl t n).1, h.addAt t loc n]
theorem Off.addP (h : Off s z) (t : Nat) (st : By) (i : Nat) (hi : 42 ≤ i) : addP m z t st i = addP m s t st i := by
  unfold Go.Proofs.YtbgnapmaimkpkaaGreatDoor.addP
  have h1 := addAt_le (m := m) (s := s) (t := t) (loc := st 0) (manyB s t)
  rw [h.many, h.addAt, addR_at s t _ st h1, addR_at z t _ st (by rw [h.many]; exact h1), h.many]
  split
  · rw [h _ (by omega)]
  · split
    · rfl
    · split
      · exact h _ (by omega)
      · exact h _ (by omega)
theorem Off.seen (h : Off s z) (t : Nat) (loc : UInt8) : seenP z t loc = seenP s t loc := by
  unfold seenP
  rw [h.many]
  exact seenN_congr (h _ (by omega)) _ (fun i _ => h.bl t i)
theorem Off.drainN (h : Off s z) (t : Nat) (loc : UInt8) : ∀ f i, drainN m z t loc f i = drainN m s t loc f i
  | 0, _ => rfl
  | f + 1, i => by rw [Go.Proofs.YtbgnapmaimkpkaaGreatDoor.drainN, Go.Proofs.YtbgnapmaimkpkaaGreatDoor.drainN, (h.bl t i).1, h.drainN t loc f (i + 1)]
theorem Off.drainR (h : Off s z) {t a : Nat} (ha : a < manyB s t) (i : Nat) (hi : ¬ (i < 36 ∧ i % 9 = 0)) : drainR z t a i = drainR s t a i := by
  rw [drainR_at s t a ha, drainR_at z t a (by rw [h.many]; exact ha), h.many, (h.bl t a).1, (h.bl t a).2]
  split
  · rfl
  · split
    · rw [h _ (by omega)]
    · split
      · rfl
      · split
        · exact h _ (by omega)
        · exact h i hi
theorem Off.drains (h : Off s z) (t : Nat) : ∀ n, drains m z t n = drains m s t n
  | 0 => rfl
  | n + 1 => by
    rw [Go.Proofs.YtbgnapmaimkpkaaGreatDoor.drains, Go.Proofs.YtbgnapmaimkpkaaGreatDoor.drains, (h.bl t n).1, (h.bl t (n - 1)).1, h.drains t n]
    unfold drainAt
    rw [(h.bl t n).1]
theorem worth_reg {r : Bool} {n : UInt8} {a b : By} (h : ∀ k, 1 ≤ k → k < 9 → a k = b k) : worthP r n (cut a 1) = worthP r n (cut b 1) := by
  unfold worthP cut
  split
  · split
    · exact h _ (by omega) (by omega)
    · rfl
  · rfl
theorem hasP_reg {a b : By} {had : UInt8} (h : ∀ k, 1 ≤ k → k < 9 → a k = b k) : hasP x a had = hasP x b had := by
  unfold hasP valA valB
  rw [worth_reg h, worth_reg h]
theorem withP_reg {a b : By} {d v : UInt8} (h : ∀ k, 1 ≤ k → k < 9 → a k = b k) {k : Nat} (h1 : 1 ≤ k) (hk : k < 9) : withP a d v k = withP b d v k := by
  unfold withP
  split
  · unfold put; split
    · rfl
    · exact h k h1 hk
  · exact h k h1 hk
theorem put0 {a : By} {v : UInt8} {k : Nat} (h : 1 ≤ k) : put a 0 v k = a k := if_neg (by omega)
theorem localP_reg {a b : By} (h : ∀ k, 1 ≤ k → k < 9 → a k = b k) {k : Nat} (h1 : 1 ≤ k) (hk : k < 9) : localP x a k = localP x b k := by
  unfold localP valA valB
  rw [worth_reg h, worth_reg h]
  split
  · rw [put0 h1, put0 h1]; exact withP_reg h h1 hk
  · split
    · rw [put0 h1, put0 h1]; exact h k h1 hk
    · split
      · rw [put0 h1, put0 h1]; exact h k h1 hk
      · exact h k h1 hk
theorem farP_reg {a b : By} {had : UInt8} (h : ∀ k, 1 ≤ k → k < 9 → a k = b k) {k : Nat} (h1 : 1 ≤ k) (hk : k < 9) : farP x a had k = farP x b had k := by
  unfold farP
  rw [put0 h1, put0 h1]
  split
  · exact h k h1 hk
  · exact withP_reg h h1 hk
theorem Off.regs (h : Off s z) (ht : t < 4) : ∀ k, 1 ≤ k → k < 9 → cut z (t * 9) k = cut s (t * 9) k := fun k h1 hk => h (t * 9 + k) (by omega)
theorem Off.execT (h : Off s z) (ht : t < 4) {k : Nat} (h1 : 1 ≤ k) (hk : k < 9) : execT x z t k = execT x s t k := by
  unfold Go.Proofs.YtbgnapmaimkpkaaGreatDoor.execT
  rw [h.seen]
  split
  · exact farP_reg (h.regs ht) h1 hk
  · split
    · rw [put0 h1, put0 h1]; exact h.regs ht k h1 hk
    · split
      · rw [h _ (by omega)]
        exact farP_reg (h.regs ht) h1 hk
      · exact localP_reg (h.regs ht) h1 hk
theorem Off.exec (h : Off s z) (hE : ExecOf p m s t l x) (hE' : ExecOf q m z t l' y) (hop : y.op = x.op) (hy : x.op ≠ 8 → y = x) : Off (execP m x s t) (execP m y z t) := fun i hi => by
  have ht := hE.t4
  by_cases h8 : x.op = 8
  · have h8' : y.op = 8 := hop.trans h8
    have nw : ∀ w : Ins, w.op = 8 → ¬ writesM m w := fun w hw hh => by unfold writesM at hh; rw [hw] at hh; simp at hh
    have nb : ∀ w : Ins, w.op = 8 → ¬ buffers m w := fun w hw hh => by unfold buffers at hh; rw [hw] at hh; simp at hh
    rcases Nat.lt_or_ge i 42 with hi2 | hi2
    · rw [hE.low hi2, hE'.low hi2]
      split
      · obtain ⟨k, rfl⟩ : ∃ k, i = t * 9 + k := ⟨i - t * 9, by omega⟩
        rw [show t * 9 + k - t * 9 = k by omega]
        have e8 : ∀ (w : Ins) (a : By), w.op = 8 → Go.Proofs.YtbgnapmaimkpkaaGreatDoor.execT w a t k = cut a (t * 9) k := fun w a hw => by
          unfold Go.Proofs.YtbgnapmaimkpkaaGreatDoor.execT localP
          rw [hw]
          simp only [show ¬ (8 : UInt8) = 1 by decide, show ¬ (8 : UInt8) = 2 by decide, show ¬ ((8 : UInt8) = 4 ∨ (8 : UInt8) = 5 ∨ (8 : UInt8) = 6) by decide, show ¬ (8 : UInt8) = 3 by decide, if_false, if_true]
          exact put0 (by omega)
        rw [e8 y z h8', e8 x s h8]
        exact h.regs ht k (by omega) (by omega)
      · rw [if_neg (fun hh => nw y h8' hh.1), if_neg (fun hh => nw x h8 hh.1)]
        exact h i hi
    · rw [hE.high hi2, hE'.high hi2, if_neg (nb y h8'), if_neg (nb x h8)]
      exact h i hi
  · obtain rfl := hy h8
    rcases Nat.lt_or_ge i 42 with hi2 | hi2
    · rw [hE.low hi2, hE'.low hi2]
      split
      · exact h.execT ht (by omega) (by omega)
      · split
        · rw [h _ (by omega)]; exact hasP_reg (h.regs ht)
        · exact h i hi
    · rw [hE.high hi2, hE'.high hi2]
      split
      · have : valA y (cut z (t * 9)) = valA y (cut s (t * 9)) := worth_reg (h.regs ht)
        rw [this]
        exact h.addP t _ i hi2
      · exact h i hi
end
theorem skip_ways {x : Ins} {locs after : Int} {th : By} (h8 : x.op = 8) (h : insOk x locs after = true) : (skipsP x.fn (valA x th) (valB x th) = true → wayJ x = true) ∧ (skipsP x.fn (valA x th) (valB x th) = false → wayN x = true) := by
  rw [ins_8 h8] at h
  simp only [Bool.and_eq_true, decide_eq_true_eq] at h
  have hf : x.fn = 4 ∨ x.fn = 5 ∨ x.fn = 6 := by
    have h1 := UInt8.le_iff_toNat_le.1 h.1.1.2.1
    have h2 := UInt8.le_iff_toNat_le.1 h.1.1.2.2
    simp at h1 h2
    rcases (by omega : x.fn.toNat = 4 ∨ x.fn.toNat = 5 ∨ x.fn.toNat = 6) with e | e | e
    · exact .inl (UInt8.toNat_inj.1 e)
    · exact .inr (.inl (UInt8.toNat_inj.1 e))
    · exact .inr (.inr (UInt8.toNat_inj.1 e))
  unfold wayJ wayN
  by_cases hr : (x.aR || x.bR) = true
  · rw [if_pos hr, if_pos hr]; exact ⟨fun _ => rfl, fun _ => rfl⟩
  · rw [if_neg hr, if_neg hr]
    simp only [Bool.or_eq_true, not_or, Bool.not_eq_true] at hr
    have ea : valA x th = x.aN := by unfold valA worthP; rw [hr.1]; rfl
    have eb : valB x th = x.bN := by unfold valB worthP; rw [hr.2]; rfl
    rw [ea, eb]
    have : skipsP x.fn x.aN x.bN = jumpC x := by
      unfold skipsP jumpC
      rcases hf with e | e | e
      · rw [if_pos e, if_pos e]
      · rw [e]; rfl
      · rw [e]; rfl
    rw [this]
    exact ⟨id, fun h => by rw [h]; rfl⟩
section
variable {l : List Ins} {x : Ins} {th : By} {k : Nat} {locs : Int}
theorem skip_end (hx : l[k]? = some x) (hv : hvP l) (h8 : x.op = 8) : k + 1 + x.skip.toNat ≤ l.length := (hv k x hx h8).2
theorem new_alive {zth : By} (hl : l.length ≤ 12) (hv : hvP l) (hx : l[k]? = some x) (ha : (foldAl l).getD k false = true) (hk : (th 0).toNat = k) (hz : zth 0 = UInt8.ofNat (rank (foldAl l) k)) (hr : ∀ j, 1 ≤ j → j < 9 → zth j = th j) :
    newPc (keepI x (foldAl l) k) zth = UInt8.ofNat (rank (foldAl l) (newPc x th).toNat) := by
  have hkl := (List.getElem?_eq_some_iff.1 hx).1
  have hr1 : rank (foldAl l) (k + 1) = rank (foldAl l) k + 1 := by rw [rank_succ, if_pos ha]
  have hrk := rank_le (foldAl l) k
  have ea : valA x zth = valA x th := worth_reg hr
  have eb : valB x zth = valB x th := worth_reg hr
  have one : (th 0 + 1).toNat = k + 1 := by rw [UInt8.toNat_add, hk]; show (k + 1) % 256 = _; omega
  have zone : zth 0 + 1 = UInt8.ofNat (rank (foldAl l) k + 1) := UInt8.toNat_inj.1 (by
    rw [hz, UInt8.toNat_add, UInt8.toNat_ofNat', UInt8.toNat_ofNat']
    show (rank (foldAl l) k % 256 + 1) % 256 = _
    omega)
  by_cases h8 : x.op = 8
  · obtain ⟨h1, _, h3⟩ := keep_skip hx ha h8
    have hk8 : keepI x (foldAl l) k = { x with skip := UInt8.ofNat (skippedP (foldAl l) k x.skip.toNat) } := by unfold keepI; rw [if_pos h8]
    have hse := skip_end hx hv h8
    rw [hk8] at h1 ⊢
    have hq : newPc { x with skip := UInt8.ofNat (skippedP (foldAl l) k x.skip.toNat) } zth = if x.op = 8 ∧ skipsP x.fn (valA x zth) (valB x zth) = true then zth 0 + UInt8.ofNat (skippedP (foldAl l) k x.skip.toNat) + 1 else zth 0 + 1 := rfl
    rw [hq, ea, eb]
    unfold newPc
    by_cases hc : x.op = 8 ∧ skipsP x.fn (valA x th) (valB x th) = true
    · rw [if_pos hc, if_pos hc]
      have e1 : (th 0 + x.skip + 1).toNat = k + 1 + x.skip.toNat := by
        rw [UInt8.toNat_add, UInt8.toNat_add, hk]
        show ((k + x.skip.toNat) % 256 + 1) % 256 = _
        omega
      have hsk := skipped_le (foldAl l) k x.skip.toNat
      rw [e1, rank_skip, hr1];refine UInt8.toNat_inj.1 ?_;rw [hz, UInt8.toNat_add, UInt8.toNat_add, UInt8.toNat_ofNat', UInt8.toNat_ofNat', UInt8.toNat_ofNat']
      show ((rank (foldAl l) k % 256 + skippedP (foldAl l) k x.skip.toNat % 256) % 256 + 1) % 256 = _
      omega
    · rw [if_neg hc, if_neg hc, one, hr1]; exact zone
  · have hk8 : keepI x (foldAl l) k = x := by unfold keepI; rw [if_neg h8]
    rw [hk8]
    unfold newPc
    rw [if_neg (fun h => h8 h.1), if_neg (fun h => h8 h.1), one, hr1]; exact zone
theorem new_dead (hl : l.length ≤ 12) (hv : hvP l) (hx : l[k]? = some x) (ha : (foldAl l).getD k false = false) (hR : Reach l (List.replicate l.length true) k) (hk : (th 0).toNat = k) (hok : x.op = 8 → insOk x locs ((l.length : Int) - 1 - (k : Int)) = true) :
    x.op = 8 ∧ rank (foldAl l) (newPc x th).toNat = rank (foldAl l) k := by
  obtain ⟨h8, hd⟩ := dead_ok hv k x hx ha hR
  have hkl := (List.getElem?_eq_some_iff.1 hx).1
  have h0 : rank (foldAl l) (k + 1) = rank (foldAl l) k := by rw [rank_succ, if_neg (by rw [ha]; simp)]; rfl
  have one : (th 0 + 1).toNat = k + 1 := by rw [UInt8.toNat_add, hk]; show (k + 1) % 256 = _; omega
  refine ⟨h8, ?_⟩
  unfold newPc
  by_cases hc : x.op = 8 ∧ skipsP x.fn (valA x th) (valB x th) = true
  · rw [if_pos hc]
    have hse := skip_end hx hv h8
    have e1 : (th 0 + x.skip + 1).toNat = k + 1 + x.skip.toNat := by
      rw [UInt8.toNat_add, UInt8.toNat_add, hk]
      show ((k + x.skip.toNat) % 256 + 1) % 256 = _
      omega
    rw [e1, rank_skip, h0]
    rcases hd with h | h
    · rw [(skip_ways h8 (hok h8)).1 hc.2] at h; cases h
    · rw [h]; rfl
  · rw [if_neg hc, one, h0]
theorem new_reach (hl : l.length ≤ 12) (hv : hvP l) (hx : l[k]? = some x) (hR : Reach l (List.replicate l.length true) k) (hk : (th 0).toNat = k) (hok : x.op = 8 → insOk x locs ((l.length : Int) - 1 - (k : Int)) = true) : Reach l (List.replicate l.length true) (newPc x th).toNat := by
  have hkl := (List.getElem?_eq_some_iff.1 hx).1
  have one : (th 0 + 1).toNat = k + 1 := by rw [UInt8.toNat_add, hk]; show (k + 1) % 256 = _; omega
  unfold newPc
  by_cases hc : x.op = 8 ∧ skipsP x.fn (valA x th) (valB x th) = true
  · rw [if_pos hc]
    have hse := skip_end hx hv hc.1
    have e1 : (th 0 + x.skip + 1).toNat = k + 1 + x.skip.toNat := by
      rw [UInt8.toNat_add, UInt8.toNat_add, hk]
      show ((k + x.skip.toNat) % 256 + 1) % 256 = _
      omega
    rw [e1]
    exact .jump hR hx (all_true hkl) hc.1 ((skip_ways hc.1 (hok hc.1)).1 hc.2)
  · rw [if_neg hc, one]
    refine .next hR hx (fun _ h8 => (skip_ways (th := th) h8 (hok h8)).2 ?_)
    cases hs : skipsP x.fn (valA x th) (valB x th) with
    | false => rfl
    | true => exact absurd ⟨h8, hs⟩ hc
end
-- RlG
def ReachS (p : Prg) (s : By) : Prop := ∀ (t : Nat) (l : List Ins), p.threads[t]? = some l → Reach l (List.replicate l.length true) (pcP s t)
theorem thrL_at {p : Prg} {t : Nat} {l : List Ins} (h : p.threads[t]? = some l) : thrL p t = l := by unfold thrL; rw [h]; rfl
theorem fold_thr {p : Prg} {t : Nat} {l : List Ins} (h : p.threads[t]? = some l) : (foldPr p).threads[t]? = some (foldP l) := by
  show (p.threads.map foldP)[t]? = _
  rw [List.getElem?_map, h]; rfl
theorem hv_of {p : Prg} (hp : rightErr p = 0) {t : Nat} {l : List Ins} (h : p.threads[t]? = some l) : l.length ≤ 12 ∧ hvP l := (foldPre_of hp).2.2 l (List.mem_of_getElem? h)
theorem ok_at {p : Prg} (hp : rightErr p = 0) {t k : Nat} {l : List Ins} {x : Ins} (h : p.threads[t]? = some l) (hx : l[k]? = some x) : insOk x p.locs.length ((l.length : Int) - 1 - (k : Int)) = true := by
  have := inses_at ((valid hp).ins t l h) hx
  rwa [Nat.zero_add] at this
theorem mem_moves_iff {p : Prg} {m : UInt8} {s : By} {x : Pss} : ∀ n, x ∈ movesN p m s n ↔ ∃ t, t < n ∧ ((enabledM p m s t = true ∧ x = ⟨UInt8.ofNat t, false, 0⟩) ∨ x ∈ drains m s t (manyB s t))
  | 0 => by simp [movesN]
  | n + 1 => by
    rw [movesN, List.mem_append, mem_moves_iff n, movesT, List.mem_append]
    constructor
    · rintro (⟨t, ht, h⟩ | h | h)
      · exact ⟨t, by omega, h⟩
      · split at h
        · rename_i he
          exact ⟨n, by omega, .inl ⟨he, by simpa using h⟩⟩
        · cases h
      · exact ⟨n, by omega, .inr h⟩
    · rintro ⟨t, ht, h⟩
      rcases Nat.lt_or_ge t n with h1 | h1
      · exact .inl ⟨t, h1, h⟩
      · obtain rfl : t = n := by omega
        rcases h with ⟨h2, rfl⟩ | h
        · exact .inr (.inl (by rw [if_pos h2]; simp))
        · exact .inr (.inr h)
theorem drains_d {m : UInt8} {s : By} {t : Nat} {x : Pss} : ∀ n, x ∈ drains m s t n → x.d = true
  | 0, h => by cases h
  | n + 1, h => by
    rw [drains] at h
    split at h
    · rcases List.mem_append.1 h with h | h
      · exact drains_d n h
      · rw [List.mem_singleton.1 h]; rfl
    · exact drains_d n h
section
variable {p : Prg} {m : UInt8} {s : By} {t : Nat} {l : List Ins} {x : Ins}
theorem fold_drain {y : Pss} (hr : RightM p m s) (hy : y ∈ movesM p m s) (hd : y.d = true) : foldS p (stepM p m s y) = stepM (foldPr p) m (foldS p s) y ∧ ∀ t, t < 4 → pcP (stepM p m s y) t = pcP s t := by
  have hO := foldS_off p s
  have hs : stepM (foldPr p) m (foldS p s) y = drainP m (foldS p s) y.t.toNat y.l := if_pos hd
  have hw := went hr hy
  have e : drainP m (foldS p s) y.t.toNat y.l = drainR (foldS p s) y.t.toNat (drainI m s y.t.toNat y.l) := by
    show drainR (foldS p s) y.t.toNat (drainI m (foldS p s) y.t.toNat y.l) = _
    rw [show drainI m (foldS p s) y.t.toNat y.l = drainI m s y.t.toNat y.l from by unfold drainI; rw [hO.drainN, hO.many]]
  rw [hs, e]
  generalize hz : stepM p m s y = z at hw ⊢
  cases hw with
  | exec => cases hd
  | @drain t i hD hi he =>
    have e1 : (drainAt m s t i).t.toNat = t := ofNat_to hD.t4
    rw [e1]
    clear hz hs e hy he
    generalize drainI m s t (drainAt m s t i).l = a at hD ⊢
    refine ⟨?_, fun u hu => hD.pc hu⟩
    funext k
    by_cases hk : k < 36 ∧ k % 9 = 0
    · have e2 : foldS p (drainR s t a) k = foldS p s k := by
        unfold foldS
        rw [if_pos hk, if_pos hk, hD.low hk.1]
      rw [drain_low (by rw [hO.many]; exact hD.lt) hk.1]
      exact e2
    · rw [foldS_off p _ k hk, hO.drainR hD.lt k hk]
theorem keep_mode (x : Ins) (al : List Bool) (k : Nat) : (keepI x al k).mode = x.mode := by unfold keepI; split <;> rfl
theorem ready_off {z : By} (h : Off s z) {y : Ins} (hop : y.op = x.op) (hm : y.mode = x.mode) : readyI y m z t = readyI x m s t := by
  unfold readyI
  rw [hop, hm, h (138 + t) (by omega)]
theorem foldS_pcP (hp : rightErr p = 0) (hl : p.threads[t]? = some l) (hpc : pcP s t ≤ l.length) : pcP (foldS p s) t = rank (foldAl l) (pcP s t) := by
  have ht : t < 4 := by have := (List.getElem?_eq_some_iff.1 hl).1; have := (valid hp).thr4; omega
  have h12 := (hv_of hp hl).1
  have := rank_le (foldAl l) (pcP s t)
  unfold pcP at this ⊢
  rw [foldS_pc ht, thrL_at hl, ofNat_small (by unfold pcP at hpc ⊢; omega)]
  rfl
theorem fold_exec (hE : ExecOf p m s t l x) (hz : RightM (foldPr p) m (foldS p s)) (ha : (foldAl l).getD (pcP s t) false = true) :
    nextI (foldPr p) (foldS p s) t = some (keepI x (foldAl l) (pcP s t)) ∧ enabledM (foldPr p) m (foldS p s) t = true ∧ execP m (keepI x (foldAl l) (pcP s t)) (foldS p s) t = foldS p (execP m x s t) := by
  have hp := hE.r.prog
  have ht := hE.t4
  have hO := foldS_off p s
  obtain ⟨h12, hv⟩ := hv_of hp hE.hl
  have hlt := hE.lt
  have hpcz : pcP (foldS p s) t = rank (foldAl l) (pcP s t) := foldS_pcP hp hE.hl (by omega)
  have hg := fold_get hE.hx ha
  have hn : nextI (foldPr p) (foldS p s) t = some (keepI x (foldAl l) (pcP s t)) := nextI_at (fold_thr hE.hl) (by
    have : (foldS p s (t * 9)).toNat = rank (foldAl l) (pcP s t) := hpcz
    rw [this]; exact hg)
  have hen : enabledM (foldPr p) m (foldS p s) t = true := by
    unfold enabledM
    rw [hn]
    show readyI _ m (foldS p s) t = true
    rw [ready_off hO (keep_op x _ _) (keep_mode x _ _)]
    exact hE.ready
  have htl : t < (foldPr p).threads.length := (List.getElem?_eq_some_iff.1 (fold_thr hE.hl)).1
  obtain ⟨l', y, hE', hn'⟩ := execOf hz htl hen
  rw [hn] at hn'
  obtain rfl := Option.some.inj hn'
  obtain rfl : foldP l = l' := Option.some.inj ((fold_thr hE.hl).symm.trans hE'.hl)
  refine ⟨hn, hen, ?_⟩
  have hX := hO.exec hE hE' (keep_op x _ _) (fun h8 => by unfold keepI; rw [if_neg h8])
  funext i
  by_cases hi : i < 36 ∧ i % 9 = 0
  · obtain ⟨u, hu, rfl⟩ : ∃ u, u < 4 ∧ i = u * 9 := ⟨i / 9, by omega, by omega⟩
    rw [foldS_pc hu]
    by_cases e : u = t
    · subst e
      have h1 := hE'.own (k := 0) (by omega)
      rw [execT_pc hE'.op, Nat.add_zero] at h1
      have h2 := hE.own (k := 0) (by omega)
      rw [execT_pc hE.op, Nat.add_zero] at h2
      have e2 : pcP (execP m x s u) u = (newPc x (cut s (u * 9))).toNat := by unfold pcP; rw [h2]
      rw [h1, thrL_at hE.hl, e2]
      exact new_alive h12 hv hE.hx ha rfl (by
        show foldS p s (u * 9 + 0) = _
        rw [Nat.add_zero, foldS_pc hu, thrL_at hE.hl]) (fun j h1 h2 => hO.regs hu j h1 h2)
    · have h1 := hE'.other hu e (k := 0) (by omega)
      rw [Nat.add_zero] at h1;rw [h1, hE.pcOther hu e, foldS_pc hu]
  · rw [hX i hi]
    exact (foldS_off p _ i hi).symm
theorem fold_idle (hE : ExecOf p m s t l x) (hR : ReachS p s) (ha : (foldAl l).getD (pcP s t) false = false) : x.op = 8 ∧ foldS p (execP m x s t) = foldS p s := by
  have hp := hE.r.prog
  have ht := hE.t4
  obtain ⟨h12, hv⟩ := hv_of hp hE.hl
  obtain ⟨h8, hrk⟩ := new_dead (th := cut s (t * 9)) h12 hv hE.hx ha (hR t l hE.hl) rfl (fun _ => ok_at hp hE.hl hE.hx)
  refine ⟨h8, ?_⟩
  have nw : ¬ writesM m x := fun hh => by unfold writesM at hh; rw [h8] at hh; simp at hh
  have nb : ¬ buffers m x := fun hh => by unfold buffers at hh; rw [h8] at hh; simp at hh
  funext i
  by_cases hi : i < 36 ∧ i % 9 = 0
  · obtain ⟨u, hu, rfl⟩ : ∃ u, u < 4 ∧ i = u * 9 := ⟨i / 9, by omega, by omega⟩
    rw [foldS_pc hu, foldS_pc hu]
    by_cases e : u = t
    · subst e
      have h2 := hE.own (k := 0) (by omega)
      rw [execT_pc hE.op, Nat.add_zero] at h2;rw [thrL_at hE.hl]
      have e1 : pcP (execP m x s u) u = (newPc x (cut s (u * 9))).toNat := by unfold pcP; rw [h2]
      rw [e1, hrk]
    · rw [hE.pcOther hu e]
  · rw [foldS_off p _ i hi, foldS_off p _ i hi]
    rcases Nat.lt_or_ge i 42 with h2 | h2
    · rw [hE.low h2]
      split
      · obtain ⟨k, rfl⟩ : ∃ k, i = t * 9 + k := ⟨i - t * 9, by omega⟩
        rw [show t * 9 + k - t * 9 = k by omega]
        unfold execT localP
        rw [h8]
        simp only [show ¬ (8 : UInt8) = 1 by decide, show ¬ (8 : UInt8) = 2 by decide, show ¬ ((8 : UInt8) = 4 ∨ (8 : UInt8) = 5 ∨ (8 : UInt8) = 6) by decide, show ¬ (8 : UInt8) = 3 by decide, if_false, if_true]
        exact put0 (by omega)
      · rw [if_neg (fun hh => nw hh.1)]
    · rw [hE.high h2, if_neg nb]
theorem reach_exec (hE : ExecOf p m s t l x) (hR : ReachS p s) : ReachS p (execP m x s t) := fun u l' hl' => by
  have hp := hE.r.prog
  have hu : u < 4 := by have := (List.getElem?_eq_some_iff.1 hl').1; have := (valid hp).thr4; omega
  by_cases e : u = t
  · subst e
    obtain rfl : l = l' := Option.some.inj (hE.hl.symm.trans hl')
    obtain ⟨h12, hv⟩ := hv_of hp hE.hl
    have h2 := hE.own (k := 0) (by omega)
    rw [execT_pc hE.op, Nat.add_zero] at h2
    have e1 : pcP (execP m x s u) u = (newPc x (cut s (u * 9))).toNat := by unfold pcP; rw [h2]
    rw [e1]
    exact new_reach h12 hv hE.hx (hR u l hE.hl) rfl (fun _ => ok_at hp hE.hl hE.hx)
  · rw [hE.pcOther hu e]; exact hR u l' hl'
end
section
variable {p : Prg} {m : UInt8}
theorem step_exec {s : By} {t : Nat} {l : List Ins} {x : Ins} (hE : ExecOf p m s t l x) (hn : nextI p s t = some x) : stepM p m s ⟨UInt8.ofNat t, false, 0⟩ = execP m x s t := by
  unfold stepM
  rw [if_neg (show ¬ (false : Bool) = true by decide)]
  show (match nextI p s (UInt8.ofNat t).toNat with | some i => execP m i s (UInt8.ofNat t).toNat | none => s) = _
  rw [ofNat_to hE.t4, hn]
theorem fold_step {s : By} {y : Pss} (hF : RightM p m s) (hZ : RightM (foldPr p) m (foldS p s)) (hR : ReachS p s) (hy : y ∈ movesM p m s) : ReachS p (stepM p m s y) ∧ (foldS p (stepM p m s y) = foldS p s ∨ (y ∈ movesM (foldPr p) m (foldS p s) ∧ stepM (foldPr p) m (foldS p s) y = foldS p (stepM p m s y))) := by
  have hp := hF.prog
  have hO := foldS_off p s
  have hV4 := (valid hp).thr4
  have hlen : (foldPr p).threads.length = p.threads.length := List.length_map ..
  obtain ⟨t, ht, h⟩ := (mem_moves_iff _).1 hy
  rcases h with ⟨hen, rfl⟩ | h
  · obtain ⟨l, x, hE, hn⟩ := execOf hF ht hen
    rw [step_exec hE hn]
    refine ⟨reach_exec hE hR, ?_⟩
    cases ha : (foldAl l).getD (pcP s t) false with
    | false => exact .inl (fold_idle hE hR ha).2
    | true =>
      obtain ⟨h1, h2, h3⟩ := fold_exec hE hZ ha
      obtain ⟨l', y', hE', hn'⟩ := execOf hZ (by rw [hlen]; exact ht) h2
      rw [h1] at hn'
      obtain rfl := Option.some.inj hn'
      exact .inr ⟨(mem_moves_iff _).2 ⟨t, by rw [hlen]; exact ht, .inl ⟨h2, rfl⟩⟩, by rw [step_exec hE' h1]; exact h3⟩
  · have hd := drains_d _ h
    obtain ⟨h1, h2⟩ := fold_drain hF hy hd
    refine ⟨fun u l hl => ?_, .inr ⟨(mem_moves_iff _).2 ⟨t, by rw [hlen]; exact ht, .inr (by rw [hO.many, hO.drains]; exact h)⟩, h1.symm⟩⟩
    rw [h2 u (by have := (List.getElem?_eq_some_iff.1 hl).1; omega)]
    exact hR u l hl
theorem back_exec {t : Nat} {l : List Ins} (hl : p.threads[t]? = some l) : ∀ (n : Nat) (s : By), Fine p m s → RightM (foldPr p) m (foldS p s) → ReachS p s → l.length - pcP s t ≤ n → enabledM (foldPr p) m (foldS p s) t = true →
    ∃ r s', RunM p m s r s' ∧ Fine p m s' ∧ ReachS p s' ∧ foldS p s' = stepM (foldPr p) m (foldS p s) ⟨UInt8.ofNat t, false, 0⟩ := by
  intro n
  induction n with
  | zero =>
    intro s hF hZ hR hn hen
    exfalso
    have hp := hF.r.prog
    have htl : t < (foldPr p).threads.length := (List.getElem?_eq_some_iff.1 (fold_thr hl)).1
    have ht4 : t < 4 := by have := (List.getElem?_eq_some_iff.1 hl).1; have := (valid hp).thr4; omega
    obtain ⟨l', y, hE', _⟩ := execOf hZ htl hen
    obtain rfl : foldP l = l' := Option.some.inj ((fold_thr hl).symm.trans hE'.hl)
    have h1 := hE'.lt
    have h2 := hF.r.pc ht4 hl
    have h3 : pcP s t ≤ l.length := h2
    rw [foldS_pcP hp hl h3, fold_len] at h1
    have := rank_mono (al := foldAl l) (show l.length ≤ pcP s t by omega)
    omega
  | succ n ih =>
    intro s hF hZ hR hn hen
    have hp := hF.r.prog
    have hO := foldS_off p s
    have hlt : t < p.threads.length := (List.getElem?_eq_some_iff.1 hl).1
    have htl : t < (foldPr p).threads.length := (List.getElem?_eq_some_iff.1 (fold_thr hl)).1
    have ht4 : t < 4 := by have := (valid hp).thr4; omega
    obtain ⟨l', y, hE', hn'⟩ := execOf hZ htl hen
    obtain rfl : foldP l = l' := Option.some.inj ((fold_thr hl).symm.trans hE'.hl)
    have h3 : pcP s t ≤ l.length := hF.r.pc ht4 hl
    have hpcz := foldS_pcP (s := s) hp hl h3
    have hk : pcP s t < l.length := by
      rcases Nat.lt_or_ge (pcP s t) l.length with h | h
      · exact h
      · have h1 := hE'.lt
        rw [hpcz, fold_len] at h1
        have := rank_mono (al := foldAl l) h
        omega
    obtain ⟨x, hx⟩ : ∃ x, l[pcP s t]? = some x := ⟨_, List.getElem?_eq_getElem hk⟩
    have hnx : nextI p s t = some x := nextI_at hl hx
    cases ha : (foldAl l).getD (pcP s t) false with
    | true =>
      have hg := fold_get hx ha
      have hyk : y = keepI x (foldAl l) (pcP s t) := by
        have := hE'.hx
        rw [hpcz, hg] at this
        exact (Option.some.inj this).symm
      have hen2 : enabledM p m s t = true := by
        unfold enabledM
        rw [hnx]
        have := hE'.ready
        rw [hyk, ready_off hO (keep_op x _ _) (keep_mode x _ _)] at this
        exact this
      obtain ⟨l2, x2, hE, hn2⟩ := execOf hF.r hlt hen2
      obtain rfl : l = l2 := Option.some.inj (hl.symm.trans hE.hl)
      obtain rfl : x = x2 := Option.some.inj (hnx.symm.trans hn2)
      have hmem : (⟨UInt8.ofNat t, false, 0⟩ : Pss) ∈ movesM p m s := (mem_moves_iff _).2 ⟨t, hlt, .inl ⟨hen2, rfl⟩⟩
      refine ⟨[⟨UInt8.ofNat t, false, 0⟩], _, ⟨hmem, rfl⟩, hF.step hmem, ?_, ?_⟩
      · rw [step_exec hE hn2]; exact reach_exec hE hR
      · rw [step_exec hE hn2, step_exec hE' hn', hyk]
        exact (fold_exec hE hZ ha).2.2.symm
    | false =>
      obtain ⟨h12, hv⟩ := hv_of hp hl
      have h8 := (new_dead (th := cut s (t * 9)) h12 hv hx ha (hR t l hl) rfl (fun _ => ok_at hp hl hx)).1
      have hen2 : enabledM p m s t = true := by
        unfold enabledM
        rw [hnx]
        show readyI x m s t = true
        unfold readyI
        rw [h8]
        rfl
      obtain ⟨l2, x2, hE, hn2⟩ := execOf hF.r hlt hen2
      obtain rfl : l = l2 := Option.some.inj (hl.symm.trans hE.hl)
      obtain rfl : x = x2 := Option.some.inj (hnx.symm.trans hn2)
      have hmem : (⟨UInt8.ofNat t, false, 0⟩ : Pss) ∈ movesM p m s := (mem_moves_iff _).2 ⟨t, hlt, .inl ⟨hen2, rfl⟩⟩
      have hid := (fold_idle hE hR ha).2
      have hst := step_exec hE hn2
      have hpc := hE.pc
      obtain ⟨r, s', h1, h2, h4, h5⟩ := ih (execP m x s t) (by rw [← hst]; exact hF.step hmem) (by rw [hid]; exact hZ) (reach_exec hE hR) (by omega) (by rw [hid]; exact hen)
      refine ⟨⟨UInt8.ofNat t, false, 0⟩ :: r, s', ⟨hmem, by rw [hst]; exact h1⟩, h2, h4, ?_⟩
      rw [h5, hid]
theorem fold_back {s : By} {y : Pss} (hF : Fine p m s) (hZ : RightM (foldPr p) m (foldS p s)) (hR : ReachS p s) (hy : y ∈ movesM (foldPr p) m (foldS p s)) : ∃ r s', RunM p m s r s' ∧ Fine p m s' ∧ ReachS p s' ∧ foldS p s' = stepM (foldPr p) m (foldS p s) y := by
  have hO := foldS_off p s
  have hlen : (foldPr p).threads.length = p.threads.length := List.length_map ..
  obtain ⟨t, ht, h⟩ := (mem_moves_iff _).1 hy
  rw [hlen] at ht
  obtain ⟨l, hl⟩ : ∃ l, p.threads[t]? = some l := ⟨_, List.getElem?_eq_getElem ht⟩
  rcases h with ⟨hen, rfl⟩ | h
  · exact back_exec hl _ s hF hZ hR (Nat.le_refl _) hen
  · have hd := drains_d _ h
    rw [hO.many, hO.drains] at h
    have hmem : y ∈ movesM p m s := (mem_moves_iff _).2 ⟨t, ht, .inr h⟩
    obtain ⟨h1, h2⟩ := fold_drain hF.r hmem hd
    refine ⟨[y], _, ⟨hmem, rfl⟩, hF.step hmem, fun u l hl => ?_, h1⟩
    have hV4 := (valid hF.r.prog).thr4
    rw [h2 u (by have := (List.getElem?_eq_some_iff.1 hl).1; omega)]
    exact hR u l hl
theorem run_back {z : By} : ∀ {r : List Pss} {s : By}, Fine p m s → RightM (foldPr p) m (foldS p s) → ReachS p s → RunM (foldPr p) m (foldS p s) r z → ∃ r' s', RunM p m s r' s' ∧ Fine p m s' ∧ ReachS p s' ∧ foldS p s' = z
  | [], s, hF, _, hR, h => by
    have h : z = foldS p s := h
    exact ⟨[], s, rfl, hF, hR, h.symm⟩
  | y :: r, s, hF, hZ, hR, h => by
    obtain ⟨r1, s1, h1, h2, h3, h4⟩ := fold_back hF hZ hR h.1
    have hZ1 : RightM (foldPr p) m (foldS p s1) := by rw [h4]; exact (went hZ h.1).right
    obtain ⟨r2, s2, h5, h6, h7, h8⟩ := run_back h2 hZ1 h3 (r := r) (by rw [h4]; exact h.2)
    exact ⟨r1 ++ r2, s2, h1.append' h5, h6, h7, h8⟩
theorem run_fore {z : By} : ∀ {r : List Pss} {s : By}, Fine p m s → RightM (foldPr p) m (foldS p s) → ReachS p s → RunM p m s r z → ∃ r', RunM (foldPr p) m (foldS p s) r' (foldS p z) ∧ Fine p m z ∧ RightM (foldPr p) m (foldS p z) ∧ ReachS p z
  | [], s, hF, hZ, hR, h => by
    have h : z = s := h
    subst h
    exact ⟨[], rfl, hF, hZ, hR⟩
  | y :: r, s, hF, hZ, hR, h => by
    obtain ⟨h1, h2⟩ := fold_step hF.r hZ hR h.1
    rcases h2 with h2 | ⟨h2, h3⟩
    · obtain ⟨r', h4, h5⟩ := run_fore (hF.step h.1) (by rw [h2]; exact hZ) h1 h.2
      rw [h2] at h4
      exact ⟨r', h4, h5⟩
    · obtain ⟨r', h4, h5⟩ := run_fore (hF.step h.1) (by rw [← h3]; exact (went hZ h2).right) h1 h.2
      rw [← h3] at h4
      exact ⟨y :: r', ⟨h2, h4⟩, h5⟩
theorem run_still {z : By} : ∀ {r : List Pss} {s : By}, RightM p m s → RightM (foldPr p) m (foldS p s) → ReachS p s → movesM (foldPr p) m (foldS p s) = [] → RunM p m s r z → foldS p z = foldS p s
  | [], s, _, _, _, _, h => by
    have h : z = s := h
    rw [h]
  | y :: r, s, hF, hZ, hR, he, h => by
    obtain ⟨h1, h2⟩ := fold_step hF hZ hR h.1
    rcases h2 with h2 | ⟨h2, _⟩
    · rw [← h2]
      exact run_still (went hF h.1).right (by rw [h2]; exact hZ) h1 (by rw [h2]; exact he) h.2
    · rw [he] at h2; cases h2
theorem fold_begin (hp : rightErr p = 0) : foldS p (startP p) = startP (foldPr p) ∧ ReachS p (startP p) := by
  have hpc : ∀ t, t < 4 → pcP (startP p) t = 0 := fun t ht => by
    unfold pcP
    rw [start_at hp, if_neg (by omega)]; rfl
  refine ⟨?_, fun t l hl => ?_⟩
  · funext i
    have he : startP (foldPr p) i = startP p i := rfl
    by_cases hi : i < 36 ∧ i % 9 = 0
    · obtain ⟨u, hu, rfl⟩ : ∃ u, u < 4 ∧ i = u * 9 := ⟨i / 9, by omega, by omega⟩
      rw [foldS_pc hu, hpc u hu, he, start_at hp, if_neg (by omega)]
      simp [rank]
    · rw [foldS_off p _ i hi, he]
  · rw [hpc t (by have := (List.getElem?_eq_some_iff.1 hl).1; have := (valid hp).thr4; omega)]
    exact .zero
theorem final_off {s z : By} (h : Off s z) : toL 38 (finalP z) = toL 38 (finalP s) := toL_eq.2 (same_iff.2 fun i hi => by
  unfold finalP
  split
  · exact h _ (by omega)
  · exact h _ (by omega))
theorem out_fold {x : List UInt8} (hp : rightErr p = 0) (hm : knownM m = true) : OutM (foldPr p) m x ↔ OutM p m x := by
  obtain ⟨hb, hr0⟩ := fold_begin hp
  have hq := right_fold hp
  have hF := fine_start hp hm
  have hZ : RightM (foldPr p) m (foldS p (startP p)) := by rw [hb]; exact (fine_start hq hm).r
  constructor
  · rintro ⟨r, z, h1, h2, rfl⟩
    rw [← hb] at h1
    obtain ⟨r1, s, h3, h4, h5, rfl⟩ := run_back hF hZ hr0 h1
    obtain ⟨_, _, _, hZs, _⟩ := run_fore hF hZ hr0 h3
    obtain ⟨r2, z2, _, h7, h8⟩ := runM_of_play [] (nu p s) s [] h4.r (Nat.le_refl _)
    have h9 := run_still h4.r hZs h5 h2 h7
    refine ⟨r1 ++ r2, z2, h3.append' h7, h8, ?_⟩
    rw [← h9]
    exact final_off (foldS_off p z2)
  · rintro ⟨r, z, h1, h2, rfl⟩
    obtain ⟨r1, h3, h4, h5, h6⟩ := run_fore hF hZ hr0 h1
    rw [hb] at h3
    refine ⟨r1, _, h3, ?_, (final_off (foldS_off p z)).symm⟩
    cases he : movesM (foldPr p) m (foldS p z) with
    | nil => rfl
    | cons y ys =>
      exfalso
      have hy : y ∈ movesM (foldPr p) m (foldS p z) := by rw [he]; simp
      obtain ⟨r2, s2, h7, _, _, h8⟩ := fold_back h4 h5 h6 hy
      have hn := (went h5 hy).nu
      cases r2 with
      | nil =>
        have h7 : s2 = z := h7
        rw [← h8, h7] at hn
        omega
      | cons y2 r3 =>
        have := h7.1
        rw [h2] at this
        cases this
theorem got_fold (hp : rightErr p = 0) (hm : knownM m = true) (z : By) (h : Got (foldPr p) m z) : ∃ s, Got p m s ∧ foldS p s = z := by
  obtain ⟨hb, hr0⟩ := fold_begin hp
  have hq := right_fold hp
  have hF := fine_start hp hm
  have hZ : RightM (foldPr p) m (foldS p (startP p)) := by rw [hb]; exact (fine_start hq hm).r
  obtain ⟨r, hr⟩ := h.2
  rw [← hb] at hr
  obtain ⟨r1, s, h3, h4, _, h5⟩ := run_back hF hZ hr0 hr
  exact ⟨s, ⟨h4, r1, h3⟩, h5⟩
end
end Go.Proofs.YtbgnapmaimkpkaaGreatDoor
