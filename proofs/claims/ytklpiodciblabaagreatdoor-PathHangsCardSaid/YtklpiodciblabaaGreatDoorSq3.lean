/-
  Plain Lean: the members of a set of bits, and of the pairs of a path; what they point at. Conditions: none.
-/
import Derived.Test.YtklpiodciblabaaGreatDoorPl1
set_option linter.unusedSimpArgs false
set_option linter.unusedVariables false
namespace Go.Proofs.YtklpiodciblabaaGreatDoor
-- SqW
set_option maxRecDepth 100000
/-! ### Bits -/
theorem bit_succ2 (a k : Nat) : (2 * a).testBit (k + 1) = a.testBit k := by rw [Nat.testBit_succ, show 2 * a / 2 = a by omega]
theorem bit_succ1 (a k : Nat) : (2 * a + 1).testBit (k + 1) = a.testBit k := by rw [Nat.testBit_succ, show (2 * a + 1) / 2 = a by omega]
theorem bit_zero2 (a : Nat) : (2 * a).testBit 0 = false := by rw [Nat.testBit_zero]; exact decide_eq_false (by omega)
theorem bit_zero1 (a : Nat) : (2 * a + 1).testBit 0 = true := by rw [Nat.testBit_zero]; exact decide_eq_true (by omega)
theorem tz_bits : ∀ (w n : Nat), 0 < n → n < 2 ^ w → n.testBit (tzF w n) = true ∧ (∀ k, k < tzF w n → n.testBit k = false) ∧ ∀ k, (n &&& (n - 1)).testBit k = (n.testBit k && decide (k ≠ tzF w n))
  | 0, n, h0, h => by simp at h; omega
  | w + 1, n, h0, h => by
    have hp : 2 ^ (w + 1) = 2 * 2 ^ w := by rw [Nat.pow_succ, Nat.mul_comm]
    rw [hp] at h
    unfold tzF
    split
    next ho =>
      obtain ⟨m, rfl⟩ : ∃ m, n = 2 * m + 1 := ⟨n / 2, by omega⟩
      refine ⟨bit_zero1 m, fun k hk => by omega, fun k => ?_⟩
      rw [Nat.testBit_and, show 2 * m + 1 - 1 = 2 * m by omega]
      cases k with
      | zero => rw [bit_zero2, Bool.and_false]; simp
      | succ k => rw [bit_succ1, bit_succ2, Bool.and_self]; simp
    next ho =>
      obtain ⟨m, rfl⟩ : ∃ m, n = 2 * m := ⟨n / 2, by omega⟩
      obtain ⟨i1, i2, i3⟩ := tz_bits w m (by omega) (by omega)
      rw [show 2 * m / 2 = m by omega]
      refine ⟨by rw [bit_succ2]; exact i1, fun k hk => ?_, fun k => ?_⟩
      · cases k with
        | zero => exact bit_zero2 m
        | succ k => rw [bit_succ2]; exact i2 k (by omega)
      · rw [show 2 * m - 1 = 2 * (m - 1) + 1 by omega, Nat.testBit_and]
        cases k with
        | zero => rw [bit_zero2, Bool.false_and, Bool.false_and]
        | succ k =>
          rw [bit_succ2, bit_succ1, ← Nat.testBit_and, i3 k]
          have e : decide (k ≠ tzF w m) = decide (k + 1 ≠ tzF w m + 1) := decide_eq_decide.2 (by omega)
          rw [e]
theorem bits_mem : ∀ (n : Nat), n < 4294967296 → (∀ k, k ∈ bitsL n ↔ n.testBit k = true) ∧ (bitsL n).Pairwise (· < ·) := by
  intro n
  induction n using Nat.strongRecOn with
  | _ n ih =>
    intro hn
    rcases Nat.eq_zero_or_pos n with h0 | h0
    · subst h0
      rw [bits_zero]
      exact ⟨fun k => by rw [Nat.zero_testBit]; simp, .nil⟩
    · have h1 := and_pred n
      obtain ⟨t1, t2, t3⟩ := tz_bits 32 n h0 hn
      obtain ⟨m1, m2⟩ := ih (n &&& (n - 1)) (by omega) (by omega)
      rw [bits_pos h0]
      refine ⟨fun k => ?_, List.pairwise_cons.2 ⟨fun k hk => ?_, m2⟩⟩
      · rw [List.mem_cons, m1 k, t3 k, Bool.and_eq_true, decide_eq_true_eq]
        constructor
        · rintro (rfl | h)
          · exact t1
          · exact h.1
        · intro h
          by_cases e : k = tzN n
          · exact .inl e
          · exact .inr ⟨h, e⟩
      · have hk := (m1 k).1 hk
        rw [t3 k, Bool.and_eq_true, decide_eq_true_eq] at hk
        rcases Nat.lt_trichotomy k (tzN n) with h | h | h
        · rw [t2 k h] at hk; exact absurd hk.1 Bool.noConfusion
        · exact absurd h hk.2
        · exact h
theorem mem_pairs {f : Nat → Nat} (hf : ∀ k, f k < 4294967296) {x : Pr} : ∀ n, x ∈ pairsP f n ↔ ∃ i k, i < n ∧ (f i).testBit k = true ∧ x = pairOf i k
  | 0 => by
    constructor
    · intro h; exact absurd h (List.not_mem_nil)
    · rintro ⟨i, k, h, _⟩; omega
  | n + 1 => by
    unfold pairsP
    rw [List.mem_append, mem_pairs hf n]
    unfold rowP
    constructor
    · rintro (⟨i, k, h1, h2, h3⟩ | h)
      · exact ⟨i, k, by omega, h2, h3⟩
      · obtain ⟨k, hk, rfl⟩ := List.mem_map.1 h
        exact ⟨n, k, by omega, ((bits_mem (f n) (hf n)).1 k).1 hk, rfl⟩
    · rintro ⟨i, k, h1, h2, rfl⟩
      by_cases e : i = n
      · subst e
        exact .inr (List.mem_map.2 ⟨k, ((bits_mem (f i) (hf i)).1 k).2 h2, rfl⟩)
      · exact .inl ⟨i, k, by omega, h2, rfl⟩
def PrLt (a b : Pr) : Prop := a.2.toNat < b.2.toNat ∨ a.2 = b.2 ∧ a.1.toNat < b.1.toNat
theorem ofN {i : Nat} (h : i < 256) : (UInt8.ofNat i).toNat = i := by rw [UInt8.toNat_ofNat']; omega
theorem pairs_order {f : Nat → Nat} (hf : ∀ k, f k < 4294967296) (hb : ∀ i k, (f i).testBit k = true → k < 256) : ∀ n, n ≤ 256 → (pairsP f n).Pairwise PrLt
  | 0, _ => .nil
  | n + 1, hn => by
    unfold pairsP
    refine List.pairwise_append.2 ⟨pairs_order hf hb n (by omega), ?_, fun a ha b hbm => ?_⟩
    · unfold rowP
      rw [List.pairwise_map]
      refine List.Pairwise.imp_of_mem (fun {a b} ha hb2 hab => ?_) (bits_mem (f n) (hf n)).2
      have h1 := hb n a (((bits_mem (f n) (hf n)).1 a).1 ha)
      have h2 := hb n b (((bits_mem (f n) (hf n)).1 b).1 hb2)
      refine .inr ⟨rfl, ?_⟩
      show (UInt8.ofNat a).toNat < (UInt8.ofNat b).toNat
      rw [ofN h1, ofN h2]; exact hab
    · obtain ⟨i, k, hi, _, rfl⟩ := (mem_pairs hf n).1 ha
      unfold rowP at hbm
      obtain ⟨k2, _, rfl⟩ := List.mem_map.1 hbm
      refine .inl ?_
      show (UInt8.ofNat i).toNat < (UInt8.ofNat n).toNat
      rw [ofN (by omega), ofN (by omega)]; exact hi
/-! ### What the sets of a run point at -/
def Rd (r : RunP) (k : Nat) : Prop := k < r.many ∧ (r.ev k).kind = 1
structure InvH (r : RunP) : Prop where
  pos : ∀ i, i < r.many → (r.ev i).pos = UInt8.ofNat i
  deps : ∀ d k, (r.deps d).testBit k = true → Rd r k
  control : ∀ k, r.control.testBit k = true → Rd r k
  data : ∀ i, i < r.many → ∀ k, (r.data i).testBit k = true → k < i ∧ (r.ev k).kind = 1 ∧ (r.ev i).kind = 2
  ctrl : ∀ i, i < r.many → ∀ k, (r.ctrl i).testBit k = true → k < i ∧ (r.ev k).kind = 1
  att : ∀ i k, (r.att i).testBit k = true → i < r.many ∧ k < i ∧ (r.ev k).kind = 1 ∧ (r.ev i).kind = 2 ∧ (r.ev k).loc = (r.ev i).loc
theorem put_at {α : Type} (f : Nat → α) (j : Nat) (v : α) : putN f j v j = v := by unfold putN; rw [if_pos rfl]
theorem put_ne {α : Type} {f : Nat → α} {i j : Nat} {v : α} (h : i ≠ j) : putN f j v i = f i := by unfold putN; rw [if_neg h]
theorem no_bit {k : Nat} (h : (0 : Nat).testBit k = true) : False := by rw [Nat.zero_testBit] at h; cases h
theorem bit_of {m k : Nat} (h : (bitN m).testBit k = true) : k = m := by
  unfold bitN at h
  rw [Nat.testBit_two_pow] at h
  exact (of_decide_eq_true h).symm
theorem bit_self (m : Nat) : (bitN m).testBit m = true := by unfold bitN; rw [Nat.testBit_two_pow]; exact decide_eq_true rfl
theorem bit_or {a b k : Nat} (h : (a ||| b).testBit k = true) : a.testBit k = true ∨ b.testBit k = true := by
  rw [Nat.testBit_or, Bool.or_eq_true] at h; exact h
theorem or_bit {a b k : Nat} (h : (a ||| b).testBit k = false) : a.testBit k = false ∧ b.testBit k = false := by
  rw [Nat.testBit_or, Bool.or_eq_false_iff] at h; exact h
theorem invH_zero : InvH zRun := ⟨fun i h => absurd h (Nat.not_lt_zero i), fun _ _ h => (no_bit h).elim, fun _ h => (no_bit h).elim, fun i h => absurd h (Nat.not_lt_zero i), fun i h => absurd h (Nat.not_lt_zero i), fun _ _ h => (no_bit h).elim⟩
theorem InvH.arg {r : RunP} (h : InvH r) {b : Bool} {n : UInt8} {k : Nat} (hk : (argD b n r).testBit k = true) : Rd r k := by
  unfold argD at hk
  cases b with
  | true => exact h.deps _ _ hk
  | false => exact (no_bit hk).elim
theorem InvH.set {r : RunP} (h : InvH r) (d v : UInt8) {n : Nat} (hn : ∀ k, n.testBit k = true → Rd r k) : InvH (setP d v n r) :=
  ⟨h.pos, fun e k hk => by
    have hk : (putN r.deps d.toNat n e).testBit k = true := hk
    by_cases he : e = d.toNat
    · rw [he, put_at] at hk; exact hn k hk
    · rw [put_ne he] at hk; exact h.deps e k hk, h.control, h.data, h.ctrl, h.att⟩
theorem InvH.pc {r : RunP} (h : InvH r) (n : Nat) : InvH (r.wPc n) := ⟨h.pos, h.deps, h.control, h.data, h.ctrl, h.att⟩
theorem InvH.ctl {r : RunP} (h : InvH r) {n : Nat} (hn : ∀ k, n.testBit k = true → Rd r k) : InvH (r.wControl n) := ⟨h.pos, h.deps, hn, h.data, h.ctrl, h.att⟩
theorem InvH.dat {r : RunP} (h : InvH r) {i n : Nat} (hn : ∀ k, n.testBit k = true → k < i ∧ (r.ev k).kind = 1 ∧ (r.ev i).kind = 2) : InvH (r.wData i n) :=
  ⟨h.pos, h.deps, h.control, fun j hj k hk => by
    have hk : (putN r.data i n j).testBit k = true := hk
    by_cases e : j = i
    · subst e; rw [put_at] at hk; exact hn k hk
    · rw [put_ne e] at hk; exact h.data j hj k hk, h.ctrl, h.att⟩
theorem InvH.ctr {r : RunP} (h : InvH r) {i n : Nat} (hn : ∀ k, n.testBit k = true → k < i ∧ (r.ev k).kind = 1) : InvH (r.wCtrl i n) :=
  ⟨h.pos, h.deps, h.control, h.data, fun j hj k hk => by
    have hk : (putN r.ctrl i n j).testBit k = true := hk
    by_cases e : j = i
    · subst e; rw [put_at] at hk; exact hn k hk
    · rw [put_ne e] at hk; exact h.ctrl j hj k hk, h.att⟩
theorem InvH.emit {r : RunP} (h : InvH r) (kind loc val mode : UInt8) {n : Nat} (hn : ∀ k, n.testBit k = true → Rd r k ∧ kind = 2) : InvH (emitP kind loc val mode n r) := by
  have hev : ∀ k, k < r.many → (emitP kind loc val mode n r).ev k = r.ev k := fun k hk => put_ne (by omega)
  have hem : (emitP kind loc val mode n r).ev r.many = ⟨kind, loc, val, mode, UInt8.ofNat r.pc, UInt8.ofNat r.many⟩ := put_at _ _ _
  have hrd : ∀ k, Rd r k → Rd (emitP kind loc val mode n r) k := fun k hk => ⟨Nat.lt_succ_of_lt hk.1, by rw [hev k hk.1]; exact hk.2⟩
  refine ⟨fun i hi => ?_, fun d k hk => hrd k (h.deps d k hk), fun k hk => hrd k (h.control k hk), fun i hi k hk => ?_, fun i hi k hk => ?_, fun i k hk => ?_⟩
  · have hi : i < r.many + 1 := hi
    by_cases e : i = r.many
    · rw [e, hem]
    · rw [hev i (by omega)]; exact h.pos i (by omega)
  · have hi : i < r.many + 1 := hi
    have hk : (putN r.data r.many n i).testBit k = true := hk
    by_cases e : i = r.many
    · subst e
      rw [put_at] at hk
      obtain ⟨h1, h2⟩ := hn k hk
      rw [hev k h1.1, hem]
      exact ⟨h1.1, h1.2, h2⟩
    · rw [put_ne e] at hk
      obtain ⟨h1, h2, h3⟩ := h.data i (by omega) k hk
      rw [hev k (by omega), hev i (by omega)]
      exact ⟨h1, h2, h3⟩
  · have hi : i < r.many + 1 := hi
    have hk : (putN r.ctrl r.many r.control i).testBit k = true := hk
    by_cases e : i = r.many
    · subst e
      rw [put_at] at hk
      have h1 := h.control k hk
      rw [hev k h1.1]
      exact ⟨h1.1, h1.2⟩
    · rw [put_ne e] at hk
      obtain ⟨h1, h2⟩ := h.ctrl i (by omega) k hk
      rw [hev k (by omega)]
      exact ⟨h1, h2⟩
  · obtain ⟨h1, h2, h3⟩ := h.att i k hk
    rw [hev k (by omega), hev i h1]
    exact ⟨Nat.lt_succ_of_lt h1, h2, h3⟩
theorem InvH.exch {r : RunP} (h : InvH r) (x : Ins) (old val : UInt8) {n : Nat} (hn : ∀ k, n.testBit k = true → Rd r k) : InvH (exchE x old val n r) := by
  have h1 := h.emit 1 x.loc old 3 (n := 0) fun k hk => (no_bit hk).elim
  have e1 : (emitP 1 x.loc old 3 0 r).ev r.many = ⟨1, x.loc, old, 3, UInt8.ofNat r.pc, UInt8.ofNat r.many⟩ := put_at _ _ _
  have hrd : ∀ k, Rd r k → Rd (emitP 1 x.loc old 3 0 r) k := fun k hk => ⟨Nat.lt_succ_of_lt hk.1, by rw [show (emitP 1 x.loc old 3 0 r).ev k = r.ev k from put_ne (by have := hk.1; omega)]; exact hk.2⟩
  have h2 := h1.emit 2 x.loc val 3 (n := n) fun k hk => ⟨hrd k (hn k hk), rfl⟩
  have e2 : (emitP 2 x.loc val 3 n (emitP 1 x.loc old 3 0 r)).ev r.many = ⟨1, x.loc, old, 3, UInt8.ofNat r.pc, UInt8.ofNat r.many⟩ := (put_ne (show r.many ≠ r.many + 1 by omega)).trans e1
  have e3 : (emitP 2 x.loc val 3 n (emitP 1 x.loc old 3 0 r)).ev (r.many + 1) = ⟨2, x.loc, val, 3, UInt8.ofNat r.pc, UInt8.ofNat (r.many + 1)⟩ := put_at _ _ _
  have h3 : InvH ((emitP 2 x.loc val 3 n (emitP 1 x.loc old 3 0 r)).wAtt (r.many + 1) (bitN r.many)) := ⟨h2.pos, h2.deps, h2.control, h2.data, h2.ctrl, fun i k hk => by
    have hk : (putN (emitP 2 x.loc val 3 n (emitP 1 x.loc old 3 0 r)).att (r.many + 1) (bitN r.many) i).testBit k = true := hk
    show i < r.many + 1 + 1 ∧ _
    by_cases e : i = r.many + 1
    · subst e
      rw [put_at] at hk
      obtain rfl := bit_of hk
      refine ⟨by omega, by omega, ?_⟩
      show ((emitP 2 x.loc val 3 n (emitP 1 x.loc old 3 0 r)).ev r.many).kind = 1 ∧ ((emitP 2 x.loc val 3 n (emitP 1 x.loc old 3 0 r)).ev (r.many + 1)).kind = 2 ∧ ((emitP 2 x.loc val 3 n (emitP 1 x.loc old 3 0 r)).ev r.many).loc = ((emitP 2 x.loc val 3 n (emitP 1 x.loc old 3 0 r)).ev (r.many + 1)).loc
      rw [e2, e3]
      exact ⟨rfl, rfl, rfl⟩
    · rw [put_ne e] at hk
      exact h2.att i k hk⟩
  refine h3.set _ _ fun k hk => ?_
  obtain rfl := bit_of hk
  refine ⟨show r.many < r.many + 1 + 1 by omega, ?_⟩
  show ((emitP 2 x.loc val 3 n (emitP 1 x.loc old 3 0 r)).ev r.many).kind = 1
  rw [e2]
theorem exch_ev1 (x : Ins) (old val : UInt8) (n : Nat) (r : RunP) : (exchE x old val n r).ev r.many = ⟨1, x.loc, old, 3, UInt8.ofNat r.pc, UInt8.ofNat r.many⟩ := (put_ne (show r.many ≠ r.many + 1 by omega)).trans (put_at _ _ _)
theorem exch_ev2 (x : Ins) (old val : UInt8) (n : Nat) (r : RunP) : (exchE x old val n r).ev (r.many + 1) = ⟨2, x.loc, val, 3, UInt8.ofNat r.pc, UInt8.ofNat (r.many + 1)⟩ := put_at _ _ _
theorem exch_ev0 (x : Ins) (old val : UInt8) (n : Nat) (r : RunP) {k : Nat} (h : k < r.many) : (exchE x old val n r).ev k = r.ev k := (put_ne (show k ≠ r.many + 1 by omega)).trans (put_ne (show k ≠ r.many by omega))
theorem eff_cases {M : RunP → Prop} (x : Ins) (v : UInt8) (r : RunP) (h1 : x.op = 1 → M (loadE x v r)) (h2 : x.op = 2 → M (storeE x r)) (h3 : x.op = 3 → M (moveE' x r)) (h4 : x.op = 4 → M (swapE x v r)) (h5 : x.op = 5 → M (fetchE x v r)) (h6 : x.op = 6 → M (casE x v r)) (h7 : x.op = 7 → M (fenceE x r))
    (h8 : x.op ≠ 1 ∧ x.op ≠ 2 ∧ x.op ≠ 3 ∧ x.op ≠ 4 ∧ x.op ≠ 5 ∧ x.op ≠ 6 ∧ x.op ≠ 7 → M (skipE x r)) : M (effE x v r) := by
  unfold effE
  by_cases e1 : x.op = 1
  · rw [if_pos e1]; exact h1 e1
  rw [if_neg e1]
  by_cases e2 : x.op = 2
  · rw [if_pos e2]; exact h2 e2
  rw [if_neg e2]
  by_cases e3 : x.op = 3
  · rw [if_pos e3]; exact h3 e3
  rw [if_neg e3]
  by_cases e4 : x.op = 4
  · rw [if_pos e4]; exact h4 e4
  rw [if_neg e4]
  by_cases e5 : x.op = 5
  · rw [if_pos e5]; exact h5 e5
  rw [if_neg e5]
  by_cases e6 : x.op = 6
  · rw [if_pos e6]; exact h6 e6
  rw [if_neg e6]
  by_cases e7 : x.op = 7
  · rw [if_pos e7]; exact h7 e7
  rw [if_neg e7]
  exact h8 ⟨e1, e2, e3, e4, e5, e6, e7⟩
theorem InvH.load {r : RunP} (h : InvH r) (d loc v mode : UInt8) : InvH (setP d v (bitN r.many) (emitP 1 loc v mode 0 r)) := by
  refine (h.emit 1 loc v mode (n := 0) fun k hk => (no_bit hk).elim).set _ _ fun k hk => ?_
  obtain rfl := bit_of hk
  refine ⟨Nat.lt_succ_self _, ?_⟩
  rw [show (emitP 1 loc v mode 0 r).ev r.many = ⟨1, loc, v, mode, UInt8.ofNat r.pc, UInt8.ofNat r.many⟩ from put_at _ _ _]
theorem InvH.exec {r : RunP} (h : InvH r) (x : Ins) (v : UInt8) : InvH (execE x v r) := by
  refine InvH.pc ?_ _
  refine eff_cases x v r (fun _ => ?_) (fun _ => ?_) (fun _ => ?_) (fun _ => ?_) (fun _ => ?_) (fun _ => ?_) (fun _ => ?_) (fun _ => ?_)
  · exact h.load _ _ _ _
  · exact h.emit _ _ _ _ fun k hk => ⟨h.arg hk, rfl⟩
  · refine h.set _ _ fun k hk => ?_
    rcases bit_or hk with hk | hk
    · exact h.arg hk
    · exact h.arg hk
  · exact h.exch _ _ _ fun k hk => h.arg hk
  · have h1 := h.exch x v (v + argV x.aR x.aN r) (n := argD x.aR x.aN r) fun k hk => h.arg hk
    refine h1.dat fun k hk => ?_
    rcases bit_or hk with hk | hk
    · exact h1.data _ (show r.many + 1 < r.many + 1 + 1 by omega) k hk
    · obtain ⟨_, a1, a2, a3, _⟩ := h1.att _ _ hk
      exact ⟨a1, a2, a3⟩
  · unfold casE
    split
    · exact h.load _ _ _ _
    · have h1 := h.exch x v (argV x.bR x.bN r) (n := argD x.bR x.bN r) fun k hk => h.arg hk
      refine h1.ctr fun k hk => ?_
      rcases bit_or hk with hk | hk
      · exact h1.ctrl _ (show r.many + 1 < r.many + 1 + 1 by omega) k hk
      · rcases bit_or hk with hk | hk
        · obtain ⟨_, a1, a2, _⟩ := h1.att _ _ hk
          exact ⟨a1, a2⟩
        · have hr := h.arg hk
          rw [exch_ev0 _ _ _ _ _ hr.1]
          exact ⟨by have := hr.1; omega, hr.2⟩
  · exact h.emit _ _ _ _ fun k hk => (no_bit hk).elim
  · unfold skipE
    have hc : InvH (r.wControl (r.control ||| (argD x.aR x.aN r ||| argD x.bR x.bN r))) := h.ctl fun k hk => by
      rcases bit_or hk with hk | hk
      · exact h.control k hk
      · rcases bit_or hk with hk | hk
        · exact h.arg hk
        · exact h.arg hk
    split
    · exact hc.pc _
    · exact hc
theorem Path8.invH {l : List Ins} {r z : RunP} {vs : List UInt8} (h : Path8 l r vs z) : InvH r → InvH z := by
  induction h with
  | stop hx => exact id
  | read hx hr _ ih => intro hi; exact ih (hi.exec _ _)
  | pass hx hr _ ih => intro hi; exact ih (hi.exec _ _)
structure PairOk (j : Nat) (evs : List Ev) (x : Pr) : Prop where
  hi : x.2.toNat < evs.length
  lt : x.1.toNat < x.2.toNat
  rd : ∀ e, evs[x.1.toNat]? = some e → e.kind = 1
  wr : j ≠ 1 → ∀ e, evs[x.2.toNat]? = some e → e.kind = 2
  lc : j = 2 → ∀ e e', evs[x.1.toNat]? = some e → evs[x.2.toNat]? = some e' → e.loc = e'.loc
theorem evs_at {r : RunP} {i : Nat} {e : Ev} (h : (evsP r)[i]? = some e) : i < r.many ∧ e = r.ev i := by
  unfold evsP at h
  rw [List.getElem?_map] at h
  rcases Nat.lt_or_ge i r.many with hi | hi
  · rw [List.getElem?_range hi] at h
    exact ⟨hi, (Option.some.inj h).symm⟩
  · rw [List.getElem?_eq_none (by rw [List.length_range]; exact hi)] at h; cases h
structure PairsOk (j : Nat) (evs : List Ev) (l : List Pr) : Prop where
  mem : ∀ x ∈ l, PairOk j evs x
  ord : l.Pairwise PrLt
theorem pairs_ok {r : RunP} {f : Nat → Nat} {j : Nat} (hm : r.many ≤ 24) (hf : ∀ k, f k < 4294967296) (h : ∀ i, i < r.many → ∀ k, (f i).testBit k = true → k < i ∧ (r.ev k).kind = 1 ∧ (j ≠ 1 → (r.ev i).kind = 2) ∧ (j = 2 → (r.ev k).loc = (r.ev i).loc)) : PairsOk j (evsP r) (pairsP f r.many) := by
  refine ⟨fun x hx => ?_, pairs_order hf (fun i k hk => ?_) _ (by omega)⟩
  · obtain ⟨i, k, hi, hk, rfl⟩ := (mem_pairs hf _).1 hx
    obtain ⟨h1, h2, h3, h4⟩ := h i hi k hk
    have e1 : (pairOf i k).1.toNat = k := ofN (by omega)
    have e2 : (pairOf i k).2.toNat = i := ofN (by omega)
    refine ⟨by rw [e2, evs_len]; exact hi, by rw [e1, e2]; exact h1, fun e he => ?_, fun hj e he => ?_, fun hj e e' he he' => ?_⟩
    · rw [e1] at he; rw [(evs_at he).2]; exact h2
    · rw [e2] at he; rw [(evs_at he).2]; exact h3 hj
    · rw [e1] at he; rw [e2] at he'; rw [(evs_at he).2, (evs_at he').2]; exact h4 hj
  · rcases Nat.lt_or_ge k 256 with h | h
    · exact h
    · have : (f i).testBit k = false := Nat.testBit_lt_two_pow (Nat.lt_of_lt_of_le (hf i) (show 2 ^ 32 ≤ 2 ^ k from Nat.pow_le_pow_right (by decide) (by omega)))
      rw [this] at hk; cases hk
theorem InvH.pairs {r : RunP} (h : InvH r) (hm : r.many ≤ 24) (hs : SetsOk r) : PairsOk 0 (runPath r).evs (runPath r).data ∧ PairsOk 1 (runPath r).evs (runPath r).ctrl ∧ PairsOk 2 (runPath r).evs (runPath r).rmw := by
  refine ⟨pairs_ok hm hs.data fun i hi k hk => ?_, pairs_ok hm hs.ctrl fun i hi k hk => ?_, pairs_ok hm hs.att fun i hi k hk => ?_⟩
  · obtain ⟨h1, h2, h3⟩ := h.data i hi k hk
    exact ⟨h1, h2, fun _ => h3, fun e => by cases e⟩
  · obtain ⟨h1, h2⟩ := h.ctrl i hi k hk
    exact ⟨h1, h2, fun e => absurd rfl e, fun e => by cases e⟩
  · obtain ⟨_, h1, h2, h3, h4⟩ := h.att i k hk
    exact ⟨h1, h2, fun _ => h3, fun _ => h4⟩
theorem PairsOk.at {j : Nat} {evs : List Ev} {l : List Pr} (h : PairsOk j evs l) {i : Nat} {x : Pr} (hx : l[i]? = some x) : PairOk j evs x := h.mem x (List.mem_of_getElem? hx)
theorem PairsOk.next {j : Nat} {evs : List Ev} {l : List Pr} (h : PairsOk j evs l) {i : Nat} {a b : Pr} (ha : l[i - 1]? = some a) (hb : l[i]? = some b) (hi : 0 < i) : PrLt a b := by
  obtain ⟨h1, rfl⟩ := List.getElem?_eq_some_iff.1 ha
  obtain ⟨h2, rfl⟩ := List.getElem?_eq_some_iff.1 hb
  exact List.pairwise_iff_getElem.1 h.ord _ _ h1 h2 (by omega)
-- SqX
set_option maxRecDepth 100000
def SameW (e e' : Ev) : Prop := e'.kind = 2 ∧ e'.ins = e.ins ∧ e'.loc = e.loc ∧ e'.val = e.val ∧ e'.mode = e.mode
def Met (m : Nat) (r : RunP) (E : List Ev) : Prop := ∀ i, i < r.many → (r.ev i).kind = 2 → (r.data i).testBit m = false → (r.ctrl i).testBit m = false → ∃ e ∈ E, SameW (r.ev i) e
structure Sync (m : Nat) (rp rq : RunP) : Prop where
  regs : ∀ d, (rp.deps d).testBit m = false → rp.regs d = rq.regs d
  ctl : rp.control.testBit m = false
  pc : rp.pc = rq.pc
theorem Met.more {m : Nat} {r : RunP} {E F : List Ev} (h : Met m r E) : Met m r (E ++ F) := fun i h1 h2 h3 h4 => by
  obtain ⟨e, he, hs⟩ := h i h1 h2 h3 h4
  exact ⟨e, List.mem_append_left _ he, hs⟩
theorem Sync.arg {m : Nat} {rp rq : RunP} (h : Sync m rp rq) {b : Bool} {n : UInt8} (hd : (argD b n rp).testBit m = false) : argV b n rp = argV b n rq := by
  unfold argD at hd
  unfold argV
  cases b with
  | true => exact h.regs _ hd
  | false => rfl
structure Step8 (r y : RunP) (W : Nat → Prop) : Prop where
  many : r.many ≤ y.many
  ev : ∀ i, i < r.many → y.ev i = r.ev i
  data : ∀ i, i < r.many → y.data i = r.data i
  ctrl : ∀ i, i < r.many → y.ctrl i = r.ctrl i
  new : ∀ i, r.many ≤ i → i < y.many → W i
theorem Step8.imp {r y : RunP} {W W' : Nat → Prop} (h : Step8 r y W) (f : ∀ i, r.many ≤ i → i < y.many → W i → W' i) : Step8 r y W' := ⟨h.many, h.ev, h.data, h.ctrl, fun i h1 h2 => f i h1 h2 (h.new i h1 h2)⟩
theorem Step8.pc {r y : RunP} {W : Nat → Prop} (h : Step8 r y W) (n : Nat) : Step8 r (y.wPc n) W := ⟨h.many, h.ev, h.data, h.ctrl, h.new⟩
theorem Step8.refl (r : RunP) : Step8 r r (fun _ => False) := ⟨Nat.le_refl _, fun _ _ => rfl, fun _ _ => rfl, fun _ _ => rfl, fun i h1 h2 => absurd h2 (Nat.not_lt.2 h1)⟩
theorem Step8.emit {r y : RunP} {W : Nat → Prop} (h : Step8 r y W) (kind loc val mode : UInt8) (n : Nat) : Step8 r (emitP kind loc val mode n y) (fun i => W i ∨ i = y.many) := by
  have hm := h.many
  refine ⟨Nat.le_succ_of_le hm, fun i hi => (put_ne (by omega)).trans (h.ev i hi), fun i hi => (put_ne (by omega)).trans (h.data i hi), fun i hi => (put_ne (by omega)).trans (h.ctrl i hi), fun i h1 h2 => ?_⟩
  have h2 : i < y.many + 1 := h2
  rcases Nat.lt_or_ge i y.many with h3 | h3
  · exact .inl (h.new i h1 h3)
  · exact .inr (by omega)
theorem Step8.set {r y : RunP} {W : Nat → Prop} (h : Step8 r y W) (d v : UInt8) (n : Nat) : Step8 r (setP d v n y) W := ⟨h.many, h.ev, h.data, h.ctrl, h.new⟩
theorem Step8.wAt {r y : RunP} {W : Nat → Prop} (h : Step8 r y W) (k n : Nat) : Step8 r (y.wAtt k n) W := ⟨h.many, h.ev, h.data, h.ctrl, h.new⟩
theorem Step8.wCo {r y : RunP} {W : Nat → Prop} (h : Step8 r y W) (n : Nat) : Step8 r (y.wControl n) W := ⟨h.many, h.ev, h.data, h.ctrl, h.new⟩
theorem Step8.wDa {r y : RunP} {W : Nat → Prop} (h : Step8 r y W) {k : Nat} (hk : r.many ≤ k) (n : Nat) : Step8 r (y.wData k n) W := ⟨h.many, h.ev, fun i hi => (put_ne (by omega)).trans (h.data i hi), h.ctrl, h.new⟩
theorem Step8.wCt {r y : RunP} {W : Nat → Prop} (h : Step8 r y W) {k : Nat} (hk : r.many ≤ k) (n : Nat) : Step8 r (y.wCtrl k n) W := ⟨h.many, h.ev, h.data, fun i hi => (put_ne (by omega)).trans (h.ctrl i hi), h.new⟩
def One8 (r : RunP) (i : Nat) : Prop := i = r.many
def Two8 (r : RunP) (i : Nat) : Prop := i = r.many ∨ i = r.many + 1
theorem step_emit (kind loc val mode : UInt8) (n : Nat) (r : RunP) : Step8 r (emitP kind loc val mode n r) (One8 r) := ((Step8.refl r).emit kind loc val mode n).imp fun i _ _ h => h.resolve_left id
theorem step_exch (x : Ins) (old val : UInt8) (n : Nat) (r : RunP) : Step8 r (exchE x old val n r) (Two8 r) := by
  unfold exchE
  refine Step8.set (Step8.wAt ((((Step8.refl r).emit 1 x.loc old 3 0).emit 2 x.loc val 3 n).imp fun i _ _ h => ?_) _ _) _ _ _
  rw [emit_many] at h
  rcases h with (h | h) | h
  · exact h.elim
  · exact .inl h
  · exact .inr h
theorem step_load (x : Ins) (v : UInt8) (r : RunP) : Step8 r (loadE x v r) (One8 r) := by unfold loadE; exact (step_emit _ _ _ _ _ r).set _ _ _
theorem step_store (x : Ins) (r : RunP) : Step8 r (storeE x r) (One8 r) := by unfold storeE; exact step_emit _ _ _ _ _ r
theorem step_move (x : Ins) (r : RunP) : Step8 r (moveE' x r) (fun _ => False) := by unfold moveE'; exact (Step8.refl r).set _ _ _
theorem step_swap (x : Ins) (v : UInt8) (r : RunP) : Step8 r (swapE x v r) (Two8 r) := by unfold swapE; exact step_exch _ _ _ _ r
theorem step_fetch (x : Ins) (v : UInt8) (r : RunP) : Step8 r (fetchE x v r) (Two8 r) := by unfold fetchE; exact (step_exch _ _ _ _ r).wDa (Nat.le_succ _) _
theorem step_fence (x : Ins) (r : RunP) : Step8 r (fenceE x r) (One8 r) := by unfold fenceE; exact step_emit _ _ _ _ _ r
theorem step_skip (x : Ins) (r : RunP) : Step8 r (skipE x r) (fun _ => False) := by
  unfold skipE
  split
  · exact ((Step8.refl r).wCo _).pc _
  · exact (Step8.refl r).wCo _
theorem exch_dat2 (x : Ins) (old val : UInt8) (n : Nat) (r : RunP) : (exchE x old val n r).data (r.many + 1) = n := put_at _ _ _
theorem exch_ctrl2 (x : Ins) (old val : UInt8) (n : Nat) (r : RunP) : (exchE x old val n r).ctrl (r.many + 1) = r.control := put_at _ _ _
theorem exch_ctrl1 (x : Ins) (old val : UInt8) (n : Nat) (r : RunP) : (exchE x old val n r).ctrl r.many = r.control := (put_ne (show r.many ≠ r.many + 1 by omega)).trans (put_at _ _ _)
theorem exch_att2 (x : Ins) (old val : UInt8) (n : Nat) (r : RunP) : (exchE x old val n r).att (r.many + 1) = bitN r.many := put_at _ _ _
def casS (x : Ins) (v : UInt8) (r : RunP) : RunP := (exchE x v (argV x.bR x.bN r) (argD x.bR x.bN r) r).wCtrl (r.many + 1) ((exchE x v (argV x.bR x.bN r) (argD x.bR x.bN r) r).ctrl (r.many + 1) ||| ((exchE x v (argV x.bR x.bN r) (argD x.bR x.bN r) r).att (r.many + 1) ||| argD x.aR x.aN r))
def casF (x : Ins) (v : UInt8) (r : RunP) : RunP := setP x.dst v (bitN r.many) (emitP 1 x.loc v 3 0 r)
theorem cas_T {x : Ins} {v : UInt8} {r : RunP} (h : v = argV x.aR x.aN r) : casE x v r = casS x v r := by unfold casE casS; rw [if_neg (fun e => e h)]
theorem cas_F {x : Ins} {v : UInt8} {r : RunP} (h : v ≠ argV x.aR x.aN r) : casE x v r = casF x v r := by unfold casE casF; rw [if_pos h]
theorem step_casS (x : Ins) (v : UInt8) (r : RunP) : Step8 r (casS x v r) (Two8 r) := by unfold casS; exact (step_exch _ _ _ _ r).wCt (Nat.le_succ _) _
theorem step_casF (x : Ins) (v : UInt8) (r : RunP) : Step8 r (casF x v r) (One8 r) := by unfold casF; exact (step_emit _ _ _ _ _ r).set _ _ _
theorem emit_ev (kind loc val mode : UInt8) (n : Nat) (r : RunP) : (emitP kind loc val mode n r).ev r.many = ⟨kind, loc, val, mode, UInt8.ofNat r.pc, UInt8.ofNat r.many⟩ := put_at _ _ _
theorem emit_dat (kind loc val mode : UInt8) (n : Nat) (r : RunP) : (emitP kind loc val mode n r).data r.many = n := put_at _ _ _
theorem emit_ctr (kind loc val mode : UInt8) (n : Nat) (r : RunP) : (emitP kind loc val mode n r).ctrl r.many = r.control := put_at _ _ _
theorem one_two {P : Prop} (h : (1 : UInt8) = 2) : P := absurd h (by decide)
def Like8 (m : Nat) (y : RunP) (E : List Ev) (i : Nat) : Prop := (y.ev i).kind = 2 → (y.data i).testBit m = false → (y.ctrl i).testBit m = false → ∃ e ∈ E, SameW (y.ev i) e
theorem like_load (m : Nat) (x : Ins) (v : UInt8) (r : RunP) (E : List Ev) : Like8 m (loadE x v r) E r.many := fun hk _ _ => by
  have e : (loadE x v r).ev r.many = ⟨1, x.loc, v, x.mode, UInt8.ofNat r.pc, UInt8.ofNat r.many⟩ := emit_ev 1 x.loc v x.mode 0 r
  rw [e] at hk; exact one_two hk
theorem like_casF (m : Nat) (x : Ins) (v : UInt8) (r : RunP) (E : List Ev) : Like8 m (casF x v r) E r.many := fun hk _ _ => by
  have e : (casF x v r).ev r.many = ⟨1, x.loc, v, 3, UInt8.ofNat r.pc, UInt8.ofNat r.many⟩ := emit_ev 1 x.loc v 3 0 r
  rw [e] at hk; exact one_two hk
theorem like_fence (m : Nat) (x : Ins) (r : RunP) (E : List Ev) : Like8 m (fenceE x r) E r.many := fun hk _ _ => by
  have e : (fenceE x r).ev r.many = ⟨3, 0, 0, x.mode, UInt8.ofNat r.pc, UInt8.ofNat r.many⟩ := emit_ev 3 0 0 x.mode 0 r
  rw [e] at hk; exact absurd (show (3 : UInt8) = 2 from hk) (by decide)
section
variable {m : Nat} {rp rq : RunP} {x : Ins} {vp vq : UInt8}
theorem like_store (h : Sync m rp rq) (e : x.op = 2) : Like8 m (storeE x rp) (newE x vq rq) rp.many := fun _ hd _ => by
  have hn : newE x vq rq = [⟨2, x.loc, argV x.aR x.aN rq, x.mode, UInt8.ofNat rq.pc, UInt8.ofNat rq.many⟩] := by unfold newE; rw [e]; rfl
  have e1 : (storeE x rp).ev rp.many = ⟨2, x.loc, argV x.aR x.aN rp, x.mode, UInt8.ofNat rp.pc, UInt8.ofNat rp.many⟩ := emit_ev _ _ _ _ _ rp
  have e2 : (storeE x rp).data rp.many = argD x.aR x.aN rp := emit_dat _ _ _ _ _ rp
  rw [e2] at hd;rw [hn, e1]
  exact ⟨_, List.mem_singleton.2 rfl, rfl, by rw [h.pc], rfl, (h.arg hd).symm, rfl⟩
theorem like_swap1 (E : List Ev) : Like8 m (swapE x vp rp) E rp.many := fun hk _ _ => by
  have e1 : (swapE x vp rp).ev rp.many = _ := exch_ev1 _ _ _ _ rp
  rw [e1] at hk; exact one_two hk
theorem like_swap2 (h : Sync m rp rq) (e : x.op = 4) : Like8 m (swapE x vp rp) (newE x vq rq) (rp.many + 1) := fun _ hd _ => by
  have hn : newE x vq rq = [⟨1, x.loc, vq, 3, UInt8.ofNat rq.pc, UInt8.ofNat rq.many⟩, ⟨2, x.loc, argV x.aR x.aN rq, 3, UInt8.ofNat rq.pc, UInt8.ofNat (rq.many + 1)⟩] := by unfold newE; rw [e]; rfl
  have e1 : (swapE x vp rp).ev (rp.many + 1) = _ := exch_ev2 _ _ _ _ rp
  have e2 : (swapE x vp rp).data (rp.many + 1) = argD x.aR x.aN rp := exch_dat2 _ _ _ _ rp
  rw [e2] at hd;rw [hn, e1]
  exact ⟨_, List.mem_cons_of_mem _ (List.mem_singleton.2 rfl), rfl, by rw [h.pc], rfl, (h.arg hd).symm, rfl⟩
theorem like_fetch1 (E : List Ev) : Like8 m (fetchE x vp rp) E rp.many := fun hk _ _ => by
  have e1 : (fetchE x vp rp).ev rp.many = _ := exch_ev1 x vp (vp + argV x.aR x.aN rp) (argD x.aR x.aN rp) rp
  rw [e1] at hk; exact one_two hk
theorem fetch_dat2 (x : Ins) (v : UInt8) (r : RunP) : (fetchE x v r).data (r.many + 1) = argD x.aR x.aN r ||| bitN r.many := by
  have e : (fetchE x v r).data (r.many + 1) = (exchE x v (v + argV x.aR x.aN r) (argD x.aR x.aN r) r).data (r.many + 1) ||| (exchE x v (v + argV x.aR x.aN r) (argD x.aR x.aN r) r).att (r.many + 1) := put_at _ _ _
  rw [e, exch_dat2, exch_att2]
theorem like_fetch2 (h : Sync m rp rq) (hv : vp = vq ∨ m = rp.many) (e : x.op = 5) : Like8 m (fetchE x vp rp) (newE x vq rq) (rp.many + 1) := fun _ hd _ => by
  rw [fetch_dat2] at hd
  obtain ⟨h1, h2⟩ := or_bit hd
  rcases hv with rfl | hv
  · have hn : newE x vp rq = [⟨1, x.loc, vp, 3, UInt8.ofNat rq.pc, UInt8.ofNat rq.many⟩, ⟨2, x.loc, vp + argV x.aR x.aN rq, 3, UInt8.ofNat rq.pc, UInt8.ofNat (rq.many + 1)⟩] := by unfold newE; rw [e]; rfl
    have e1 : (fetchE x vp rp).ev (rp.many + 1) = _ := exch_ev2 x vp (vp + argV x.aR x.aN rp) (argD x.aR x.aN rp) rp
    rw [hn, e1]
    exact ⟨_, List.mem_cons_of_mem _ (List.mem_singleton.2 rfl), rfl, by rw [h.pc], rfl, by rw [h.arg h1], rfl⟩
  · rw [hv, bit_self] at h2; cases h2
theorem like_cas1 (E : List Ev) : Like8 m (casS x vp rp) E rp.many := fun hk _ _ => by
  have e1 : (casS x vp rp).ev rp.many = _ := exch_ev1 x vp (argV x.bR x.bN rp) (argD x.bR x.bN rp) rp
  rw [e1] at hk; exact one_two hk
theorem cas_ctrl2 (x : Ins) (v : UInt8) (r : RunP) : (casS x v r).ctrl (r.many + 1) = r.control ||| (bitN r.many ||| argD x.aR x.aN r) := by
  have e : (casS x v r).ctrl (r.many + 1) = (exchE x v (argV x.bR x.bN r) (argD x.bR x.bN r) r).ctrl (r.many + 1) ||| ((exchE x v (argV x.bR x.bN r) (argD x.bR x.bN r) r).att (r.many + 1) ||| argD x.aR x.aN r) := put_at _ _ _
  rw [e, exch_ctrl2, exch_att2]
theorem like_cas2 (h : Sync m rp rq) (hv : vp = vq ∨ m = rp.many) (e : x.op = 6) (heq : vp = argV x.aR x.aN rp) : Like8 m (casS x vp rp) (newE x vq rq) (rp.many + 1) := fun _ hd hc => by
  have e2 : (casS x vp rp).data (rp.many + 1) = argD x.bR x.bN rp := exch_dat2 x vp (argV x.bR x.bN rp) (argD x.bR x.bN rp) rp
  rw [e2] at hd;rw [cas_ctrl2] at hc
  obtain ⟨h2, h1⟩ := or_bit (or_bit hc).2
  rcases hv with rfl | hv
  · have hn : newE x vp rq = [⟨1, x.loc, vp, 3, UInt8.ofNat rq.pc, UInt8.ofNat rq.many⟩, ⟨2, x.loc, argV x.bR x.bN rq, 3, UInt8.ofNat rq.pc, UInt8.ofNat (rq.many + 1)⟩] := by
      unfold newE; rw [e]
      have hne : ¬ (vp ≠ argV x.aR x.aN rq) := fun hh => hh (by rw [← h.arg h1]; exact heq)
      exact if_neg hne
    have e1 : (casS x vp rp).ev (rp.many + 1) = _ := exch_ev2 x vp (argV x.bR x.bN rp) (argD x.bR x.bN rp) rp
    rw [hn, e1]
    exact ⟨_, List.mem_cons_of_mem _ (List.mem_singleton.2 rfl), rfl, by rw [h.pc], rfl, (h.arg hd).symm, rfl⟩
  · rw [hv, bit_self] at h2; cases h2
theorem eff_met (h : Sync m rp rq) (hv : vp = vq ∨ m = rp.many) : Step8 rp (effE x vp rp) (Like8 m (effE x vp rp) (newE x vq rq)) := by
  refine eff_cases (M := fun y => Step8 rp y (Like8 m y (newE x vq rq))) x vp rp (fun e => ?_) (fun e => ?_) (fun e => ?_) (fun e => ?_) (fun e => ?_) (fun e => ?_) (fun e => ?_) (fun e => ?_)
  · exact (step_load x vp rp).imp fun i _ _ hi => by rw [show i = rp.many from hi]; exact like_load _ _ _ _ _
  · exact (step_store x rp).imp fun i _ _ hi => by rw [show i = rp.many from hi]; exact like_store h e
  · exact (step_move x rp).imp fun i _ _ hi => hi.elim
  · refine (step_swap x vp rp).imp fun i _ _ hi => ?_
    rcases hi with hi | hi
    · rw [hi]; exact like_swap1 _
    · rw [hi]; exact like_swap2 h e
  · refine (step_fetch x vp rp).imp fun i _ _ hi => ?_
    rcases hi with hi | hi
    · rw [hi]; exact like_fetch1 _
    · rw [hi]; exact like_fetch2 h hv e
  · by_cases heq : vp = argV x.aR x.aN rp
    · rw [cas_T heq]
      refine (step_casS x vp rp).imp fun i _ _ hi => ?_
      rcases hi with hi | hi
      · rw [hi]; exact like_cas1 _
      · rw [hi]; exact like_cas2 h hv e heq
    · rw [cas_F heq]
      exact (step_casF x vp rp).imp fun i _ _ hi => by rw [show i = rp.many from hi]; exact like_casF _ _ _ _ _
  · exact (step_fence x rp).imp fun i _ _ hi => by rw [show i = rp.many from hi]; exact like_fence _ _ _ _
  · exact (step_skip x rp).imp fun i _ _ hi => hi.elim
theorem step_met (h : Sync m rp rq) (hv : vp = vq ∨ m = rp.many) : Step8 rp (execE x vp rp) (Like8 m (execE x vp rp) (newE x vq rq)) := (eff_met (x := x) h hv).pc _
end
theorem Met.step {m : Nat} {rp rq : RunP} (h : Met m rp (evsP rq)) (hs : Sync m rp rq) (x : Ins) {vp vq : UInt8} (hv : vp = vq ∨ m = rp.many) : Met m (execE x vp rp) (evsP (execE x vq rq)) := by
  have hS := step_met (x := x) hs hv
  intro i h1 h2 h3 h4
  rw [evs_exec]
  rcases Nat.lt_or_ge i rp.many with hi | hi
  · rw [hS.ev i hi] at h2 ⊢
    rw [hS.data i hi] at h3;rw [hS.ctrl i hi] at h4
    exact h.more i hi h2 h3 h4
  · obtain ⟨e, he, hw⟩ := hS.new i hi h1 h2 h3 h4
    exact ⟨e, List.mem_append_right _ he, hw⟩
/-! ### The registers and the place -/
theorem set_ok {m : Nat} {fp fq : By} {dp : Nat → Nat} (h : ∀ d, (dp d).testBit m = false → fp d = fq d) (j : Nat) (v u : UInt8) (n : Nat) (hn : n.testBit m = false → v = u) : ∀ d, (putN dp j n d).testBit m = false → put fp j v d = put fq j u d := fun d hd => by
  by_cases e : d = j
  · subst e
    rw [put_at] at hd
    unfold put; rw [if_pos rfl, if_pos rfl]; exact hn hd
  · rw [put_ne e] at hd
    unfold put; rw [if_neg e, if_neg e]; exact h d hd
theorem effs (x : Ins) (v : UInt8) (r : RunP) : (x.op = 1 → effE x v r = loadE x v r) ∧ (x.op = 2 → effE x v r = storeE x r) ∧ (x.op = 3 → effE x v r = moveE' x r) ∧ (x.op = 4 → effE x v r = swapE x v r) ∧ (x.op = 5 → effE x v r = fetchE x v r) ∧ (x.op = 6 → effE x v r = casE x v r) ∧ (x.op = 7 → effE x v r = fenceE x r) := by
  unfold effE
  refine ⟨fun e => ?_, fun e => ?_, fun e => ?_, fun e => ?_, fun e => ?_, fun e => ?_, fun e => ?_⟩ <;> simp [e]
theorem pc_of {x : Ins} {v : UInt8} {r y : RunP} (h : effE x v r = y) : execE x v r = y.wPc (y.pc + 1) := by unfold execE; rw [h]
theorem wPc_deps (r : RunP) (n : Nat) : (r.wPc n).deps = r.deps := rfl
theorem wPc_control (r : RunP) (n : Nat) : (r.wPc n).control = r.control := rfl
theorem wData_deps (r : RunP) (d n : Nat) : (r.wData d n).deps = r.deps := rfl
theorem wData_control (r : RunP) (d n : Nat) : (r.wData d n).control = r.control := rfl
theorem wCtrl_deps (r : RunP) (d n : Nat) : (r.wCtrl d n).deps = r.deps := rfl
theorem wCtrl_control (r : RunP) (d n : Nat) : (r.wCtrl d n).control = r.control := rfl
theorem set_deps (d v : UInt8) (n : Nat) (r : RunP) : (setP d v n r).deps = putN r.deps d.toNat n := rfl
theorem set_ctl (d v : UInt8) (n : Nat) (r : RunP) : (setP d v n r).control = r.control := rfl
theorem emit_deps (kind loc val mode : UInt8) (n : Nat) (r : RunP) : (emitP kind loc val mode n r).deps = r.deps := rfl
theorem emit_ctl (kind loc val mode : UInt8) (n : Nat) (r : RunP) : (emitP kind loc val mode n r).control = r.control := rfl
theorem wAtt_deps (r : RunP) (d n : Nat) : (r.wAtt d n).deps = r.deps := rfl
theorem wAtt_control (r : RunP) (d n : Nat) : (r.wAtt d n).control = r.control := rfl
theorem exch_deps (x : Ins) (old val : UInt8) (n : Nat) (r : RunP) : (exchE x old val n r).deps = putN r.deps x.dst.toNat (bitN r.many) := by unfold exchE; rw [set_deps, wAtt_deps, emit_deps, emit_deps]
theorem exch_ctl (x : Ins) (old val : UInt8) (n : Nat) (r : RunP) : (exchE x old val n r).control = r.control := by unfold exchE; rw [set_ctl, wAtt_control, emit_ctl, emit_ctl]
structure Left8 (x : Ins) (r y : RunP) : Prop where
  deps : y.deps = putN r.deps x.dst.toNat (bitN r.many)
  control : y.control = r.control
  pc : y.pc = r.pc
theorem left_load (x : Ins) (v : UInt8) (r : RunP) : Left8 x r (loadE x v r) := ⟨by unfold loadE; rw [set_deps, emit_deps], by unfold loadE; rw [set_ctl, emit_ctl], load_pc x v r⟩
theorem left_swap (x : Ins) (v : UInt8) (r : RunP) : Left8 x r (swapE x v r) := ⟨by unfold swapE; rw [exch_deps], by unfold swapE; rw [exch_ctl], swap_pc x v r⟩
theorem left_fetch (x : Ins) (v : UInt8) (r : RunP) : Left8 x r (fetchE x v r) := ⟨by unfold fetchE; rw [wData_deps, exch_deps], by unfold fetchE; rw [wData_control, exch_ctl], fetch_pc x v r⟩
theorem left_cas (x : Ins) (v : UInt8) (r : RunP) : Left8 x r (casE x v r) := by
  have hp := cas_pc x v r
  refine ⟨?_, ?_, hp⟩
  · by_cases heq : v = argV x.aR x.aN r
    · rw [cas_T heq]; unfold casS; rw [wCtrl_deps, exch_deps]
    · rw [cas_F heq]; unfold casF; rw [set_deps, emit_deps]
  · by_cases heq : v = argV x.aR x.aN r
    · rw [cas_T heq]; unfold casS; rw [wCtrl_control, exch_ctl]
    · rw [cas_F heq]; unfold casF; rw [set_ctl, emit_ctl]
theorem read_deps {x : Ins} (hr : readsB x.op = true) (v : UInt8) (r : RunP) : (execE x v r).deps = putN r.deps x.dst.toNat (bitN r.many) ∧ (execE x v r).control = r.control ∧ (execE x v r).pc = r.pc + 1 := by
  obtain ⟨e1, _, _, e4, e5, e6, _⟩ := effs x v r
  have key : ∀ y, effE x v r = y → Left8 x r y → (execE x v r).deps = putN r.deps x.dst.toNat (bitN r.many) ∧ (execE x v r).control = r.control ∧ (execE x v r).pc = r.pc + 1 := fun y hy hl => by
    rw [pc_of hy, wPc_deps, wPc_control, wPc_pc, hl.deps, hl.control, hl.pc]
    exact ⟨rfl, rfl, rfl⟩
  rcases reads_or hr with e | e | e | e
  · exact key _ (e1 e) (left_load x v r)
  · exact key _ (e4 e) (left_swap x v r)
  · exact key _ (e5 e) (left_fetch x v r)
  · exact key _ (e6 e) (left_cas x v r)
theorem read_regs {x : Ins} (hr : readsB x.op = true) (v : UInt8) (r : RunP) : (execE x v r).regs = put r.regs x.dst.toNat v := by
  rw [regs_exec]
  unfold newRegs
  exact if_pos (reads_or hr)
theorem Sync.read {m : Nat} {rp rq : RunP} (h : Sync m rp rq) {x : Ins} (hr : readsB x.op = true) {vp vq : UInt8} (hv : vp = vq ∨ m = rp.many) : Sync m (execE x vp rp) (execE x vq rq) := by
  obtain ⟨d1, d2, d3⟩ := read_deps hr vp rp
  obtain ⟨_, _, q3⟩ := read_deps hr vq rq
  refine ⟨?_, by rw [d2]; exact h.ctl, by rw [d3, q3, h.pc]⟩
  rw [read_regs hr, read_regs hr, d1]
  refine set_ok h.regs _ _ _ _ fun hn => ?_
  rcases hv with hv | hv
  · exact hv
  · rw [hv, bit_self] at hn; cases hn
theorem Sync.pass {m : Nat} {rp rq : RunP} (h : Sync m rp rq) {x : Ins} (hr : readsB x.op = false) : (execE x 0 rp).control.testBit m = true ∨ Sync m (execE x 0 rp) (execE x 0 rq) := by
  have nr : x.op ≠ 1 ∧ x.op ≠ 4 ∧ x.op ≠ 5 ∧ x.op ≠ 6 := ⟨fun e => (by rw [e] at hr; cases hr), fun e => (by rw [e] at hr; cases hr), fun e => (by rw [e] at hr; cases hr), fun e => (by rw [e] at hr; cases hr)⟩
  by_cases e2 : x.op = 2
  · rw [pc_of ((effs x 0 rp).2.1 e2), pc_of ((effs x 0 rq).2.1 e2)]
    exact .inr ⟨h.regs, h.ctl, by show rp.pc + 1 = rq.pc + 1; rw [h.pc]⟩
  by_cases e3 : x.op = 3
  · rw [pc_of ((effs x 0 rp).2.2.1 e3), pc_of ((effs x 0 rq).2.2.1 e3)]
    refine .inr ⟨?_, h.ctl, by show rp.pc + 1 = rq.pc + 1; rw [h.pc]⟩
    exact set_ok h.regs x.dst.toNat _ _ _ fun hn => by
      obtain ⟨h1, h2⟩ := or_bit hn
      rw [h.arg h1, h.arg h2]
  by_cases e7 : x.op = 7
  · rw [pc_of ((effs x 0 rp).2.2.2.2.2.2 e7), pc_of ((effs x 0 rq).2.2.2.2.2.2 e7)]
    exact .inr ⟨h.regs, h.ctl, by show rp.pc + 1 = rq.pc + 1; rw [h.pc]⟩
  have hq : ∀ r, execE x 0 r = (skipE x r).wPc ((skipE x r).pc + 1) := fun r => by
    unfold execE effE
    rw [if_neg nr.1, if_neg e2, if_neg e3, if_neg nr.2.1, if_neg nr.2.2.1, if_neg nr.2.2.2, if_neg e7]
  have hc : ∀ r, (execE x 0 r).control = r.control ||| (argD x.aR x.aN r ||| argD x.bR x.bN r) := fun r => by
    rw [hq]; unfold skipE
    split
    · rfl
    · rfl
  cases hb : (execE x 0 rp).control.testBit m with
  | true => exact .inl rfl
  | false =>
    refine .inr ⟨?_, hb, ?_⟩
    · have hg : ∀ r, (execE x 0 r).regs = r.regs ∧ (execE x 0 r).deps = r.deps := fun r => by
        rw [hq]; unfold skipE
        split
        · exact ⟨rfl, rfl⟩
        · exact ⟨rfl, rfl⟩
      rw [(hg rp).1, (hg rp).2, (hg rq).1]; exact h.regs
    · rw [hc] at hb
      obtain ⟨h1, h2⟩ := or_bit (or_bit hb).2
      rw [hq, hq]
      unfold skipE
      rw [← h.arg h1, ← h.arg h2]
      split
      · show rp.pc + x.skip.toNat + 1 = rq.pc + x.skip.toNat + 1; rw [h.pc]
      · show rp.pc + 1 = rq.pc + 1; rw [h.pc]
/-! ### A run that hangs on the read by control -/
theorem eff_loose {m : Nat} {r : RunP} (hc : r.control.testBit m = true) (x : Ins) (v : UInt8) : (effE x v r).control.testBit m = true ∧ Step8 r (effE x v r) (fun i => ((effE x v r).ctrl i).testBit m = true) := by
  have hor : ∀ n, (r.control ||| n).testBit m = true := fun n => by rw [Nat.testBit_or, hc, Bool.true_or]
  refine eff_cases (M := fun y => y.control.testBit m = true ∧ Step8 r y (fun i => (y.ctrl i).testBit m = true)) x v r (fun _ => ⟨by rw [(left_load x v r).control]; exact hc, ?_⟩) (fun _ => ⟨hc, ?_⟩) (fun _ => ⟨hc, ?_⟩) (fun _ => ⟨by rw [(left_swap x v r).control]; exact hc, ?_⟩) (fun _ => ⟨by rw [(left_fetch x v r).control]; exact hc, ?_⟩) (fun _ => ⟨by rw [(left_cas x v r).control]; exact hc, ?_⟩) (fun _ => ⟨hc, ?_⟩) (fun _ => ?_)
  · refine (step_load x v r).imp fun i _ _ hi => ?_
    have e : (loadE x v r).ctrl r.many = r.control := emit_ctr 1 x.loc v x.mode 0 r
    rw [show i = r.many from hi, e]; exact hc
  · refine (step_store x r).imp fun i _ _ hi => ?_
    have e : (storeE x r).ctrl r.many = r.control := emit_ctr _ _ _ _ _ r
    rw [show i = r.many from hi, e]; exact hc
  · exact (step_move x r).imp fun i _ _ hi => hi.elim
  · refine (step_swap x v r).imp fun i _ _ hi => ?_
    have e1 : (swapE x v r).ctrl r.many = r.control := exch_ctrl1 _ _ _ _ r
    have e2 : (swapE x v r).ctrl (r.many + 1) = r.control := exch_ctrl2 _ _ _ _ r
    rcases hi with hi | hi
    · rw [hi, e1]; exact hc
    · rw [hi, e2]; exact hc
  · refine (step_fetch x v r).imp fun i _ _ hi => ?_
    have e1 : (fetchE x v r).ctrl r.many = r.control := exch_ctrl1 x v (v + argV x.aR x.aN r) (argD x.aR x.aN r) r
    have e2 : (fetchE x v r).ctrl (r.many + 1) = r.control := exch_ctrl2 x v (v + argV x.aR x.aN r) (argD x.aR x.aN r) r
    rcases hi with hi | hi
    · rw [hi, e1]; exact hc
    · rw [hi, e2]; exact hc
  · by_cases heq : v = argV x.aR x.aN r
    · rw [cas_T heq]
      refine (step_casS x v r).imp fun i _ _ hi => ?_
      have e1 : (casS x v r).ctrl r.many = r.control := (put_ne (show r.many ≠ r.many + 1 by omega)).trans (exch_ctrl1 x v (argV x.bR x.bN r) (argD x.bR x.bN r) r)
      rcases hi with hi | hi
      · rw [hi, e1]; exact hc
      · rw [hi, cas_ctrl2]; exact hor _
    · rw [cas_F heq]
      refine (step_casF x v r).imp fun i _ _ hi => ?_
      have e : (casF x v r).ctrl r.many = r.control := emit_ctr 1 x.loc v 3 0 r
      rw [show i = r.many from hi, e]; exact hc
  · refine (step_fence x r).imp fun i _ _ hi => ?_
    have e : (fenceE x r).ctrl r.many = r.control := emit_ctr 3 0 0 x.mode 0 r
    rw [show i = r.many from hi, e]; exact hc
  · refine ⟨?_, (step_skip x r).imp fun i _ _ hi => hi.elim⟩
    unfold skipE
    split
    · exact hor _
    · exact hor _
theorem exec_loose {m : Nat} {r : RunP} (hc : r.control.testBit m = true) (x : Ins) (v : UInt8) : (execE x v r).control.testBit m = true ∧ Step8 r (execE x v r) (fun i => ((execE x v r).ctrl i).testBit m = true) := ⟨(eff_loose hc x v).1, (eff_loose hc x v).2.pc _⟩
theorem Met.loose {m : Nat} {r : RunP} {E : List Ev} (h : Met m r E) (hc : r.control.testBit m = true) (x : Ins) (v : UInt8) : Met m (execE x v r) E := by
  have hS := (exec_loose hc x v).2
  intro i h1 h2 h3 h4
  rcases Nat.lt_or_ge i r.many with hi | hi
  · rw [hS.ev i hi] at h2 ⊢
    rw [hS.data i hi] at h3;rw [hS.ctrl i hi] at h4
    exact h i hi h2 h3 h4
  · rw [hS.new i hi h1] at h4; cases h4
theorem Path8.loose {l : List Ins} {m : Nat} {E : List Ev} {r z : RunP} {vs : List UInt8} (h : Path8 l r vs z) : r.control.testBit m = true → Met m r E → Met m z E := by
  induction h with
  | stop hx => intro _ h; exact h
  | read hx hr _ ih => intro hc hm; exact ih (exec_loose hc _ _).1 (hm.loose hc _ _)
  | pass hx hr _ ih => intro hc hm; exact ih (exec_loose hc _ _).1 (hm.loose hc _ _)
theorem Path8.grow {l : List Ins} {r z : RunP} {vs : List UInt8} (h : Path8 l r vs z) : ∃ t, evsP z = evsP r ++ t := by
  induction h with
  | stop hx => exact ⟨[], by simp⟩
  | read hx hr _ ih => obtain ⟨t, ih⟩ := ih; exact ⟨_, by rw [ih, evs_exec, List.append_assoc]⟩
  | pass hx hr _ ih => obtain ⟨t, ih⟩ := ih; exact ⟨_, by rw [ih, evs_exec, List.append_assoc]⟩
def Agree (vs ws : List UInt8) : Prop := ∀ (i : Nat) (a b : UInt8), vs[i]? = some a → ws[i]? = some b → a = b
theorem Agree.tail {v u : UInt8} {vs ws : List UInt8} (h : Agree (v :: vs) (u :: ws)) : v = u ∧ Agree vs ws := ⟨h 0 v u rfl rfl, fun i a b ha hb => h (i + 1) a b (by simpa using ha) (by simpa using hb)⟩
theorem sync_path {l : List Ins} {m : Nat} {rp zp : RunP} {vs : List UInt8} (hp : Path8 l rp vs zp) : ∀ {rq zq : RunP} {ws : List UInt8}, Path8 l rq ws zq → Agree vs ws → Sync m rp rq → Met m rp (evsP rq) → Met m zp (evsP zq) := by
  induction hp with
  | @stop r hx =>
    intro rq zq ws hq _ _ hm
    obtain ⟨t, e⟩ := hq.grow
    rw [e]; exact hm.more
  | @read r z x v vs hx hr h ih =>
    intro rq zq ws hq ha hs hm
    cases hq with
    | stop hx2 => rw [← hs.pc, hx] at hx2; cases hx2
    | @read _ _ x2 v2 ws hx2 hr2 h2 =>
      rw [← hs.pc] at hx2
      obtain rfl := Option.some.inj (hx.symm.trans hx2)
      obtain ⟨rfl, ha2⟩ := ha.tail
      exact ih h2 ha2 (hs.read hr (.inl rfl)) (hm.step hs x (.inl rfl))
    | pass hx2 hr2 _ =>
      rw [← hs.pc] at hx2
      obtain rfl := Option.some.inj (hx.symm.trans hx2)
      rw [hr] at hr2; cases hr2
  | @pass r z x vs hx hr h ih =>
    intro rq zq ws hq ha hs hm
    cases hq with
    | stop hx2 => rw [← hs.pc, hx] at hx2; cases hx2
    | read hx2 hr2 _ =>
      rw [← hs.pc] at hx2
      obtain rfl := Option.some.inj (hx.symm.trans hx2)
      rw [hr] at hr2; cases hr2
    | @pass _ _ x2 _ hx2 _ h2 =>
      rw [← hs.pc] at hx2
      obtain rfl := Option.some.inj (hx.symm.trans hx2)
      have hm2 : Met m (execE x 0 r) (evsP (execE x 0 rq)) := hm.step hs x (.inl rfl)
      rcases hs.pass hr with hc | hs2
      · obtain ⟨t, e⟩ := h2.grow
        rw [e]; exact h.loose hc hm2.more
      · exact ih h2 ha hs2 hm2
theorem hang_path {l : List Ins} {r zp : RunP} {vs : List UInt8} (hp : Path8 l r vs zp) : ∀ {pre post rest : List UInt8} {u v : UInt8} {ws : List UInt8} {zq : RunP} {n : Nat}, vs = pre ++ u :: post → ws = (pre ++ v :: (post ++ rest)).take n → Path8 l r ws zq → InvH r →
    ∃ m E e t, evsP zp = E ++ e :: t ∧ e.kind = 1 ∧ rdL E = rdL (evsP r) ++ pre ∧ e.pos = UInt8.ofNat m ∧ Met m zp (evsP zq) := by
  induction hp with
  | stop hx => intro pre post rest u v ws zq n h1; exact absurd h1.symm (by simp)
  | @read r z x v0 vs hx hr h ih =>
    intro pre post rest u v ws zq n h1 h2 hq hi
    cases hq with
    | stop hx2 => rw [hx] at hx2; cases hx2
    | pass hx2 hr2 _ =>
      obtain rfl := Option.some.inj (hx.symm.trans hx2)
      rw [hr] at hr2; cases hr2
    | @read _ _ x2 v2 ws hx2 hr2 hq2 =>
      obtain rfl := Option.some.inj (hx.symm.trans hx2)
      cases n with
      | zero => rw [List.take_zero] at h2; cases h2
      | succ n =>
        cases pre with
        | nil =>
          rw [List.nil_append] at h1 h2
          obtain ⟨rfl, rfl⟩ := List.cons.inj h1
          rw [List.take_succ_cons] at h2
          obtain ⟨rfl, rfl⟩ := List.cons.inj h2
          obtain ⟨t, e⟩ := h.grow
          obtain ⟨e1, rest1, n1, k1, _, _, _⟩ := new_reads hr v0 r
          have p1 : e1.pos = UInt8.ofNat r.many := by
            obtain ⟨mm, rr, n2⟩ : ∃ mm rest, newE x v0 r = ⟨1, x.loc, v0, mm, UInt8.ofNat r.pc, UInt8.ofNat r.many⟩ :: rest := by
              unfold newE
              rcases reads_or hr with h | h | h | h
              · rw [if_pos h]; exact ⟨_, _, rfl⟩
              · rw [h]; exact ⟨_, _, rfl⟩
              · rw [h]; exact ⟨_, _, rfl⟩
              · rw [h]
                by_cases hv : v0 ≠ argV x.aR x.aN r
                · exact ⟨3, [], if_pos hv⟩
                · exact ⟨3, [⟨2, x.loc, argV x.bR x.bN r, 3, UInt8.ofNat r.pc, UInt8.ofNat (r.many + 1)⟩], if_neg hv⟩
            rw [n1] at n2;rw [(List.cons.inj n2).1]
          have hctl : r.control.testBit r.many = false := by
            cases hb : r.control.testBit r.many with
            | false => rfl
            | true => exact absurd (hi.control _ hb).1 (Nat.lt_irrefl _)
          have hs : Sync r.many r r := ⟨fun _ _ => rfl, hctl, rfl⟩
          have hm : Met r.many r (evsP r) := fun i h1 h2 _ _ => ⟨r.ev i, List.mem_map.2 ⟨i, List.mem_range.2 h1, rfl⟩, h2, rfl, rfl, rfl, rfl⟩
          refine ⟨r.many, evsP r, e1, rest1 ++ t, by rw [e, evs_exec, n1, List.append_assoc]; rfl, k1, by rw [List.append_nil], p1, ?_⟩
          refine sync_path h hq2 (fun i a b ha hb => ?_) (hs.read hr (.inr rfl)) (hm.step hs x (.inr rfl))
          rw [List.getElem?_take] at hb
          split at hb
          · rw [List.getElem?_append_left (List.getElem?_eq_some_iff.1 ha).1, ha] at hb
            exact Option.some.inj hb
          · cases hb
        | cons p0 pre =>
          rw [List.cons_append] at h1 h2
          obtain ⟨rfl, h1b⟩ := List.cons.inj h1
          rw [List.take_succ_cons] at h2
          obtain ⟨rfl, h2b⟩ := List.cons.inj h2
          obtain ⟨m, E, e, t, a1, a2, a3, a4, a5⟩ := ih h1b h2b hq2 (hi.exec _ _)
          exact ⟨m, E, e, t, a1, a2, by rw [a3, rd_read hr, List.append_assoc]; rfl, a4, a5⟩
  | @pass r z x vs hx hr h ih =>
    intro pre post rest u v ws zq n h1 h2 hq hi
    cases hq with
    | stop hx2 => rw [hx] at hx2; cases hx2
    | read hx2 hr2 _ =>
      obtain rfl := Option.some.inj (hx.symm.trans hx2)
      rw [hr] at hr2; cases hr2
    | @pass _ _ x2 _ hx2 _ hq2 =>
      obtain rfl := Option.some.inj (hx.symm.trans hx2)
      obtain ⟨m, E, e, t, a1, a2, a3, a4, a5⟩ := ih h1 h2 hq2 (hi.exec _ _)
      exact ⟨m, E, e, t, a1, a2, by rw [a3, rd_pass hr], a4, a5⟩
def rdPos (k : Nat) (evs : List Ev) : UInt8 := (((evs.filter fun e => e.kind == 1).map fun e => e.pos)[k]?).getD 0
theorem rd_len (evs : List Ev) : (evs.filter fun e => e.kind == 1).length = (rdL evs).length := by unfold rdL; rw [List.length_map]
theorem rdPos_not {k : Nat} {evs : List Ev} {e : Ev} (h : e.kind ≠ 1) : rdPos k (evs ++ [e]) = rdPos k evs ∧ (rdL (evs ++ [e])).length = (rdL evs).length := by
  have hf : (evs ++ [e]).filter (fun e => e.kind == 1) = evs.filter fun e => e.kind == 1 := by rw [List.filter_append]; simp [h]
  unfold rdPos rdL
  rw [hf]; exact ⟨rfl, rfl⟩
theorem rdPos_rd {k : Nat} {evs : List Ev} {e : Ev} (h : e.kind = 1) : rdPos k (evs ++ [e]) = (if (rdL evs).length = k then e.pos else rdPos k evs) ∧ (rdL (evs ++ [e])).length = (rdL evs).length + 1 := by
  have hf : (evs ++ [e]).filter (fun e => e.kind == 1) = (evs.filter fun e => e.kind == 1) ++ [e] := by rw [List.filter_append]; simp [h]
  have hl := rd_len evs
  constructor
  · unfold rdPos
    rw [hf, List.map_append]
    split
    next hk => rw [List.getElem?_append_right (by rw [List.length_map]; omega), List.length_map, hl, hk, Nat.sub_self]; rfl
    next hk =>
      rcases Nat.lt_or_ge k (rdL evs).length with h1 | h1
      · rw [List.getElem?_append_left (by rw [List.length_map]; omega)]
      · rw [List.getElem?_eq_none (by rw [List.length_append, List.length_map, List.map_cons, List.map_nil, List.length_singleton]; omega), List.getElem?_eq_none (by rw [List.length_map]; omega)]
  · unfold rdL; rw [hf, List.length_map, List.length_append, List.length_map]; rfl
theorem rdPos_at {k : Nat} {E t : List Ev} {e : Ev} (h : e.kind = 1) (hk : (rdL E).length = k) : rdPos k (E ++ e :: t) = e.pos := by
  have hl := rd_len E
  have hf : (E ++ e :: t).filter (fun e => e.kind == 1) = (E.filter fun e => e.kind == 1) ++ e :: t.filter fun e => e.kind == 1 := by rw [List.filter_append, List.filter_cons_of_pos (by simp [h])]
  unfold rdPos
  rw [hf, List.map_append, List.getElem?_append_right (by rw [List.length_map]; omega), List.length_map, hl, hk, Nat.sub_self]
  rfl
def HangOk (k : Nat) (p q : PathP) : Prop := ∀ w ∈ p.evs, w.kind = 2 → (rdPos k p.evs, w.pos) ∉ p.data ++ p.ctrl → ∃ e ∈ q.evs, SameW w e
theorem hang_ok {l : List Ins} {reads ws : List UInt8} {zp zq : RunP} (hl : threadOk 6 l = true) (hp : Path8 l zRun reads zp) {pre post rest : List UInt8} {u v : UInt8} {n : Nat} (h1 : reads = pre ++ u :: post) (h2 : ws = (pre ++ v :: (post ++ rest)).take n) (hq : Path8 l zRun ws zq) : HangOk pre.length (runPath zp) (runPath zq) := by
  obtain ⟨m, E, e, t, a1, a2, a3, a4, a5⟩ := hang_path hp h1 h2 hq invH_zero
  have hi := hp.invH invH_zero
  have hs := (hp.inv hl (inv_zero l)).sets
  intro w hw hk hn
  have hpos : rdPos pre.length (runPath zp).evs = UInt8.ofNat m := by
    show rdPos pre.length (evsP zp) = _
    rw [a1, rdPos_at a2 (by rw [a3]; rfl), a4]
  rw [hpos] at hn
  obtain ⟨i, hir, rfl⟩ := List.mem_map.1 (show w ∈ (List.range zp.many).map zp.ev from hw)
  have hir := List.mem_range.1 hir
  rw [hi.pos i hir, List.mem_append] at hn
  refine a5 i hir hk ?_ ?_
  · cases hb : (zp.data i).testBit m with
    | false => rfl
    | true => exact absurd (.inl ((mem_pairs hs.data _).2 ⟨i, m, hir, hb, rfl⟩)) hn
  · cases hb : (zp.ctrl i).testBit m with
    | false => rfl
    | true => exact absurd (.inr ((mem_pairs hs.ctrl _).2 ⟨i, m, hir, hb, rfl⟩)) hn
end Go.Proofs.YtklpiodciblabaaGreatDoor
