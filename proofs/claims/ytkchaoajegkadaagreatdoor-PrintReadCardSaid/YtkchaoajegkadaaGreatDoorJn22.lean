/-
  Plain Lean: printed words as tokens. Nothing of the program. Conditions: none.
-/
import Derived.Test.YtkchaoajegkadaaGreatDoorJn3
import Derived.Test.YtkchaoajegkadaaGreatDoorJn2
import Derived.Test.YtkchaoajegkadaaGreatDoorJn10
import Derived.Test.YtkchaoajegkadaaGreatDoorJn13
set_option linter.unusedSimpArgs false
set_option linter.unusedVariables false
namespace Go.Proofs.YtkchaoajegkadaaGreatDoor
-- PtG
theorem app_assoc (a b c : ByteArray) : a ++ b ++ c = a ++ (b ++ c) := ByteArray.append_assoc
theorem nil_app (a : ByteArray) : mk [] ++ a = a := by apply ByteArray.ext; simp [mk]
theorem app_nil (a : ByteArray) : a ++ ByteArray.empty = a := by apply ByteArray.ext; simp
theorem st_10 (post : ByteArray) : St (mk [10] ++ post) := fun h => by
  obtain ⟨h1, h2⟩ := one_at 10 post
  exact .inl (congrArg UInt8.toNat h2)
theorem st_32 (post : ByteArray) : St (mk [32] ++ post) := fun h => by
  obtain ⟨h1, h2⟩ := one_at 32 post
  exact .inr (congrArg UInt8.toNat h2)
theorem K_sp (post : ByteArray) (o : Bool) : K (mk [32] ++ post) o = K post o := K_blank 32 rfl post o
theorem K_ln (post : ByteArray) : K (mk [10] ++ post) true = (4, mk []) :: K post false := K_nl post true
theorem K_none : K ByteArray.empty false = [] := K_empty false
def goodB (kd : Nat) (l : List UInt8) : Bool := if h : 0 < (mk l).size then (cls (mk l)[0].toNat != 1) && (cls (mk l)[0].toNat != 2) && (cls (mk l)[0].toNat != 7) && (kd == tokKind (cls (mk l)[0].toNat)) && (tokTo (mk l) 0 == (mk l).size) else false
theorem good_of {kd : Nat} {l : List UInt8} (h : goodB kd l = true) : Good kd (mk l) := by
  unfold goodB at h
  split at h
  next h0 =>
    simp only [Bool.and_eq_true, bne_iff_ne, beq_iff_eq] at h
    obtain ⟨⟨⟨⟨h1, h2⟩, h3⟩, h4⟩, h5⟩ := h
    exact ⟨h0, h1, h2, h3, h4, h5⟩
  next => cases h
theorem good_eq : Good 3 (mk [61]) := good_of (by decide +kernel)
theorem good_acq : Good 1 (mk [97, 99, 113]) := good_of (by decide +kernel)
theorem good_rel : Good 1 (mk [114, 101, 108]) := good_of (by decide +kernel)
theorem good_add : Good 3 (mk [43]) := good_of (by decide +kernel)
theorem good_sub : Good 3 (mk [45]) := good_of (by decide +kernel)
theorem good_xor : Good 3 (mk [94]) := good_of (by decide +kernel)
theorem good_swap : Good 1 (mk [115, 119, 97, 112]) := good_of (by decide +kernel)
theorem good_fetch : Good 1 (mk [102, 101, 116, 99, 104]) := good_of (by decide +kernel)
theorem good_cas : Good 1 (mk [99, 97, 115]) := good_of (by decide +kernel)
theorem good_fence : Good 1 (mk [102, 101, 110, 99, 101]) := good_of (by decide +kernel)
theorem good_loads : Good 1 (mk [108, 111, 97, 100, 115]) := good_of (by decide +kernel)
theorem good_stores : Good 1 (mk [115, 116, 111, 114, 101, 115]) := good_of (by decide +kernel)
theorem good_skip : Good 1 (mk [115, 107, 105, 112]) := good_of (by decide +kernel)
theorem good_if : Good 1 (mk [105, 102]) := good_of (by decide +kernel)
theorem good_eqeq : Good 3 (mk [61, 61]) := good_of (by decide +kernel)
theorem good_ne : Good 3 (mk [33, 61]) := good_of (by decide +kernel)
theorem good_lt : Good 3 (mk [60]) := good_of (by decide +kernel)
theorem good_open : Good 3 (mk [40]) := good_of (by decide +kernel)
theorem good_close : Good 3 (mk [41]) := good_of (by decide +kernel)
theorem good_true : Good 1 (mk [116, 114, 117, 101]) := good_of (by decide +kernel)
theorem good_not : Good 3 (mk [33]) := good_of (by decide +kernel)
theorem good_and : Good 3 (mk [38]) := good_of (by decide +kernel)
theorem good_or : Good 3 (mk [124]) := good_of (by decide +kernel)
theorem good_thread : Good 1 (mk [116, 104, 114, 101, 97, 100]) := good_of (by decide +kernel)
theorem good_test : Good 1 (mk [116, 101, 115, 116]) := good_of (by decide +kernel)
theorem good_init : Good 1 (mk [105, 110, 105, 116]) := good_of (by decide +kernel)
theorem good_some : Good 1 (mk [115, 111, 109, 101]) := good_of (by decide +kernel)
theorem good_none : Good 1 (mk [110, 111, 110, 101]) := good_of (by decide +kernel)
theorem good_all : Good 1 (mk [97, 108, 108]) := good_of (by decide +kernel)
theorem byte_all {p : UInt8 → Bool} (h : (List.range 256).all (fun i => p (UInt8.ofNat i)) = true) (n : UInt8) : p n = true := by
  have := List.all_eq_true.1 h n.toNat (by rw [List.mem_range]; exact n.toNat_lt)
  simpa using this
theorem byte_few {p : UInt8 → Bool} (h : (List.range 8).all (fun i => p (UInt8.ofNat i)) = true) {n : UInt8} (hn : n.toNat < 8) : p n = true := by
  have := List.all_eq_true.1 h n.toNat (by rw [List.mem_range]; exact hn)
  simpa using this
theorem good_num (n : UInt8) : Good 2 (mk (numT n)) := good_of (byte_all (p := fun n => goodB 2 (numT n)) (by decide +kernel) n)
theorem good_reg {n : UInt8} (h : n.toNat < 8) : Good 1 (mk (regT n)) := good_of (byte_few (p := fun n => goodB 1 (regT n)) (by decide +kernel) h)
theorem mk_toList (l : List UInt8) : (mk l).toList = l := by rw [toList_data]; simp [mk]
theorem mk_of {w : ByteArray} {l : List UInt8} (h : w.toList = l) : w = mk l := eq_of_toList (h.trans (mk_toList l).symm)
theorem regT_back {w : ByteArray} {n : UInt8} (hn : n.toNat < 8) (h : w.toList = regT n) : regOk w = true ∧ (regV w).toNat = n.toNat ∧ nameOk w = false := by
  have := byte_few (p := fun n => regOk (mk (regT n)) && ((regV (mk (regT n))).toNat == n.toNat) && !nameOk (mk (regT n))) (by decide +kernel) hn
  rw [mk_of h]
  simp only [Bool.and_eq_true, beq_iff_eq, Bool.not_eq_true'] at this
  exact ⟨this.1.1, this.1.2, this.2⟩
theorem numT_back {w : ByteArray} {n : UInt8} (h : w.toList = numT n) : numOk w = true ∧ numV w = n.toNat := by
  have := byte_all (p := fun n => numOk (mk (numT n)) && (numV (mk (numT n)) == n.toNat)) (by decide +kernel) n
  rw [mk_of h]
  simp only [Bool.and_eq_true, beq_iff_eq] at this
  exact this
theorem name_noreg {w : ByteArray} (h : nameOk w = true) : regOk w = false := name_reg h
theorem name_nokey {w : ByteArray} (h : nameOk w = true) : w.toList ∉ keptL := fun hm => by
  have := name_kept h
  unfold kept at this
  rw [List.any_eq_false] at this
  exact this _ hm (beq_self_eq_true _)
theorem key_true : [116, 114, 117, 101] ∈ keptL := by decide
theorem key_fence : [102, 101, 110, 99, 101] ∈ keptL := by decide
theorem key_skip : [115, 107, 105, 112] ∈ keptL := by decide
theorem key_swap : [115, 119, 97, 112] ∈ keptL := by decide
theorem key_fetch : [102, 101, 116, 99, 104] ∈ keptL := by decide
theorem key_cas : [99, 97, 115] ∈ keptL := by decide
theorem good_name {w : ByteArray} (h : nameOk w = true) : Good 1 (mk w.toList) := by
  have e : mk w.toList = w := (mk_of rfl).symm
  rw [e]
  have hw := name_wordy h
  unfold wordy at hw
  split at hw
  next h0 =>
    simp only [Bool.and_eq_true, decide_eq_true_eq, beq_iff_eq] at hw
    obtain ⟨⟨h1, h2⟩, h3⟩ := hw
    refine ⟨h0, by rw [h2]; decide, by rw [h2]; decide, by rw [h2]; decide, by rw [h2]; rfl, ?_⟩
    unfold tokTo
    rw [clsAt_get h0, if_pos h2]
    exact h3
  next => cases hw
theorem runTo_by {p : Int → Bool} {a c : ByteArray} (hc : ∃ h : 0 < c.size, p c[0].toNat = false) : ∀ (n k : Nat), a.size - k = n → k ≤ a.size → runTo p (a ++ c) k = runTo p a k := by
  intro n
  induction n with
  | zero =>
    intro k h1 h2
    have : k = a.size := by omega
    subst this
    obtain ⟨h3, h4⟩ := hc
    obtain ⟨h5, h6⟩ := app_right (a := a) h3
    rw [runTo_end (Nat.le_refl _)];refine runTo_stop (s := a ++ c) (i := a.size) h5 ?_
    have h7 : (a ++ c)[a.size]'h5 = c[0] := h6
    rw [h7]; exact h4
  | succ n ih =>
    intro k h1 h2
    have hk : k < a.size := by omega
    obtain ⟨h3, h4⟩ := app_left (c := c) hk
    cases hq : p a[k].toNat with
    | true => rw [runTo_step hk hq, runTo_step h3 (by rw [h4]; exact hq)]; exact ih (k + 1) (by omega) (by omega)
    | false => rw [runTo_stop hk hq, runTo_stop h3 (by rw [h4]; exact hq)]
theorem K_by {kd : Nat} {tx post : ByteArray} (o : Bool) (hg : Good kd tx) (e1 : tokTo (tx ++ post) 0 = tx.size) : K (tx ++ post) o = (kd, tx) :: K post true := by
  obtain ⟨h0, c1, c2, c7, hk, ht⟩ := hg
  obtain ⟨h3, h4⟩ := app_left (c := post) h0
  have e2 : tokAt (tx ++ post) 0 = ⟨kd, tx, 0⟩ := by
    unfold tokAt
    rw [e1, clsAt_pre h0, ext_left (Nat.le_refl _), extract_whole, hk]
    unfold clsAt; rw [dif_pos h0]
  unfold K
  rw [rest_tok o h3 (by rw [h4]; exact c1) (by rw [h4]; exact c2) (by rw [h4]; exact c7), e1, e2, List.map_cons, K_suf]
  rfl
theorem good_colon : Good 3 (mk [58]) := good_of (by decide +kernel)
theorem num_cls (n : UInt8) : clsAt (mk (numT n)) 0 = 4 := by
  have := byte_all (p := fun n => clsAt (mk (numT n)) 0 == 4) (by decide +kernel) n
  simpa using this
theorem wt_three (t : UInt8) {n : UInt8} (h : n.toNat < 8) : ∀ post o, St post → K (mk (numT t ++ [58] ++ regT n) ++ post) o = [(2, mk (numT t)), (3, mk [58]), (1, mk (regT n))] ++ K post true := by
  intro post o hs
  rw [mk_append, mk_append, app_assoc, app_assoc]
  obtain ⟨g0, _⟩ := good_num t
  have hcol : ∃ hh : 0 < (mk [58] ++ (mk (regT n) ++ post)).size, (mk [58] ++ (mk (regT n) ++ post))[0] = 58 := one_at 58 _
  obtain ⟨hc0, hc1⟩ := hcol
  have e1 : tokTo (mk (numT t) ++ (mk [58] ++ (mk (regT n) ++ post))) 0 = (mk (numT t)).size := by
    have hg := (good_num t).2.2.2.2.2
    unfold tokTo numTo at hg ⊢
    rw [clsAt_pre g0, num_cls, if_neg (by decide), if_pos rfl];rw [num_cls, if_neg (by decide), if_pos rfl] at hg
    rw [runTo_by ⟨hc0, by rw [hc1]; decide⟩ _ _ rfl (by omega), hg]
  have e2 : tokTo (mk [58] ++ (mk (regT n) ++ post)) 0 = (mk [58]).size := by
    have hcls : clsAt (mk [58] ++ (mk (regT n) ++ post)) 0 = 6 := by unfold clsAt; rw [dif_pos hc0, hc1]; decide
    unfold tokTo signTo
    rw [hcls, if_neg (by decide), if_neg (by decide)]
    have : isEq2 (mk [58] ++ (mk (regT n) ++ post)) 0 = false := by
      unfold isEq2
      split
      · have h1 : (mk [58] ++ (mk (regT n) ++ post))[0].toNat = 58 := by rw [hc1]; rfl
        rw [h1]; rfl
      · rfl
    rw [this]
    rfl
  rw [K_by o (good_num t) e1, K_by true good_colon e2, K_tok true (good_reg h) hs]
  rfl
-- PtQ
def At (c : PX) (i : Nat) (l : List (Nat × List UInt8)) : Prop := ∀ a x, l[a]? = some x → c.kind (i + a) = x.1 ∧ (c.text (i + a)).toList = x.2
section
variable {c : PX} {i : Nat}
theorem At.head {x : Nat × List UInt8} {l : List (Nat × List UInt8)} (h : At c i (x :: l)) : c.kind i = x.1 ∧ (c.text i).toList = x.2 := h 0 x rfl
theorem At.tail {x : Nat × List UInt8} {l : List (Nat × List UInt8)} (h : At c i (x :: l)) : At c (i + 1) l := fun a y hy => by
  have := h (a + 1) y hy
  rwa [show i + (a + 1) = i + 1 + a by omega] at this
theorem At.fore {l r : List (Nat × List UInt8)} (h : At c i (l ++ r)) : At c i l := fun a y hy => h a y (by
  rw [List.getElem?_append_left (List.getElem?_eq_some_iff.1 hy).1]; exact hy)
theorem At.back {l r : List (Nat × List UInt8)} (h : At c i (l ++ r)) : At c (i + l.length) r := fun a y hy => by
  have := h (l.length + a) y (by rw [List.getElem?_append_right (by omega), show l.length + a - l.length = a by omega]; exact hy)
  rwa [show i + (l.length + a) = i + l.length + a by omega] at this
theorem word_at {t : List UInt8} (h : c.kind i = 1 ∧ (c.text i).toList = t) : (c.word i).toList = t := by unfold PX.word; rw [if_pos h.1]; exact h.2
theorem word_not {k : Nat} {t : List UInt8} (h : c.kind i = k ∧ (c.text i).toList = t) (hk : k ≠ 1) : c.word i = ByteArray.empty := by unfold PX.word; rw [if_neg (by rw [h.1]; exact hk)]
theorem kw_at {t s : List UInt8} (h : c.kind i = 1 ∧ (c.text i).toList = t) : c.kw i s = (t == s) := by unfold PX.kw; rw [word_at h]
theorem kw_not {k : Nat} {t : List UInt8} (h : c.kind i = k ∧ (c.text i).toList = t) (hk : k ≠ 1) (x : UInt8) (r : List UInt8) : c.kw i (x :: r) = false := by unfold PX.kw; rw [word_not h hk]; simp
theorem is_at {t s : List UInt8} (h : c.kind i = 3 ∧ (c.text i).toList = t) : c.is i s = (t == s) := by unfold PX.is; rw [h.1, h.2]; rfl
theorem is_not {k : Nat} {t s : List UInt8} (h : c.kind i = k ∧ (c.text i).toList = t) (hk : k ≠ 3) : c.is i s = false := by unfold PX.is; rw [h.1, beq_eq_false_iff_ne.2 hk]; rfl
end
def argK (r : Bool) (n : UInt8) : Nat × List UInt8 := if r then (1, regT n) else (2, numT n)
def modeK (m special : UInt8) (word : List UInt8) : List (Nat × List UInt8) := if m = special then [(1, word)] else []
def insK (locs : List ByteArray) (x : Ins) : List (Nat × List UInt8) :=
  if x.op = 1 then [(1, regT x.dst), (3, [61]), (1, locT locs x.loc)] ++ modeK x.mode 1 [97, 99, 113]
  else if x.op = 2 then [(1, locT locs x.loc), (3, [61]), argK x.aR x.aN] ++ modeK x.mode 2 [114, 101, 108]
  else if x.op = 3 then [(1, regT x.dst), (3, [61]), argK x.aR x.aN, (3, fnT x.fn 1 3), argK x.bR x.bN]
  else if x.op = 4 then [(1, regT x.dst), (3, [61]), (1, [115, 119, 97, 112]), (1, locT locs x.loc), argK x.aR x.aN]
  else if x.op = 5 then [(1, regT x.dst), (3, [61]), (1, [102, 101, 116, 99, 104]), (1, locT locs x.loc), argK x.aR x.aN]
  else if x.op = 6 then [(1, regT x.dst), (3, [61]), (1, [99, 97, 115]), (1, locT locs x.loc), argK x.aR x.aN, argK x.bR x.bN]
  else if x.op = 7 then (1, [102, 101, 110, 99, 101]) :: (modeK x.mode 4 [108, 111, 97, 100, 115] ++ modeK x.mode 5 [115, 116, 111, 114, 101, 115])
  else [(1, [115, 107, 105, 112]), (2, numT x.skip), (1, [105, 102]), argK x.aR x.aN, (3, fnT x.fn 4 6), argK x.bR x.bN]
def ArgR (r : Bool) (n : UInt8) : Prop := r = true → n.toNat < 8
inductive PrIns (n : Nat) : Ins → Prop where
  | load (d l m : UInt8) : d.toNat < 8 → l.toNat < n → m = 0 ∨ m = 1 → PrIns n ⟨1, d, l, false, 0, false, 0, 0, m, 0⟩
  | store (l : UInt8) (r : Bool) (v m : UInt8) : l.toNat < n → ArgR r v → m = 0 ∨ m = 2 → PrIns n ⟨2, 0, l, r, v, false, 0, 0, m, 0⟩
  | move (d : UInt8) (r : Bool) (v : UInt8) (f : UInt8) (q : Bool) (u : UInt8) : d.toNat < 8 → ArgR r v → ArgR q u → f = 1 ∨ f = 2 ∨ f = 3 → PrIns n ⟨3, d, 0, r, v, q, u, f, 0, 0⟩
  | swap (d l : UInt8) (r : Bool) (v : UInt8) : d.toNat < 8 → l.toNat < n → ArgR r v → PrIns n ⟨4, d, l, r, v, false, 0, 0, 0, 0⟩
  | fetch (d l : UInt8) (r : Bool) (v : UInt8) : d.toNat < 8 → l.toNat < n → ArgR r v → PrIns n ⟨5, d, l, r, v, false, 0, 0, 0, 0⟩
  | cas (d l : UInt8) (r : Bool) (v : UInt8) (q : Bool) (u : UInt8) : d.toNat < 8 → l.toNat < n → ArgR r v → ArgR q u → PrIns n ⟨6, d, l, r, v, q, u, 0, 0, 0⟩
  | fence (m : UInt8) : m = 3 ∨ m = 4 ∨ m = 5 → PrIns n ⟨7, 0, 0, false, 0, false, 0, 0, m, 0⟩
  | skip (k : UInt8) (r : Bool) (v : UInt8) (f : UInt8) (q : Bool) (u : UInt8) : ArgR r v → ArgR q u → f = 4 ∨ f = 5 ∨ f = 6 → PrIns n ⟨8, 0, 0, r, v, q, u, f, 0, k⟩
section
variable {c : PX} {s : PS}
theorem reg_back {n : UInt8} (h : c.kind s.pos = 1 ∧ (c.text s.pos).toList = regT n) (hn : n.toNat < 8) : regQ c s = .ok n s.next ∧ regOk (c.word s.pos) = true ∧ nameOk (c.word s.pos) = false := by
  obtain ⟨h1, h2, h3⟩ := regT_back hn (word_at h)
  refine ⟨?_, h1, h3⟩
  unfold regQ
  rw [if_pos h1, h2]
  simp
theorem num_back {n : UInt8} (h : c.kind s.pos = 2 ∧ (c.text s.pos).toList = numT n) : numQ c s = .ok n s.next := by
  obtain ⟨h1, h2⟩ := numT_back h.2
  unfold numQ
  rw [if_pos ⟨h.1, h1⟩, h2]
  simp
theorem arg_back {r : Bool} {n : UInt8} (h : c.kind s.pos = (argK r n).1 ∧ (c.text s.pos).toList = (argK r n).2) (hr : ArgR r n) : argP' c s = .ok (r, n) s.next := by
  unfold argP'
  cases r with
  | true =>
    have h : c.kind s.pos = 1 ∧ (c.text s.pos).toList = regT n := h
    rw [if_neg (by rw [h.1]; decide), (reg_back h (hr rfl)).1]
    rfl
  | false =>
    have h : c.kind s.pos = 2 ∧ (c.text s.pos).toList = numT n := h
    rw [if_pos h.1, num_back h]
    rfl
theorem sign_back {t : List UInt8} (h : c.kind s.pos = 3 ∧ (c.text s.pos).toList = t) : signP c t s = .ok () s.next := by
  unfold signP
  rw [is_at h, beq_self_eq_true, if_pos rfl]
theorem loc_text {locs : List ByteArray} {l : UInt8} (hl : l.toNat < locs.length) : ∃ w ∈ locs, locT locs l = w.toList ∧ locs[l.toNat]? = some w := by
  refine ⟨locs[l.toNat], List.getElem_mem _, ?_, List.getElem?_eq_getElem hl⟩
  unfold locT
  rw [List.getElem?_eq_getElem hl]
theorem idx_back {w u : ByteArray} (hw : w.toList = u.toList) : ∀ {l : List ByteArray} {k j : Nat}, l.Pairwise (fun a b => a.toList ≠ b.toList) → l[j]? = some u → idxOf w l k = some (k + j)
  | [], _, _, _, h => by cases h
  | x :: r, k, 0, hp, h => by
    cases h
    unfold idxOf
    rw [hw, beq_self_eq_true, if_pos rfl]
    rfl
  | x :: r, k, j + 1, hp, h => by
    have hp := List.pairwise_cons.1 hp
    have hne : x.toList ≠ u.toList := hp.1 u (List.mem_of_getElem? (show r[j]? = some u from h))
    unfold idxOf
    rw [if_neg (by rw [hw]; intro e; exact hne (eq_of_beq e).symm), idx_back hw hp.2 (show r[j]? = some u from h)]
    congr 1; omega
theorem loc_back {locs : List ByteArray} {l : UInt8} (hn : NmOk locs) (hs : s.names = locs) (hl : l.toNat < locs.length) (h : c.kind s.pos = 1 ∧ (c.text s.pos).toList = locT locs l) : locP c s = .ok l s.next ∧ nameOk (c.word s.pos) = true := by
  obtain ⟨w, hw, e1, e2⟩ := loc_text hl
  have e3 : c.word s.pos = w := eq_of_toList ((word_at h).trans e1)
  have hok : nameOk (c.word s.pos) = true := by rw [e3]; exact hn.ok w hw
  refine ⟨?_, hok⟩
  unfold locP
  rw [if_pos hok, hs, idx_back (by rw [e3]) hn.apart e2]
  show Rs.ok (UInt8.ofNat (0 + l.toNat)) s.next = _
  rw [Nat.zero_add]
  simp
theorem name_at {locs : List ByteArray} {l : UInt8} {i : Nat} (hn : NmOk locs) (hl : l.toNat < locs.length) (h : c.kind i = 1 ∧ (c.text i).toList = locT locs l) : nameOk (c.word i) = true ∧ regOk (c.word i) = false ∧ ∀ k ∈ keptL, c.kw i k = false := by
  obtain ⟨w, hw, e1, e2⟩ := loc_text hl
  have e3 : c.word i = w := eq_of_toList ((word_at h).trans e1)
  have hok : nameOk (c.word i) = true := by rw [e3]; exact hn.ok w hw
  refine ⟨hok, name_noreg hok, fun k hk => ?_⟩
  unfold PX.kw
  exact beq_eq_false_iff_ne.2 fun e => name_nokey hok (e ▸ hk)
theorem reg_kw {n : UInt8} {i : Nat} (h : c.kind i = 1 ∧ (c.text i).toList = regT n) {x : UInt8} {r : List UInt8} (hx : x ≠ 114) : c.kw i (x :: r) = false := by
  rw [kw_at h]
  refine beq_eq_false_iff_ne.2 fun e => ?_
  have : 114 = x := (List.cons.inj e).1
  exact hx this.symm
theorem arg_kw {r : Bool} {n : UInt8} {i : Nat} (h : c.kind i = (argK r n).1 ∧ (c.text i).toList = (argK r n).2) (hr : ArgR r n) {x : UInt8} {t : List UInt8} (hx : x ≠ 114) : c.kw i (x :: t) = false ∧ nameOk (c.word i) = false := by
  cases r with
  | true =>
    have h : c.kind i = 1 ∧ (c.text i).toList = regT n := h
    exact ⟨reg_kw h hx, (reg_back (s := ⟨i, []⟩) h (hr rfl)).2.2⟩
  | false =>
    have h : c.kind i = 2 ∧ (c.text i).toList = numT n := h
    exact ⟨kw_not h (by decide) _ _, by rw [word_not h (by decide)]; exact nameOk_nil⟩
end
-- PtR
section
variable {c : PX} {s : PS}
theorem start_reg {n : UInt8} (h : c.kind s.pos = 1 ∧ (c.text s.pos).toList = regT n) (hn : n.toNat < 8) : mayP c s.pos = true ∧ startP c s.pos = 2 := by
  have h1 := (reg_back h hn).2.1
  unfold mayP startP
  rw [reg_kw h (by decide), reg_kw h (by decide), h1]
  exact ⟨rfl, rfl⟩
theorem start_loc {locs : List ByteArray} {l : UInt8} (hn : NmOk locs) (hl : l.toNat < locs.length) (h : c.kind s.pos = 1 ∧ (c.text s.pos).toList = locT locs l) : mayP c s.pos = true ∧ startP c s.pos = 3 := by
  obtain ⟨h1, h2, h3⟩ := name_at hn hl h
  unfold mayP startP
  rw [h3 _ key_fence, h3 _ key_skip, h1, h2]
  exact ⟨rfl, rfl⟩
theorem start_fence (h : c.kind s.pos = 1 ∧ (c.text s.pos).toList = [102, 101, 110, 99, 101]) : mayP c s.pos = true ∧ startP c s.pos = 0 := by
  have e := kw_at (s := [102, 101, 110, 99, 101]) h
  rw [beq_self_eq_true] at e
  unfold mayP startP
  rw [e]
  exact ⟨rfl, rfl⟩
theorem start_skip (h : c.kind s.pos = 1 ∧ (c.text s.pos).toList = [115, 107, 105, 112]) : mayP c s.pos = true ∧ startP c s.pos = 1 := by
  have e := kw_at (s := [115, 107, 105, 112]) h
  have e2 := kw_at (s := [102, 101, 110, 99, 101]) h
  rw [beq_self_eq_true] at e
  rw [show (([115, 107, 105, 112] : List UInt8) == [102, 101, 110, 99, 101]) = false by decide] at e2
  unfold mayP startP
  rw [e, e2]
  exact ⟨rfl, rfl⟩
theorem fn_back {f : UInt8} (hf : f = 1 ∨ f = 2 ∨ f = 3) (h : c.kind s.pos = 3 ∧ (c.text s.pos).toList = fnT f 1 3) : fnP c s = some f := by
  unfold fnP
  rw [is_at h, is_at h, is_at h]
  rcases hf with rfl | rfl | rfl <;> rfl
theorem test_back {f : UInt8} (hf : f = 4 ∨ f = 5 ∨ f = 6) (h : c.kind s.pos = 3 ∧ (c.text s.pos).toList = fnT f 4 6) : testP c s = some f := by
  unfold testP
  rw [is_at h, is_at h, is_at h]
  rcases hf with rfl | rfl | rfl <;> rfl
theorem kw_eq {t : List UInt8} {i : Nat} (h : c.kind i = 1 ∧ (c.text i).toList = t) : c.kw i t = true := by rw [kw_at h]; exact beq_self_eq_true t
theorem kw_ne {t r : List UInt8} {i : Nat} (h : c.kind i = 1 ∧ (c.text i).toList = t) (hne : (t == r) = false) : c.kw i r = false := by rw [kw_at h]; exact hne
theorem kw_last {i : Nat} (h : c.kind i = 4 ∧ (c.text i).toList = []) (x : UInt8) (r : List UInt8) : c.kw i (x :: r) = false := kw_not h (by decide) x r
theorem assign_tail {d : UInt8} {l : List (Nat × List UInt8)} (hd : d.toNat < 8) (h : At c s.pos ((1, regT d) :: (3, [61]) :: l)) : assignP c s =
    (if c.kw (s.pos + 2) [115, 119, 97, 112] then (locP c s.next.next.next).bind fun k s3 => (argP' c s3).bind fun x s4 => .ok { zIns with op := 4, dst := d, loc := k, aR := x.1, aN := x.2 } s4
    else if c.kw (s.pos + 2) [102, 101, 116, 99, 104] then (locP c s.next.next.next).bind fun k s3 => (argP' c s3).bind fun x s4 => .ok { zIns with op := 5, dst := d, loc := k, aR := x.1, aN := x.2 } s4
    else if c.kw (s.pos + 2) [99, 97, 115] then (locP c s.next.next.next).bind fun k s3 => (argP' c s3).bind fun x s4 => (argP' c s4).bind fun y s5 => .ok { zIns with op := 6, dst := d, loc := k, aR := x.1, aN := x.2, bR := y.1, bN := y.2 } s5
    else if nameOk (c.word (s.pos + 2)) = true then (locP c s.next.next).bind fun k s3 =>
      if c.kw s3.pos [97, 99, 113] then .ok { zIns with op := 1, dst := d, loc := k, mode := 1 } s3.next else .ok { zIns with op := 1, dst := d, loc := k } s3
    else moveP' c d s.next.next) := by
  unfold assignP
  rw [(reg_back h.head hd).1]
  show (signP c [61] s.next).bind _ = _
  rw [sign_back (s := s.next) h.tail.head]
  rfl
theorem ins_back {locs : List ByteArray} (hn : NmOk locs) (hs : s.names = locs) {x : Ins} (hx : PrIns locs.length x) (h : At c s.pos (insK locs x ++ [(4, [])])) :
    mayP c s.pos = true ∧ insP c (startP c s.pos) s = .ok x ⟨s.pos + (insK locs x).length, locs⟩ := by
  subst hs
  cases hx with
  | load d l m hd hl hm =>
    have h0 : At c s.pos ((1, regT d) :: (3, [61]) :: ((1, locT s.names l) :: modeK m 1 [97, 99, 113] ++ [(4, [])])) := h
    obtain ⟨e1, e2⟩ := start_reg h0.head hd
    refine ⟨e1, ?_⟩
    rw [e2]
    show assignP c s = _
    rw [assign_tail hd h0]
    have hl2 : c.kind (s.pos + 2) = 1 ∧ (c.text (s.pos + 2)).toList = locT s.names l := h0.tail.tail.head
    obtain ⟨f1, f2, f3⟩ := name_at hn hl hl2
    rw [f3 _ key_swap, f3 _ key_fetch, f3 _ key_cas, f1]
    have f4 := (loc_back (s := s.next.next) hn rfl hl hl2).1
    show ((locP c s.next.next).bind _) = _
    rw [f4]
    rcases hm with rfl | rfl
    · have h3 : c.kind (s.pos + 3) = 4 ∧ (c.text (s.pos + 3)).toList = [] := h0.tail.tail.tail.head
      show (if c.kw (s.pos + 3) [97, 99, 113] then _ else _) = _
      rw [kw_last h3]
      rfl
    · have h3 : c.kind (s.pos + 3) = 1 ∧ (c.text (s.pos + 3)).toList = [97, 99, 113] := h0.tail.tail.tail.head
      show (if c.kw (s.pos + 3) [97, 99, 113] then _ else _) = _
      rw [kw_eq h3]
      rfl
  | store l r v m hl hr hm =>
    have h0 : At c s.pos ((1, locT s.names l) :: (3, [61]) :: argK r v :: (modeK m 2 [114, 101, 108] ++ [(4, [])])) := h
    obtain ⟨e1, e2⟩ := start_loc hn hl h0.head
    refine ⟨e1, ?_⟩
    rw [e2]
    show storeP c s = _
    unfold storeP
    rw [(loc_back hn rfl hl h0.head).1]
    show ((signP c [61] s.next).bind _) = _
    rw [sign_back (s := s.next) h0.tail.head]
    show ((argP' c s.next.next).bind _) = _
    rw [arg_back (s := s.next.next) h0.tail.tail.head hr]
    rcases hm with rfl | rfl
    · have h3 : c.kind (s.pos + 3) = 4 ∧ (c.text (s.pos + 3)).toList = [] := h0.tail.tail.tail.head
      show (if c.kw (s.pos + 3) [114, 101, 108] then _ else _) = _
      rw [kw_last h3]
      rfl
    · have h3 : c.kind (s.pos + 3) = 1 ∧ (c.text (s.pos + 3)).toList = [114, 101, 108] := h0.tail.tail.tail.head
      show (if c.kw (s.pos + 3) [114, 101, 108] then _ else _) = _
      rw [kw_eq h3]
      rfl
  | move d r v f q u hd hr hq hf =>
    have h0 : At c s.pos ((1, regT d) :: (3, [61]) :: argK r v :: (3, fnT f 1 3) :: argK q u :: [(4, [])]) := h
    obtain ⟨e1, e2⟩ := start_reg h0.head hd
    refine ⟨e1, ?_⟩
    rw [e2]
    show assignP c s = _
    rw [assign_tail hd h0]
    have h2 : c.kind (s.pos + 2) = (argK r v).1 ∧ (c.text (s.pos + 2)).toList = (argK r v).2 := h0.tail.tail.head
    rw [(arg_kw h2 hr (by decide)).1, (arg_kw h2 hr (by decide)).1, (arg_kw h2 hr (by decide)).1, (arg_kw (x := 0) (t := []) h2 hr (by decide)).2]
    show moveP' c d s.next.next = _
    unfold moveP'
    rw [arg_back (s := s.next.next) h2 hr]
    show (match fnP c s.next.next.next with | some f => _ | none => _) = _
    rw [fn_back (s := s.next.next.next) hf h0.tail.tail.tail.head]
    show ((argP' c s.next.next.next.next).bind _) = _
    rw [arg_back (s := s.next.next.next.next) h0.tail.tail.tail.tail.head hq]
    rfl
  | swap d l r v hd hl hr =>
    have h0 : At c s.pos ((1, regT d) :: (3, [61]) :: (1, [115, 119, 97, 112]) :: (1, locT s.names l) :: argK r v :: [(4, [])]) := h
    obtain ⟨e1, e2⟩ := start_reg h0.head hd
    refine ⟨e1, ?_⟩
    rw [e2]
    show assignP c s = _
    rw [assign_tail hd h0, kw_eq h0.tail.tail.head]
    show ((locP c s.next.next.next).bind _) = _
    rw [(loc_back (s := s.next.next.next) hn rfl hl h0.tail.tail.tail.head).1]
    show ((argP' c s.next.next.next.next).bind _) = _
    rw [arg_back (s := s.next.next.next.next) h0.tail.tail.tail.tail.head hr]
    rfl
  | fetch d l r v hd hl hr =>
    have h0 : At c s.pos ((1, regT d) :: (3, [61]) :: (1, [102, 101, 116, 99, 104]) :: (1, locT s.names l) :: argK r v :: [(4, [])]) := h
    obtain ⟨e1, e2⟩ := start_reg h0.head hd
    refine ⟨e1, ?_⟩
    rw [e2]
    show assignP c s = _
    rw [assign_tail hd h0, kw_ne h0.tail.tail.head (by decide), kw_eq h0.tail.tail.head]
    show ((locP c s.next.next.next).bind _) = _
    rw [(loc_back (s := s.next.next.next) hn rfl hl h0.tail.tail.tail.head).1]
    show ((argP' c s.next.next.next.next).bind _) = _
    rw [arg_back (s := s.next.next.next.next) h0.tail.tail.tail.tail.head hr]
    rfl
  | cas d l r v q u hd hl hr hq =>
    have h0 : At c s.pos ((1, regT d) :: (3, [61]) :: (1, [99, 97, 115]) :: (1, locT s.names l) :: argK r v :: argK q u :: [(4, [])]) := h
    obtain ⟨e1, e2⟩ := start_reg h0.head hd
    refine ⟨e1, ?_⟩
    rw [e2]
    show assignP c s = _
    rw [assign_tail hd h0, kw_ne h0.tail.tail.head (by decide), kw_ne h0.tail.tail.head (by decide), kw_eq h0.tail.tail.head]
    show ((locP c s.next.next.next).bind _) = _
    rw [(loc_back (s := s.next.next.next) hn rfl hl h0.tail.tail.tail.head).1]
    show ((argP' c s.next.next.next.next).bind _) = _
    rw [arg_back (s := s.next.next.next.next) h0.tail.tail.tail.tail.head hr]
    show ((argP' c s.next.next.next.next.next).bind _) = _
    rw [arg_back (s := s.next.next.next.next.next) h0.tail.tail.tail.tail.tail.head hq]
    rfl
  | fence m hm =>
    have h0 : At c s.pos ((1, [102, 101, 110, 99, 101]) :: (modeK m 4 [108, 111, 97, 100, 115] ++ modeK m 5 [115, 116, 111, 114, 101, 115] ++ [(4, [])])) := h
    obtain ⟨e1, e2⟩ := start_fence h0.head
    refine ⟨e1, ?_⟩
    rw [e2]
    show fenceP c s = _
    unfold fenceP
    rcases hm with rfl | rfl | rfl
    · have h1 : c.kind (s.pos + 1) = 4 ∧ (c.text (s.pos + 1)).toList = [] := h0.tail.head
      rw [kw_last h1, kw_last h1]
      rfl
    · have h1 : c.kind (s.pos + 1) = 1 ∧ (c.text (s.pos + 1)).toList = [108, 111, 97, 100, 115] := h0.tail.head
      rw [kw_eq h1]
      rfl
    · have h1 : c.kind (s.pos + 1) = 1 ∧ (c.text (s.pos + 1)).toList = [115, 116, 111, 114, 101, 115] := h0.tail.head
      rw [kw_ne h1 (by decide), kw_eq h1]
      rfl
  | skip k r v f q u hr hq hf =>
    have h0 : At c s.pos ((1, [115, 107, 105, 112]) :: (2, numT k) :: (1, [105, 102]) :: argK r v :: (3, fnT f 4 6) :: argK q u :: [(4, [])]) := h
    obtain ⟨e1, e2⟩ := start_skip h0.head
    refine ⟨e1, ?_⟩
    rw [e2]
    show skipP c s = _
    unfold skipP
    rw [num_back (s := s.next) h0.tail.head]
    show (if c.kw (s.pos + 2) [105, 102] then _ else _) = _
    rw [kw_eq (i := s.pos + 2) h0.tail.tail.head]
    show ((argP' c s.next.next.next).bind _) = _
    rw [arg_back (s := s.next.next.next) h0.tail.tail.tail.head hr]
    show (match testP c s.next.next.next.next with | some f => _ | none => _) = _
    rw [test_back (s := s.next.next.next.next) hf h0.tail.tail.tail.tail.head]
    show ((argP' c s.next.next.next.next.next).bind _) = _
    rw [arg_back (s := s.next.next.next.next.next) h0.tail.tail.tail.tail.tail.head hq]
    rfl
end
-- PrK
theorem is_kind {c : PX} {i : Nat} {s : List UInt8} (h : c.is i s = true) : c.kind i = 3 ∧ (c.text i).toList = s := by
  unfold PX.is at h
  rw [Bool.and_eq_true, beq_iff_eq, beq_iff_eq] at h
  exact h
theorem is_else {c : PX} {i : Nat} {s r : List UInt8} (h : c.is i s = true) (hne : s ≠ r) : c.is i r = false := by
  unfold PX.is
  rw [(is_kind h).2, Bool.and_eq_false_iff, beq_eq_false_iff_ne]
  exact .inr (beq_eq_false_iff_ne.2 hne)
section
variable {a b d : PX} {ns : List ByteArray} {x y : Cnd} {k m : Nat}
end
end Go.Proofs.YtkchaoajegkadaaGreatDoor
