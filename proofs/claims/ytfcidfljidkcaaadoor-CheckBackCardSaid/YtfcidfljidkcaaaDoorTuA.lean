/-
  WALK2. Package check: inverse, Final; the law's back. Conditions: the numbers lie in memory.
-/
import Derived.Test.YtfcidfljidkcaaaDoorTuQ
import Derived.Test.YtfcidfljidkcaaaDoorVcX
import Derived.Test.YtfcidfljidkcaaaDoorVcZ
set_option linter.unusedSimpArgs false
set_option linter.unusedVariables false
namespace Go.Proofs.YtfcidfljidkcaaaDoor
open Go.RowKit
set_option maxRecDepth 100000
def intsZ (l : List Int) : List (List Value) := l.map fun n => [.int .i64 n]
theorem intsZ_at {w : World} {A : Option Addr} {l : List Int} (h : RowsAt w A 1 (intsZ l)) {k : Nat} {x : Int} (hk : l[k]? = some x) : ∃ b o, A = some ⟨b, o, none⟩ ∧ w.cell? ⟨b, o + k * 1, none⟩ = some (.int .i64 x) := by
  obtain ⟨b, o, h1, h2⟩ := h k [.int .i64 x] (by unfold intsZ; rw [List.getElem?_map, hk]; rfl)
  exact ⟨b, o, h1, by have := h2 0 _ rfl; rwa [Nat.add_zero] at this⟩
/-- How far inverse has come. -/
structure InvI (n : Nat) (l : List Int) (k : Nat) (seen cells : List Value) : Prop where
  le : k ≤ l.length
  sl : seen.length = n
  cl : cells.length = n
  rng : ∀ i ∈ l.take k, 0 ≤ i ∧ i < (n : Int)
  nod : (l.take k).Nodup
  seen : ∀ i : Nat, i < n → seen[i]? = some (.bool (decide ((i : Int) ∈ l.take k)))
  cells : ∀ (j i : Nat), j < k → l[j]? = some (i : Int) → cells[i]? = some (b8 (UInt8.ofNat j))
theorem inv_zero' {n : Nat} {l : List Int} : InvI n l 0 (List.replicate n (.bool false)) (List.replicate n (.int .u8 0)) where
  le := Nat.zero_le _
  sl := List.length_replicate
  cl := List.length_replicate
  rng := fun i hi => by simp at hi
  nod := by simp
  seen := fun i hi => by rw [List.getElem?_replicate, if_pos hi]; simp
  cells := fun j i hj => by omega
theorem inv_step {n : Nat} {l : List Int} {k i : Nat} {seen cells : List Value} (h : InvI n l k seen cells) (hk : l[k]? = some (i : Int)) (hi : i < n) (hs : (i : Int) ∉ l.take k) : InvI n l (k + 1) (seen.set i (.bool true)) (cells.set i (b8 (UInt8.ofNat k))) := by
  have hkl := (List.getElem?_eq_some_iff.1 hk).1
  have ht : l.take (k + 1) = l.take k ++ [(i : Int)] := by rw [List.take_add_one, hk]; rfl
  refine ⟨hkl, by rw [List.length_set]; exact h.sl, by rw [List.length_set]; exact h.cl, fun x hx => ?_, ?_, fun j hj => ?_, fun j q hj hq => ?_⟩
  · rw [ht] at hx
    rcases List.mem_append.1 hx with hx | hx
    · exact h.rng x hx
    · rw [List.mem_singleton.1 hx]; omega
  · rw [ht, List.nodup_append]
    refine ⟨h.nod, by simp, fun a ha b hb => ?_⟩
    rw [List.mem_singleton.1 hb]
    rintro rfl
    exact hs ha
  · rw [List.getElem?_set]
    by_cases e : i = j
    · subst e
      rw [if_pos rfl, if_pos (by rw [h.sl]; exact hi), ht]
      simp
    · rw [if_neg e, h.seen j hj, ht]
      have : ((j : Int) ∈ l.take k ++ [(i : Int)]) ↔ (j : Int) ∈ l.take k := by
        rw [List.mem_append, List.mem_singleton]
        exact ⟨fun h => h.elim id (fun h => absurd (by omega) e), .inl⟩
      simp only [this]
  · rw [List.getElem?_set]
    by_cases e : i = q
    · subst e
      have hjk : j = k := by
        rcases Nat.lt_or_ge j k with h1 | h1
        · exact absurd (List.mem_of_getElem? (i := j) (by rw [List.getElem?_take, if_pos h1]; exact hq)) hs
        · omega
      subst hjk
      rw [if_pos rfl, if_pos (by rw [h.cl]; exact hi)]
    · rw [if_neg e]
      rcases Nat.lt_or_ge j k with h1 | h1
      · exact h.cells j q h1 hq
      · have : j = k := by omega
        subst this
        rw [hk] at hq
        exact absurd (by have := Option.some.inj hq; omega) e
/-- What inverse has made of a permutation. -/
structure InvOut (n : Nat) (l : List Int) (cells : List Value) : Prop where
  len : cells.length = n
  at' : ∀ i : Nat, i < n → cells[i]? = some (b8 (UInt8.ofNat (posZ l i)))
theorem inv_end {n : Nat} {l : List Int} {seen cells : List Value} (hl : l.length = n) (h : InvI n l l.length seen cells) : IsPerm n l ∧ InvOut n l cells := by
  have hp : IsPerm n l := ⟨hl, fun i hi => h.rng i (by rw [List.take_length]; exact hi), by have := h.nod; rwa [List.take_length] at this⟩
  refine ⟨hp, h.cl, fun i hi => ?_⟩
  have := pos_at hp hi
  exact h.cells _ i (by rw [hl]; exact this.1) this.2
theorem seen_twice {l : List Int} {k : Nat} {x : Int} (h : l.Nodup) (hk : l[k]? = some x) (hm : x ∈ l.take k) : False := by
  obtain ⟨j, hj⟩ := List.mem_iff_getElem?.1 hm
  rw [List.getElem?_take] at hj
  split at hj
  · have := nod_at h hk hj; omega
  · cases hj
theorem flat_one : ∀ l : List Int, (intsZ l).flatten = l.map fun x => .int .i64 x
  | [] => rfl
  | x :: r => by
    have := flat_one r
    unfold intsZ at this ⊢
    rw [List.map_cons, List.flatten_cons, this]; rfl
theorem inverse_any (A : Option Addr) (C : Nat) (l : List Int) (n : Nat) (w0 : World) (hA : RowsAt w0 A 1 (intsZ l)) (hn : n ≤ 1000) (hl : l.length ≤ 9223372036854775807) :
    Calls Tryd.prog 17 #[.slice A l.length C, .int .i64 (n : Int)] w0 fun e w' => (IsPerm n l ∧ ∃ b cells, e = .returned (.tuple #[.slice (some ⟨b, 0, none⟩) n n, .bool true]) ∧ InvOut n l cells ∧ Own w0 none w' [.blk b cells 5]) ∨ (¬ IsPerm n l ∧ e = .returned (.tuple #[.slice none 0 0, .bool false]) ∧ Below w0.heap.size w0 w') := by
  have H := Own.start w0 none
  refine enterF Tryd.func17 rfl Tryd.ntmps17 rfl (fun a F => ?_)
  refine cSeq (fun K1 hK1 => ?_)
  refine cReg ?_
  refine sAs F rfl rfl rfl ?_;clear F a;intro a F
  refine sAs F rfl rfl rfl ?_;clear F a;intro a F
  refine sNil ?_
  refine hK1 _ _ ?_; clear hK1
  refine cSeq (fun K2 hK2 => ?_)
  refine cSeq (fun K3 hK3 => ?_)
  refine cReg ?_
  refine sMv F rfl rfl rfl ?_;clear F a;intro a F
  refine sLen Tryd.underlying35 F rfl rfl rfl ?_;clear F a;intro a F
  refine sMv F rfl rfl rfl ?_;clear F a;intro a F
  refine sBin F rfl rfl rfl rfl bNeq ?_;clear F a;intro a F
  refine sNil ?_
  refine hK3 _ _ ?_; clear hK3
  refine cIf F rfl (fun h13 => ?_) (fun h13 => ?_)
  ·
   replace h13 := bneT h13
   refine cSeq (fun K4 hK4 => ?_)
   refine cReg ?_
   refine sAs F rfl rfl rfl ?_;clear F a;intro a F
   refine sAs F rfl rfl rfl ?_;clear F a;intro a F
   refine sNil ?_
   refine hK4 _ _ ?_; clear hK4
   refine wp_ret ?_
   simp only [Exit.then]
   refine bRet2 Tryd.results17 F rfl rfl ?_
   first
   | (have hne : ¬ l.length = n := by omega
      exact .inr ⟨fun h => hne h.len, rfl, H.below⟩)
   | (have h37 : decide ((i : Int) ∈ l.take k) = true := h37
      exact .inr ⟨fun h => seen_twice h.nod hx (of_decide_eq_true h37), rfl, H.below⟩)
   | (have hlt : x < 0 := h27
      exact .inr ⟨fun h => by have := h.rng x hmem; omega, rfl, H.below⟩)
   | (have hge : x ≥ (n : Int) := h32
      exact .inr ⟨fun h => by have := h.rng x hmem; omega, rfl, H.below⟩)
   | (have hkl : k = l.length := by have := hI'.le; omega
      subst hkl
      obtain ⟨g1, g2⟩ := inv_end hln hI'
      exact .inl ⟨g1, _, _, rfl, g2, H.sel [0] rfl rfl⟩)
  replace h13 := bneF h13
  have hln : l.length = n := by omega
  refine wp_skip ?_
  refine hK2 _ _ ?_; clear hK2
  refine cSeq (fun K5 hK5 => ?_)
  refine cReg ?_
  refine sMv F rfl rfl rfl ?_;clear F a;intro a F
  refine sMk (z := .int .u8 0) (bytes := 1) H Tryd.underlying23 (by kernel_rfl) rfl F rfl rfl rfl rfl (by omega) (by omega) ?_
  clear F a H; intro b15 a w F H
  refine sAs F rfl rfl rfl ?_;clear F a;intro a F
  refine sNil ?_
  refine hK5 _ _ ?_; clear hK5
  refine cSeq (fun K6 hK6 => ?_)
  refine cReg ?_
  refine sMv F rfl rfl rfl ?_;clear F a;intro a F
  refine sMk (z := .bool false) (bytes := 1) H Tryd.underlying76 (by kernel_rfl) rfl F rfl rfl rfl rfl (by omega) (by omega) ?_
  clear F a H; intro b17 a w F H
  refine sAs F rfl rfl rfl ?_;clear F a;intro a F
  refine sNil ?_
  refine hK6 _ _ ?_; clear hK6
  refine cSeq (fun K7 hK7 => ?_)
  refine cSeq (fun K8 hK8 => ?_)
  refine cReg ?_
  refine sMv F rfl rfl rfl ?_;clear F a;intro a F
  refine sLen Tryd.underlying35 F rfl rfl rfl ?_;clear F a;intro a F
  refine sMv F rfl rfl rfl ?_;clear F a;intro a F
  refine sNil ?_
  refine hK8 _ _ ?_; clear hK8
  refine wp_block ?_
  refine cLoopR [1, 6, 7, 18, 19] (fun m ups w => ∃ (k : Nat) (seen cells : List Value), m = l.length - k ∧ ups = [(20, .int .i64 ((k : Nat) : Int))] ∧ InvI n l k seen cells ∧ Own w0 none w [.blk b17 seen 4, .blk b15 cells 5]) F (l.length) [(20, .int .i64 ((0 : Nat) : Int))] (by repeat (first | exact SubR.nil | (apply SubR.cons; · rfl))) ?_ ?_ ?_
  · exact ⟨0, _, _, rfl, rfl, inv_zero', H.sel [0, 1] rfl rfl⟩
  · repeat (first | exact trivial | refine Le.cons rfl ?_)
  clear F
  clear H
  intro m ups a w hI F
  obtain ⟨k, seen, cells, rfl, rfl, hI', H⟩ := hI
  refine cSeq (fun K9 hK9 => ?_)
  refine cReg ?_
  refine sBin F rfl rfl rfl rfl bLss ?_;clear F a;intro a F
  refine sNil ?_
  refine hK9 _ _ ?_; clear hK9
  refine cSeq (fun K10 hK10 => ?_)
  refine cIf F rfl (fun h21 => ?_) (fun h21 => ?_)
  ·
   replace h21 := of_decide_eq_true h21
   have hkl : k < l.length := by omega
   obtain ⟨x, hx⟩ : ∃ x, l[k]? = some x := ⟨_, List.getElem?_eq_getElem hkl⟩
   obtain ⟨bA, oA, rfl, hAx⟩ := intsZ_at hA hx
   have hmem : x ∈ l := List.mem_of_getElem? hx
   refine wp_skip ?_
   refine hK10 _ _ ?_; clear hK10
   refine cSeq (fun K11 hK11 => ?_)
   refine wp_block ?_
   refine cSeq (fun K12 hK12 => ?_)
   refine cReg ?_
   refine sMv F rfl rfl rfl ?_;clear F a;intro a F
   refine sIx Tryd.underlying35 Tryd.sizeOf3 F rfl rfl rfl rfl ?_ ?_
   focus (first | omega | decide | (simp; omega))
   clear F a; intro a F
   refine sLd Tryd.isAgg3 F rfl rfl rfl (H.arg hAx) ?_;clear F a;intro a F
   refine sAs F rfl rfl rfl ?_;clear F a;intro a F
   refine sAs F rfl rfl rfl ?_;clear F a;intro a F
   refine sNil ?_
   refine hK12 _ _ ?_; clear hK12
   refine cSeq (fun K13 hK13 => ?_)
   refine cSeq (fun K14 hK14 => ?_)
   refine cReg ?_
   refine sMv F rfl rfl rfl ?_;clear F a;intro a F
   refine sBin F rfl rfl rfl rfl bLss ?_;clear F a;intro a F
   refine sMv F rfl rfl rfl ?_;clear F a;intro a F
   refine F.split 27 rfl ?_ ?_ <;> (clear F; intro h27 F)
   ·
    replace h27 := of_decide_eq_true h27
    refine sSk F rfl rfl ?_;clear F a;intro a F
    refine sSk F rfl rfl ?_;clear F a;intro a F
    refine sSk F rfl rfl ?_;clear F a;intro a F
    refine sPk F rfl rfl rfl rfl ?_;clear F a;intro a F
    refine sMv F rfl rfl rfl ?_;clear F a;intro a F
    refine sSk F rfl rfl ?_;clear F a;intro a F
    refine sSk F rfl rfl ?_;clear F a;intro a F
    refine sSk F rfl rfl ?_;clear F a;intro a F
    refine sSk F rfl rfl ?_;clear F a;intro a F
    refine sPk F rfl rfl rfl rfl ?_;clear F a;intro a F
    refine sNil ?_
    refine hK14 _ _ ?_; clear hK14
    refine cIfT F rfl ?_
    refine cSeq (fun K15 hK15 => ?_)
    refine cReg ?_
    refine sAs F rfl rfl rfl ?_;clear F a;intro a F
    refine sAs F rfl rfl rfl ?_;clear F a;intro a F
    refine sNil ?_
    refine hK15 _ _ ?_; clear hK15
    refine wp_ret ?_
    simp only [Exit.inBlock, Exit.then]
    refine bRet2 Tryd.results17 F rfl rfl ?_
    first
    | (have hne : ¬ l.length = n := by omega
       exact .inr ⟨fun h => hne h.len, rfl, H.below⟩)
    | (have h37 : decide ((i : Int) ∈ l.take k) = true := h37
       exact .inr ⟨fun h => seen_twice h.nod hx (of_decide_eq_true h37), rfl, H.below⟩)
    | (have hlt : x < 0 := h27
       exact .inr ⟨fun h => by have := h.rng x hmem; omega, rfl, H.below⟩)
    | (have hge : x ≥ (n : Int) := h32
       exact .inr ⟨fun h => by have := h.rng x hmem; omega, rfl, H.below⟩)
    | (have hkl : k = l.length := by have := hI'.le; omega
       subst hkl
       obtain ⟨g1, g2⟩ := inv_end hln hI'
       exact .inl ⟨g1, _, _, rfl, g2, H.sel [1] rfl rfl⟩)
   replace h27 := of_decide_eq_false h27
   refine sMv F rfl rfl rfl ?_;clear F a;intro a F
   refine sMv F rfl rfl rfl ?_;clear F a;intro a F
   refine sBin F rfl rfl rfl rfl bGeq ?_;clear F a;intro a F
   refine sPk F rfl rfl rfl rfl ?_;clear F a;intro a F
   refine sMv F rfl rfl rfl ?_;clear F a;intro a F
   refine F.split 32 rfl ?_ ?_ <;> (clear F; intro h32 F)
   ·
    replace h32 := of_decide_eq_true h32
    refine sSk F rfl rfl ?_;clear F a;intro a F
    refine sSk F rfl rfl ?_;clear F a;intro a F
    refine sSk F rfl rfl ?_;clear F a;intro a F
    refine sSk F rfl rfl ?_;clear F a;intro a F
    refine sPk F rfl rfl rfl rfl ?_;clear F a;intro a F
    refine sNil ?_
    refine hK14 _ _ ?_; clear hK14
    refine cIfT F rfl ?_
    refine cSeq (fun K16 hK16 => ?_)
    refine cReg ?_
    refine sAs F rfl rfl rfl ?_;clear F a;intro a F
    refine sAs F rfl rfl rfl ?_;clear F a;intro a F
    refine sNil ?_
    refine hK16 _ _ ?_; clear hK16
    refine wp_ret ?_
    simp only [Exit.inBlock, Exit.then]
    refine bRet2 Tryd.results17 F rfl rfl ?_
    first
    | (have hne : ¬ l.length = n := by omega
       exact .inr ⟨fun h => hne h.len, rfl, H.below⟩)
    | (have h37 : decide ((i : Int) ∈ l.take k) = true := h37
       exact .inr ⟨fun h => seen_twice h.nod hx (of_decide_eq_true h37), rfl, H.below⟩)
    | (have hlt : x < 0 := h27
       exact .inr ⟨fun h => by have := h.rng x hmem; omega, rfl, H.below⟩)
    | (have hge : x ≥ (n : Int) := h32
       exact .inr ⟨fun h => by have := h.rng x hmem; omega, rfl, H.below⟩)
    | (have hkl : k = l.length := by have := hI'.le; omega
       subst hkl
       obtain ⟨g1, g2⟩ := inv_end hln hI'
       exact .inl ⟨g1, _, _, rfl, g2, H.sel [1] rfl rfl⟩)
   replace h32 := of_decide_eq_false h32
   obtain ⟨i, rfl⟩ : ∃ i : Nat, x = (i : Int) := ⟨x.toNat, by omega⟩
   have hin : i < n := by omega
   have hsl := hI'.sl
   have hcl := hI'.cl
   refine sMv F rfl rfl rfl ?_;clear F a;intro a F
   refine sMv F rfl rfl rfl ?_;clear F a;intro a F
   refine sIx Tryd.underlying76 Tryd.sizeOf4 F rfl rfl rfl rfl ?_ ?_
   focus omega
   clear F a; intro a F
   refine sLd Tryd.isAgg4 F rfl rfl rfl (H.cell 0 rfl (by simpa using hI'.seen i hin)) ?_;clear F a;intro a F
   refine sPk F rfl rfl rfl rfl ?_;clear F a;intro a F
   refine sNil ?_
   refine hK14 _ _ ?_; clear hK14
   refine cIf F rfl (fun h37 => ?_) (fun h37 => ?_)
   ·
    refine cSeq (fun K17 hK17 => ?_)
    refine cReg ?_
    refine sAs F rfl rfl rfl ?_;clear F a;intro a F
    refine sAs F rfl rfl rfl ?_;clear F a;intro a F
    refine sNil ?_
    refine hK17 _ _ ?_; clear hK17
    refine wp_ret ?_
    simp only [Exit.inBlock, Exit.then]
    refine bRet2 Tryd.results17 F rfl rfl ?_
    first
    | (have hne : ¬ l.length = n := by omega
       exact .inr ⟨fun h => hne h.len, rfl, H.below⟩)
    | (have h37 : decide ((i : Int) ∈ l.take k) = true := h37
       exact .inr ⟨fun h => seen_twice h.nod hx (of_decide_eq_true h37), rfl, H.below⟩)
    | (have hlt : x < 0 := h27
       exact .inr ⟨fun h => by have := h.rng x hmem; omega, rfl, H.below⟩)
    | (have hge : x ≥ (n : Int) := h32
       exact .inr ⟨fun h => by have := h.rng x hmem; omega, rfl, H.below⟩)
    | (have hkl : k = l.length := by have := hI'.le; omega
       subst hkl
       obtain ⟨g1, g2⟩ := inv_end hln hI'
       exact .inl ⟨g1, _, _, rfl, g2, H.sel [1] rfl rfl⟩)
   refine wp_skip ?_
   refine hK13 _ _ ?_; clear hK13
   refine cSeq (fun K18 hK18 => ?_)
   refine cReg ?_
   refine sMv F rfl rfl rfl ?_;clear F a;intro a F
   refine sMv F rfl rfl rfl ?_;clear F a;intro a F
   refine sIx Tryd.underlying76 Tryd.sizeOf4 F rfl rfl rfl rfl ?_ ?_
   focus omega
   clear F a; intro a F
   refine sSt H 0 Tryd.sizeOf4 F rfl rfl rfl rfl rfl (by simpa using hI'.seen i hin) ?_
   clear H; intro w H
   refine sNil ?_
   refine hK18 _ _ ?_; clear hK18
   refine cReg ?_
   refine sMv F rfl rfl rfl ?_;clear F a;intro a F
   refine sMv F rfl rfl rfl ?_;clear F a;intro a F
   refine sMv F rfl rfl rfl ?_;clear F a;intro a F
   refine sCv Tryd.underlying3 Tryd.underlying5 F rfl rfl rfl (wrap8 _) ?_;clear F a;intro a F
   refine sIx Tryd.underlying23 Tryd.sizeOf5 F rfl rfl rfl rfl ?_ ?_
   focus omega
   clear F a; intro a F
   refine sSt H 1 Tryd.sizeOf5 F rfl rfl rfl rfl rfl (List.getElem?_eq_getElem (by rw [hcl]; omega)) ?_
   clear H; intro w H
   refine sNil ?_
   refine hK11 _ _ ?_; clear hK11
   refine cReg ?_
   refine sBin F rfl rfl rfl rfl (bAddN (j := 1) ?_) ?_
   focus omega
   clear F a; intro a F
   refine sMv F rfl rfl rfl ?_;clear F a;intro a F
   refine sNil ?_
   (simp only [Nat.zero_add, Nat.mul_one] at H
    exact ⟨_, by omega, _, ⟨k + 1, _, _, rfl, rfl, inv_step hI' hx hin (of_decide_eq_false h37), H.sel [0, 1] rfl rfl⟩, F.to (by repeat (first | exact trivial | refine Le.cons rfl ?_))⟩)
  replace h21 := of_decide_eq_false h21
  refine wp_exit ?_
  refine hK7 _ _ ?_; clear hK7
  refine cSeq (fun K19 hK19 => ?_)
  refine cReg ?_
  refine sMv F rfl rfl rfl ?_;clear F a;intro a F
  refine sAs F rfl rfl rfl ?_;clear F a;intro a F
  refine sAs F rfl rfl rfl ?_;clear F a;intro a F
  refine sNil ?_
  refine hK19 _ _ ?_; clear hK19
  refine wp_ret ?_
  refine bRet2 Tryd.results17 F rfl rfl ?_
  first
  | (have hne : ¬ l.length = n := by omega
     exact .inr ⟨fun h => hne h.len, rfl, H.below⟩)
  | (have h37 : decide ((i : Int) ∈ l.take k) = true := h37
     exact .inr ⟨fun h => seen_twice h.nod hx (of_decide_eq_true h37), rfl, H.below⟩)
  | (have hlt : x < 0 := h27
     exact .inr ⟨fun h => by have := h.rng x hmem; omega, rfl, H.below⟩)
  | (have hge : x ≥ (n : Int) := h32
     exact .inr ⟨fun h => by have := h.rng x hmem; omega, rfl, H.below⟩)
  | (have hkl : k = l.length := by have := hI'.le; omega
     subst hkl
     obtain ⟨g1, g2⟩ := inv_end hln hI'
     exact .inl ⟨g1, _, _, rfl, g2, H.sel [1] rfl rfl⟩)
theorem back_any (A : Option Addr) (C : Nat) (l : List Int) (n k : Nat) (w0 : World) (hA : RowsAt w0 A 1 (intsZ l)) (hn : n ≤ 1000) (hp : IsPerm n l) (hk : k = l.length) :
    Calls Tryd.prog 9 #[.slice A k C] w0 fun e w' => ∃ b, e = .returned (.slice (some ⟨b, 0, none⟩) n n) ∧ Own w0 none w' [.blk b (intsZ (backZ n l)).flatten 3] := by
  subst hk
  have H := Own.start w0 none
  have hln := hp.len
  refine enterF Tryd.func9 rfl Tryd.ntmps9 rfl (fun a F => ?_)
  refine cSeq (fun K1 hK1 => ?_)
  refine cReg ?_
  refine sAs F rfl rfl rfl ?_;clear F a;intro a F
  refine sNil ?_
  refine hK1 _ _ ?_; clear hK1
  refine cSeq (fun K2 hK2 => ?_)
  refine cReg ?_
  refine sMv F rfl rfl rfl ?_;clear F a;intro a F
  refine sLen Tryd.underlying35 F rfl rfl rfl ?_;clear F a;intro a F
  refine sMk (z := .int .i64 0) (bytes := 8) H Tryd.underlying35 (by kernel_rfl) rfl F rfl rfl rfl rfl (by omega) (by omega) ?_
  clear F a H; intro b7 a w F H
  refine sAs F rfl rfl rfl ?_;clear F a;intro a F
  refine sNil ?_
  refine hK2 _ _ ?_; clear hK2
  refine cSeq (fun K3 hK3 => ?_)
  refine cSeq (fun K4 hK4 => ?_)
  refine cReg ?_
  refine sAs F rfl rfl rfl ?_;clear F a;intro a F
  refine sNil ?_
  refine hK4 _ _ ?_; clear hK4
  refine wp_block ?_
  refine cLoopR [0, 3] (fun m ups w => ∃ (k : Nat) (cells : List Value), m = l.length - k ∧ ups = [(4, .int .i64 ((k : Nat) : Int))] ∧ k ≤ l.length ∧ cells.length = n ∧ (∀ j, j < k → cells[idxZ l j]? = some (.int .i64 (j : Int))) ∧ Own w0 none w [.blk b7 cells 3]) F (l.length) [(4, .int .i64 ((0 : Nat) : Int))] (by repeat (first | exact SubR.nil | (apply SubR.cons; · rfl))) ?_ ?_ ?_
  · exact ⟨0, List.replicate l.length (.int .i64 0), rfl, rfl, Nat.zero_le _, by rw [List.length_replicate]; exact hln, fun j hj => by omega, H.sel [0] rfl rfl⟩
  · repeat (first | exact trivial | refine Le.cons rfl ?_)
  clear F
  clear H
  intro m ups a w hI F
  obtain ⟨k, cells, rfl, rfl, hk, hcl, hce, H⟩ := hI
  refine cSeq (fun K5 hK5 => ?_)
  refine cSeq (fun K6 hK6 => ?_)
  refine cReg ?_
  refine sMv F rfl rfl rfl ?_;clear F a;intro a F
  refine sMv F rfl rfl rfl ?_;clear F a;intro a F
  refine sLen Tryd.underlying35 F rfl rfl rfl ?_;clear F a;intro a F
  refine sBin F rfl rfl rfl rfl bLss ?_;clear F a;intro a F
  refine sNil ?_
  refine hK6 _ _ ?_; clear hK6
  refine cIf F rfl (fun h11 => ?_) (fun h11 => ?_)
  ·
   replace h11 := of_decide_eq_true h11
   have hkl : k < l.length := by omega
   obtain ⟨hx, hxn⟩ := idx_at hp (by omega : k < n)
   obtain ⟨bA, oA, rfl, hAx⟩ := intsZ_at hA hx
   refine wp_skip ?_
   refine hK5 _ _ ?_; clear hK5
   refine cSeq (fun K7 hK7 => ?_)
   refine wp_block ?_
   refine cSeq (fun K8 hK8 => ?_)
   refine cReg ?_
   refine sMv F rfl rfl rfl ?_;clear F a;intro a F
   refine sMv F rfl rfl rfl ?_;clear F a;intro a F
   refine sIx Tryd.underlying35 Tryd.sizeOf3 F rfl rfl rfl rfl ?_ ?_
   focus (first | omega | decide | (simp; omega))
   clear F a; intro a F
   refine sLd Tryd.isAgg3 F rfl rfl rfl (H.arg hAx) ?_;clear F a;intro a F
   refine sBin F rfl rfl rfl rfl bGeq ?_;clear F a;intro a F
   refine sMv F rfl rfl rfl ?_;clear F a;intro a F
   refine F.split 19 rfl ?_ ?_ <;> (clear F; intro h19 F)
   ·
    replace h19 := of_decide_eq_true h19
    refine sMv F rfl rfl rfl ?_;clear F a;intro a F
    refine sMv F rfl rfl rfl ?_;clear F a;intro a F
    refine sIx Tryd.underlying35 Tryd.sizeOf3 F rfl rfl rfl rfl ?_ ?_
    focus (first | omega | decide | (simp; omega))
    clear F a; intro a F
    refine sLd Tryd.isAgg3 F rfl rfl rfl (H.arg hAx) ?_;clear F a;intro a F
    refine sMv F rfl rfl rfl ?_;clear F a;intro a F
    refine sLen Tryd.underlying35 F rfl rfl rfl ?_;clear F a;intro a F
    refine sBin F rfl rfl rfl rfl bLss ?_;clear F a;intro a F
    refine sPk F rfl rfl rfl rfl ?_;clear F a;intro a F
    refine sNil ?_
    refine hK8 _ _ ?_; clear hK8
    refine cIf F rfl (fun h27 => ?_) (fun h27 => ?_)
    ·
     replace h27 := of_decide_eq_true h27
     refine cReg ?_
     refine sMv F rfl rfl rfl ?_;clear F a;intro a F
     refine sMv F rfl rfl rfl ?_;clear F a;intro a F
     refine sMv F rfl rfl rfl ?_;clear F a;intro a F
     refine sIx Tryd.underlying35 Tryd.sizeOf3 F rfl rfl rfl rfl ?_ ?_
     focus (first | omega | decide | (simp; omega))
     clear F a; intro a F
     refine sLd Tryd.isAgg3 F rfl rfl rfl (H.arg hAx) ?_;clear F a;intro a F
     refine sMv F rfl rfl rfl ?_;clear F a;intro a F
     refine sIx Tryd.underlying35 Tryd.sizeOf3 F rfl rfl rfl rfl ?_ ?_
     focus omega
     clear F a; intro a F
     refine sSt H 0 Tryd.sizeOf3 F rfl rfl rfl rfl rfl (List.getElem?_eq_getElem (by rw [hcl]; omega)) ?_
     clear H; intro w H
     refine sNil ?_
     refine hK7 _ _ ?_; clear hK7
     refine cReg ?_
     refine sMv F rfl rfl rfl ?_;clear F a;intro a F
     refine sBin F rfl rfl rfl rfl (bAddN (j := 1) ?_) ?_
     focus omega
     clear F a; intro a F
     refine sAs F rfl rfl rfl ?_;clear F a;intro a F
     refine sNil ?_
     (simp only [Nat.zero_add, Nat.mul_one] at H
      refine ⟨_, by omega, _, ⟨k + 1, _, rfl, rfl, hkl, by rw [List.length_set]; exact hcl, fun j hj => ?_, H.sel [0] rfl rfl⟩, F.to (by repeat (first | exact trivial | refine Le.cons rfl ?_))⟩
      rw [List.getElem?_set]
      by_cases e : idxZ l k = idxZ l j
      · have hjk : j = k := by rw [← pos_idx hp (by omega : j < n), ← e, pos_idx hp (by omega : k < n)]
        rw [if_pos e, if_pos (by rw [hcl]; exact hxn), hjk]
      · have hjk : j < k := by
         rcases Nat.lt_or_ge j k with h | h
         · exact h
         · exact absurd (by rw [show j = k by omega]) e
        rw [if_neg e]
        exact hce j hjk)
    replace h27 := of_decide_eq_false h27
    omega
   replace h19 := of_decide_eq_false h19
   omega
  replace h11 := of_decide_eq_false h11
  refine wp_exit ?_
  refine hK3 _ _ ?_; clear hK3
  refine cSeq (fun K9 hK9 => ?_)
  refine cReg ?_
  refine sMv F rfl rfl rfl ?_;clear F a;intro a F
  refine sAs F rfl rfl rfl ?_;clear F a;intro a F
  refine sNil ?_
  refine hK9 _ _ ?_; clear hK9
  refine wp_ret ?_
  refine bRet Tryd.results9 F rfl ?_
  have hkl : k = n := by omega
  have hcc : cells = (intsZ (backZ n l)).flatten := by
   have e0 : (intsZ (backZ n l)).flatten = (backZ n l).map fun x => .int .i64 x := flat_one _
   rw [e0]
   refine List.ext_getElem? fun i => ?_
   rcases Nat.lt_or_ge i n with hi | hi
   · have h1 := pos_at hp hi
     have h2 := hce _ (by rw [hkl]; exact h1.1)
     rw [idx_pos hp hi] at h2
     rw [h2, List.getElem?_map, back_get hi]; rfl
   · rw [List.getElem?_eq_none (by rw [hcl]; exact hi), List.getElem?_eq_none (by rw [List.length_map, (back_perm hp).len]; exact hi)]
  rw [hln, ← hcc]
  exact ⟨_, rfl, H.sel [0] rfl rfl⟩
end Go.Proofs.YtfcidfljidkcaaaDoor
