/-
  Plain Lean: a search whose states are given, as numbers; it finds what the search finds. Conditions: none.
-/
import Derived.Test.YtbgnapmaimkpkaaGreatDoorRnS1
import Derived.Test.YtbgnapmaimkpkaaGreatDoorRnF
import Derived.Test.YtbgnapmaimkpkaaGreatDoorBwA
set_option linter.unusedSimpArgs false
set_option linter.unusedVariables false
namespace Go.Proofs.YtbgnapmaimkpkaaGreatDoor
-- RnE
def ofN (n : Nat) : By := fun i => if i < 142 then UInt8.ofNat (n / 256 ^ i % 256) else 0
theorem ofN_tidy (n : Nat) : Tidy (ofN n) := fun i hi => if_neg (by omega)
def visitC (p : Prg) (m : UInt8) (most k : Nat) (L : List Nat) (s : By) : List Pss → Nat → List (Int × Pss) → Option (Nat × List (Int × Pss))
  | [], n, q => some (n, q)
  | x :: r, n, q => if (L.take n).any (fun y => same 142 (stepM p m s x) (ofN y)) = true then visitC p m most k L s r n q
    else if most ≤ n then none
    else match L[n]? with
      | none => none
      | some y => if same 142 (stepM p m s x) (ofN y) = true then visitC p m most k L s r (n + 1) (q ++ [((k : Int), x)]) else none
def searchC (p : Prg) (m : UInt8) (most : Nat) (L : List Nat) : Nat → Nat → Nat → List (Int × Pss) → List Nat → Option (Nat × List (Int × Pss) × List Nat)
  | 0, _, n, q, e => some (n, q, e)
  | f + 1, k, n, q, e => if n ≤ k then some (n, q, e) else match L[k]? with
    | none => none
    | some y => match visitC p m most k L (ofN y) (movesM p m (ofN y)) n q with
      | none => none
      | some (n', q') => searchC p m most L f (k + 1) n' q' (if (movesM p m (ofN y)).isEmpty then e ++ [k] else e)
theorem visitC_ok {p : Prg} {m : UInt8} {most k : Nat} {L : List Nat} {s : By} (hs : Fine p m s) : ∀ (r : List Pss) (n : Nat) (q : List (Int × Pss)) (n' : Nat) (q' : List (Int × Pss)), visitC p m most k L s r n q = some (n', q') → n ≤ L.length → (∀ y ∈ L.take n, Fine p m (ofN y)) → (∀ x ∈ r, x ∈ movesM p m s) →
    visitR p m most k s r ((L.take n).map ofN) q = some ((L.take n').map ofN, q') ∧ n' ≤ L.length ∧ n ≤ n' ∧ (∀ y ∈ L.take n', Fine p m (ofN y))
  | [], n, q, n', q', h, hn, hF, _ => by
    simp only [visitC, Option.some.injEq, Prod.mk.injEq] at h
    obtain ⟨rfl, rfl⟩ := h
    exact ⟨rfl, hn, Nat.le_refl _, hF⟩
  | x :: r, n, q, n', q', h, hn, hF, hr => by
    have hz := hs.step (hr x (by simp))
    have ein : isIn ((L.take n).map ofN) (stepM p m s x) = (L.take n).any (fun y => same 142 (stepM p m s x) (ofN y)) := by
      unfold isIn
      rw [List.any_map]; rfl
    have elen : ((L.take n).map ofN).length = n := by rw [List.length_map, List.length_take]; omega
    rw [visitC] at h;rw [visitR, ein, elen]
    split at h
    · rename_i hc
      rw [if_pos hc]
      exact visitC_ok hs r n q n' q' h hn hF (fun y hy => hr y (by simp [hy]))
    · rename_i hc
      rw [if_neg hc]
      split at h
      · cases h
      · rename_i hm
        rw [if_neg hm]
        split at h
        · cases h
        · rename_i y hy
          split at h
          · rename_i hsame
            have e : stepM p m s x = ofN y := (tidy_eq hz.t (ofN_tidy y)).1 hsame
            have hnl := (List.getElem?_eq_some_iff.1 hy).1
            have et : L.take (n + 1) = L.take n ++ [y] := by rw [List.take_add_one, hy]; rfl
            have := visitC_ok hs r (n + 1) _ n' q' h (by omega) (fun w hw => by
              rw [et] at hw
              rcases List.mem_append.1 hw with h1 | h1
              · exact hF w h1
              · obtain rfl : w = y := by simpa using h1
                rw [← e]; exact hz) (fun y hy => hr y (by simp [hy]))
            rw [et, List.map_append] at this
            obtain ⟨h1, h2, h3, h4⟩ := this
            refine ⟨?_, h2, by omega, h4⟩
            rw [e]; exact h1
          · cases h
theorem searchC_ok {p : Prg} {m : UInt8} {most : Nat} {L : List Nat} : ∀ (f k n : Nat) (q : List (Int × Pss)) (e : List Nat) (n' : Nat) (q' : List (Int × Pss)) (e' : List Nat), searchC p m most L f k n q e = some (n', q', e') → n ≤ L.length → (∀ y ∈ L.take n, Fine p m (ofN y)) →
    searchR p m most f k ⟨(L.take n).map ofN, q, e⟩ = some ⟨(L.take n').map ofN, q', e'⟩
  | 0, k, n, q, e, n', q', e', h, hn, hF => by
    simp only [searchC, Option.some.injEq, Prod.mk.injEq] at h
    obtain ⟨rfl, rfl, rfl⟩ := h
    rfl
  | f + 1, k, n, q, e, n', q', e', h, hn, hF => by
    rw [searchC] at h
    split at h
    · rename_i hk
      simp only [Option.some.injEq, Prod.mk.injEq] at h
      obtain ⟨rfl, rfl, rfl⟩ := h
      rw [searchR, List.getElem?_eq_none (by rw [List.length_map, List.length_take]; omega)]
    · rename_i hk
      split at h
      · cases h
      · rename_i y hy
        have hk2 : ((L.take n).map ofN)[k]? = some (ofN y) := by
          rw [List.getElem?_map, List.getElem?_take_of_lt (by omega), hy]; rfl
        have hFy := hF y (by
          rw [List.mem_iff_getElem?]
          exact ⟨k, by rw [List.getElem?_take_of_lt (by omega), hy]⟩)
        split at h
        · cases h
        · rename_i n2 q2 hv
          obtain ⟨h1, h2, h3, h4⟩ := visitC_ok hFy _ _ _ _ _ hv hn hF (fun x hx => hx)
          rw [searchR]
          simp only [hk2]
          simp only [h1]
          have := searchC_ok f (k + 1) n2 q2 _ n' q' e' h h2 h4
          rw [← this]
          congr 2
          by_cases hm : movesM p m (ofN y) = []
          · simp [hm]
          · have : (movesM p m (ofN y)).isEmpty = false := by simpa using hm
            simp [hm]
theorem reachC {p : Prg} {m : UInt8} {most : Nat} {L : List Nat} {y0 n : Nat} {q : List (Int × Pss)} {e : List Nat} (hp : rightErr p = 0) (hm : knownM m = true) (hy : L[0]? = some y0) (h0 : same 142 (startP p) (ofN y0) = true) (h : searchC p m most L (most + 1) 0 1 [(-1, ⟨0, false, 0⟩)] [] = some (n, q, e)) : reachR p m most = some ⟨(L.take n).map ofN, q, e⟩ := by
  have hF := fine_start (p := p) hp hm
  have e0 : startP p = ofN y0 := (tidy_eq hF.t (ofN_tidy y0)).1 h0
  have et : L.take 1 = [y0] := by
    cases L with
    | nil => cases hy
    | cons a r => cases hy; rfl
  have := searchC_ok (most + 1) 0 1 _ [] n q e h (by have := (List.getElem?_eq_some_iff.1 hy).1; omega) (fun y hy => by
    rw [et] at hy
    obtain rfl : y = y0 := by simpa using hy
    rw [← e0]; exact hF)
  rw [et] at this
  unfold reachR firstR
  rw [e0]; exact this
-- RnV
set_option maxRecDepth 1000000
def scL : List Nat := [0, 0x1000000000000000000000000000000000000000000000000000000000000000000000001, 0x100000000000000000000000000000000000000000000000000000001000000000000000000, 0x1000000000000000000000000000000000000000000000000000000000000000000000002, 0x101000000000000000000000000000000000000000000000000000001000000000000000001, 0x100000000000000000000000000000000000000000000000000000002000000000000000000, 0x101000000000000000000000000000000000000000000000000000001000000000000000002, 0x101000000000000000000000000000000000000000000000000000001000000000000000102, 0x101000000000000000000000000000000000000000000000000000102000000000000000001, 0x101000000000000000000000000000000000000000000000000000002000000000000000001, 0x101000000000000000000000000000000000000000000000000000102000000000000000002, 0x101000000000000000000000000000000000000000000000000000102000000000000000102, 0x101000000000000000000000000000000000000000000000000000002000000000000000102]
def tsL : List Nat := [0, 0x1000000000000000000000000000000000000000000000000000000000000000000000000000000000000000000000000000000000000000000000000000000000000000000000000000000000000000000000000000000000000000000000100000000000000000000000000000000000000000000000000000000000000000000000000000000000001, 0x100000000000000000000000000000000000000000000000000000000000000000000000000000000000000000000000000000000000000000000000000000000000000000000000101000000000000000000000000000000000000000000000000000000000000000000000000000000000000000000000000000000000000000001000000000000000000, 0x1000000000000000000000000000000000000000000000000000000000000000000000000000000000000000000000000000000000000000000000000000000000000000000000000000000000000000000000000000000000000000000000100000000000000000000000000000000000000000000000000000000000000000000000000000000000002, 0x1000000000000000000000000000000000000000000000000000000000000000000000001, 0x101000000000000000000000000000000000000000000000000000000000000000000000000000000000000000000000000000000000000000000000000000000000000000000000101000000000000000000000000000000000000000000000100000000000000000000000000000000000000000000000000000000000000000001000000000000000001, 0x100000000000000000000000000000000000000000000000000000000000000000000000000000000000000000000000000000000000000000000000000000000000000000000000101000000000000000000000000000000000000000000000000000000000000000000000000000000000000000000000000000000000000000002000000000000000000, 0x100000000000000000000000000000000000000000000000000000001000000000000000000, 0x1000000000000000000000000000000000000000000000000000000000000000000000002, 0x101000000000000000000000000000000000000000000000000000000000000000000000000000000000000000000000000000000000000000000000000000000000000000000000101000000000000000000000000000000000000000000000100000000000000000000000000000000000000000000000000000000000000000001000000000000000002, 0x100000000000000000000000000000000000000000000000000000000000000000000000000000000000000000000000000000000000000000000000000000000000000000000000101000000000000000000000000000000000000000000000000000000000001000000000000000000000000000000000000000000000000000001000000000000000001, 0x101000000000000000000000000000000000000000000000000000000000000000000000000000000000000000000000000000000000000000000000000000000000000000000000101000000000000000000000000000000000000000000000100000000000000000000000000000000000000000000000000000000000000000002000000000000000001, 0x1000000000000000000000000000000000000000000000000000000000000000000000000000000000000000000000000000000000000000000000000000000000000000000000000000000000000000000000000000000000000000000000100000000000100000000000000000000000000000000000000000000000000000001000000000000000001, 0x100000000000000000000000000000000000000000000000000000002000000000000000000, 0x100000000000000000000000000000000000000000000000000000000000000000000000000000000000000000000000000000000000000000000000000000000000000000000000101000000000000000000000000000000000000000000000000000000000001000000000000000000000000000000000000000000000000000001000000000000000002, 0x101000000000000000000000000000000000000000000000000000000000000000000000000000000000000000000000000000000000000000000000000000000000000000000000101000000000000000000000000000000000000000000000100000000000000000000000000000000000000000000000000000000000000000002000000000000000002, 0x1000000000000000000000000000000000000000000000000000000000000000000000000000000000000000000000000000000000000000000000000000000000000000000000000000000000000000000000000000000000000000000000100000000000100000000000000000000000000000000000000000000000000000001000000000000000002, 0x100000000000000000000000000000000000000000000000000000000000000000000000000000000000000000000000000000000000000000000000000000000000000000000000101000000000000000000000000000000000000000000000000000000000001000000000000000000000000000000000000000000000000000102000000000000000001, 0x101000000000000000000000000000000000000000000000000000001000000000000000001, 0x100000000000000000000000000000000000000000000000000000000000000000000000000000000000000000000000000000000000000000000000000000000000000000000000101000000000000000000000000000000000000000000000000000000000001000000000000000000000000000000000000000000000000000002000000000000000001, 0x1000000000000000000000000000000000000000000000000000000000000000000000000000000000000000000000000000000000000000000000000000000000000000000000000000000000000000000000000000000000000000000000100000000000100000000000000000000000000000000000000000000000000000002000000000000000001, 0x1000000000000000000000000000000000000000000000000000000000000000000000000000000000000000000000000000000000000000000000000000000000000000000000000000000000000000000000000000000000000000000000100000000000100000000000000000000000000000000000000000000000000000001000000000000000102, 0x100000000000000000000000000000000000000000000000000000000000000000000000000000000000000000000000000000000000000000000000000000000000000000000000101000000000000000000000000000000000000000000000000000000000001000000000000000000000000000000000000000000000000000102000000000000000002, 0x101000000000000000000000000000000000000000000000000000001000000000000000002, 0x100000000000000000000000000000000000000000000000000000000000000000000000000000000000000000000000000000000000000000000000000000000000000000000000101000000000000000000000000000000000000000000000000000000000001000000000000000000000000000000000000000000000000000002000000000000000002, 0x1000000000000000000000000000000000000000000000000000000000000000000000000000000000000000000000000000000000000000000000000000000000000000000000000000000000000000000000000000000000000000000000100000000000100000000000000000000000000000000000000000000000000000002000000000000000002, 0x101000000000000000000000000000000000000000000000000000102000000000000000001, 0x101000000000000000000000000000000000000000000000000000001000000000000000102, 0x101000000000000000000000000000000000000000000000000000002000000000000000001, 0x1000000000000000000000000000000000000000000000000000000000000000000000000000000000000000000000000000000000000000000000000000000000000000000000000000000000000000000000000000000000000000000000100000000000100000000000000000000000000000000000000000000000000000002000000000000000102, 0x101000000000000000000000000000000000000000000000000000102000000000000000002, 0x101000000000000000000000000000000000000000000000000000002000000000000000002, 0x101000000000000000000000000000000000000000000000000000102000000000000000102, 0x101000000000000000000000000000000000000000000000000000002000000000000000102]
def scQ : List (Int × Pss) := [(-1, ⟨0, false, 0⟩), (0, ⟨0, false, 0⟩), (0, ⟨1, false, 0⟩), (1, ⟨0, false, 0⟩), (1, ⟨1, false, 0⟩), (2, ⟨1, false, 0⟩), (3, ⟨1, false, 0⟩), (4, ⟨0, false, 0⟩), (4, ⟨1, false, 0⟩), (5, ⟨0, false, 0⟩), (6, ⟨1, false, 0⟩), (7, ⟨1, false, 0⟩), (9, ⟨0, false, 0⟩)]
def tsQ : List (Int × Pss) := [(-1, ⟨0, false, 0⟩), (0, ⟨0, false, 0⟩), (0, ⟨1, false, 0⟩), (1, ⟨0, false, 0⟩), (1, ⟨0, true, 0⟩), (1, ⟨1, false, 0⟩), (2, ⟨1, false, 0⟩), (2, ⟨1, true, 0⟩), (3, ⟨0, true, 0⟩), (3, ⟨1, false, 0⟩), (4, ⟨1, false, 0⟩), (5, ⟨1, false, 0⟩), (5, ⟨1, true, 0⟩), (6, ⟨1, true, 0⟩), (8, ⟨1, false, 0⟩), (9, ⟨1, false, 0⟩), (9, ⟨1, true, 0⟩), (10, ⟨1, false, 0⟩), (10, ⟨1, true, 0⟩), (11, ⟨0, true, 0⟩), (11, ⟨1, true, 0⟩), (12, ⟨0, false, 0⟩), (14, ⟨1, false, 0⟩), (14, ⟨1, true, 0⟩), (15, ⟨0, true, 0⟩), (15, ⟨1, true, 0⟩), (17, ⟨1, true, 0⟩), (18, ⟨0, false, 0⟩), (19, ⟨1, true, 0⟩), (20, ⟨0, false, 0⟩), (22, ⟨1, true, 0⟩), (24, ⟨1, true, 0⟩), (26, ⟨0, false, 0⟩), (28, ⟨0, false, 0⟩)]
theorem sb_right : rightErr sbP = 0 := by kernel_rfl
set_option maxHeartbeats 0 in
theorem sc_cert : searchC sbP 1 13 scL 14 0 1 [(-1, ⟨0, false, 0⟩)] [] = some (13, scQ, [10, 11, 12]) := by kernel_rfl
set_option maxHeartbeats 0 in
theorem ts_cert : searchC sbP 2 1000 tsL 1001 0 1 [(-1, ⟨0, false, 0⟩)] [] = some (34, tsQ, [30, 31, 32, 33]) := by kernel_rfl
-- RnW
set_option maxRecDepth 1000000
def scF : Fnd := ⟨(scL.take 13).map ofN, scQ, [10, 11, 12]⟩
def tsF : Fnd := ⟨(tsL.take 34).map ofN, tsQ, [30, 31, 32, 33]⟩
theorem sc_reach : reachR sbP 1 13 = some scF := reachC (y0 := 0) sb_right (by decide) rfl (by kernel_rfl) sc_cert
theorem ts_reach : reachR sbP 2 1000 = some tsF := reachC (y0 := 0) sb_right (by decide) rfl (by kernel_rfl) ts_cert
theorem sc_more : reachR sbP 1 1000 = some scF := (reach_lim (B := 1000) sb_right (by decide) (by decide) (by decide) sc_reach).1 (by decide)
theorem sc_less : reachR sbP 1 12 = none := (reach_lim (B := 12) sb_right (by decide) (by decide) (by decide) sc_reach).2 (by decide)
theorem sb_C {m : UInt8} {n : Int} (hm : knownM m = true) (h1 : 1 ≤ n) (h2 : n ≤ 65536) : statesC sbP m n := ⟨hm, h1, h2, sb_right⟩
theorem scR13 : statesR sbP 1 13 = some scF := (if_pos (sb_C (by decide) (by decide) (by decide))).trans sc_reach
theorem scR1000 : statesR sbP 1 1000 = some scF := (if_pos (sb_C (by decide) (by decide) (by decide))).trans sc_more
theorem tsR1000 : statesR sbP 2 1000 = some tsF := (if_pos (sb_C (by decide) (by decide) (by decide))).trans ts_reach
theorem st_E {m : UInt8} {n : Int} {fd : Fnd} (h : statesR sbP m n = some fd) : statesE sbP m n = 0 := by
  unfold statesR at h
  unfold statesE
  split at h
  · rename_i hC
    rw [if_pos hC, h]; rfl
  · cases h
theorem scE12 : statesE sbP 1 12 = 5 := by
  unfold statesE
  rw [if_pos (sb_C (by decide) (by decide) (by decide))]
  show (if (reachR sbP 1 12).isSome = true then (0 : Int) else 5) = 5
  rw [sc_less]; rfl
def outB (x a b : UInt8) : By := fun i => if i = 0 then a else if i = 8 then b else if i = 32 then x else if i = 33 then 1 else 0
def e4 : List By := [outB 1 0 0, outB 1 0 1, outB 1 1 0, outB 1 1 1]
theorem e4_rising : Rising (tl e4) := of_decide_eq_true (p := List.Pairwise (fun a b => lexC a b < 0) (tl e4)) (by kernel_rfl)
theorem ts_sub : (finsR tsF).all ((tl e4).contains ·) = true := by kernel_rfl
theorem ts_sup : (tl e4).all ((finsR tsF).contains ·) = true := by kernel_rfl
theorem ts_finals {l : List By} (h : FinOut sbP 2 1000 l) : tl l = tl e4 := by
  obtain ⟨_, _, h3, h4⟩ := h.2 (st_E tsR1000)
  have hI := reach_ok sb_right (by decide) (by decide) ts_reach
  refine rising_unique h3 e4_rising fun x => ?_
  rw [h4, ← fins_iff hI]
  constructor
  · intro hx
    have := List.all_eq_true.1 ts_sub x hx
    simpa using this
  · intro hx
    have := List.all_eq_true.1 ts_sup x hx
    simpa using this
def wayOf (fd : Fnd) (f : By) : List Pss := match hitR fd f with | none => [] | some k => wayR fd k
theorem ts_way : wayOf tsF (outB 1 0 0) = [⟨0, false, 0⟩, ⟨0, false, 0⟩, ⟨1, false, 0⟩, ⟨1, false, 0⟩, ⟨0, true, 0⟩, ⟨1, true, 0⟩] := by kernel_rfl
theorem sc_way : wayOf scF (outB 1 1 1) = [⟨0, false, 0⟩, ⟨1, false, 0⟩, ⟨0, false, 0⟩, ⟨1, false, 0⟩] := by kernel_rfl
theorem sc_no : (hitR scF (outB 7 1 1)).isSome = false := by kernel_rfl
theorem ts_yes : (hitR tsF (outB 1 0 0)).isSome = true := by kernel_rfl
theorem sc_yes : (hitR scF (outB 1 1 1)).isSome = true := by kernel_rfl
theorem way_of {m : UInt8} {n : Int} {fd : Fnd} (h : statesR sbP m n = some fd) (f : By) : wayL sbP m f n = wayOf fd f := by unfold wayL wayOf; rw [h]; rfl
theorem wayE_of {m : UInt8} {n : Int} {fd : Fnd} (h : statesR sbP m n = some fd) (f : By) : wayE sbP m f n = if (hitR fd f).isSome = true then 0 else 6 := by
  unfold wayE
  rw [if_pos (st_E h), h]
  show (match hitR fd f with | none => (6 : Int) | some _ => 0) = _
  cases hitR fd f <;> rfl
-- RnX
open Go.Proofs.Tryz
open Go.RowKit
set_option maxRecDepth 100000
theorem out_any (x y z : UInt8) (w0 : World) :
    Calls Tryz.prog 38 #[Go.Proofs.YtbgnapmaimkpkaaGreatDoor.b8 x, Go.Proofs.YtbgnapmaimkpkaaGreatDoor.b8 y, Go.Proofs.YtbgnapmaimkpkaaGreatDoor.b8 z] w0 fun e w' => e = .returned (.agg (bs 38 (outB x y z)).toArray) ∧ Below w0.heap.size w0 w' := by
  have H := Own.start w0 none
  refine enterF func38 rfl ntmps38 rfl (fun a F => ?_);refine cSR fun K1 hK1=>?_;refine sAlB H zB47 F rfl rfl ?_;clear F a H; intro b6 a w F H;refine nK hK1 (cSR fun K2 hK2=>sMv F rfl rfl rfl (qBaB zB45 underlying45 sizeOf5 rfl rfl rfl (FillB.one rfl rfl (FillB.one (v := 1) rfl rfl FillB.nil)) (qBdB (places := [(0, 32), (32, 6)]) zB47 underlying47 (by kernel_rfl) rfl rfl rfl (FillB.row rfl rfl FillB.nil) ?_)));clear hK1;clear F a;intro a F;refine sAlB H zB47 F rfl rfl ?_;clear F a H; intro b7 a w F H;refine sSrB H 0 sizeOf47 F rfl rfl rfl rfl (by omega) ?_;clear H; intro w H;rw [lay_all] at H;refine nK hK2 (cSR fun K3 hK3=>sMv F rfl rfl rfl (qMv rfl rfl rfl (qFa (f := 0) (k := 0) underlying47 rfl sizeOf44 rfl rfl rfl rfl rfl ?_)));clear hK2;clear F a;intro a F
  refine sIa (j := 0) underlying44 sizeOf43 F rfl rfl rfl rfl ?_ ?_
  focus (first | omega | decide | (simp; omega))
  clear F a; intro a F
  refine sIa (j := 0) underlying43 sizeOf5 F rfl rfl rfl rfl ?_ ?_
  focus (first | omega | decide | (simp; omega))
  clear F a; intro a F;refine sStB H 0 sizeOf5 F rfl rfl rfl rfl (by omega) ?_;clear H; intro w H;refine sFa (f := 0) (k := 0) underlying47 rfl sizeOf44 rfl rfl F rfl rfl rfl ?_;clear F a;intro a F
  refine sIa (j := 1) underlying44 sizeOf43 F rfl rfl rfl rfl ?_ ?_
  focus (first | omega | decide | (simp; omega))
  clear F a; intro a F
  refine sIa (j := 0) underlying43 sizeOf5 F rfl rfl rfl rfl ?_ ?_
  focus (first | omega | decide | (simp; omega))
  clear F a; intro a F;refine sStB H 0 sizeOf5 F rfl rfl rfl rfl (by omega) ?_;clear H; intro w H;refine nK hK3 (cSR fun K4 hK4=>sLrB underlying47 rfl sizeOf47 F rfl rfl rfl (H.whole 0 rfl) ?_);clear hK3;clear F a;intro a F;refine sSrB H 1 sizeOf47 F rfl rfl rfl rfl (by omega) ?_;clear H; intro w H;rw [lay_all] at H;refine nK hK4 ?_;clear hK4;refine wp_ret ?_;refine bRetB results38 F rfl underlying47 rfl sizeOf47 H 1 rfl ?_
  refine ⟨?_, H.below⟩
  refine congrArg (fun l : List Value => Ending.returned (.agg l.toArray)) (bs_ext fun i hi => ?_)
  simp only [put, lay, zb, outB]
  by_cases h0 : i = 0
  · subst h0; rfl
  by_cases h8 : i = 8
  · subst h8; rfl
  by_cases h32 : i = 32
  · subst h32; rfl
  by_cases h33 : i = 33
  · subst h33; rfl
  rw [if_neg (by omega), if_neg (by omega), if_neg h0, if_neg h8, if_neg h32, if_neg h33]
  split
  · rw [if_neg (by omega), if_neg (by omega)]
  · rfl
theorem pass15_any (t : UInt8) (w0 : World) :
    Calls Tryz.prog 39 #[Go.Proofs.YtbgnapmaimkpkaaGreatDoor.b8 t] w0 fun e w' => e = .returned (.agg (Pss.mk t false 0).cells.toArray) ∧ Below w0.heap.size w0 w' := by
  have H := Own.start w0 none
  refine enterF func39 rfl ntmps39 rfl (fun a F => ?_);refine cSR fun K1 hK1=>?_;refine sAl H zeroValue86 F rfl rfl ?_;clear F a H; intro b2 a w F H;refine nK hK1 (cSR fun K2 hK2=>sMv F rfl rfl rfl (qBd (places := [(0, 1), (1, 1), (2, 1)]) zeroValue86 underlying86 (by kernel_rfl) rfl rfl rfl rfl ?_));clear hK1;clear F a;intro a F
  refine sSr H 0 ?si F rfl rfl rfl ?s1 rfl rfl ?_
  case si => exact info_size sizeOf86
  case s1 => first | rfl | (repeat (first | exact one_nil | (apply one_cons; · first | rfl | assumption | exact one_bif rfl rfl)))
  clear H; intro w H;refine nK hK2 ?_;clear hK2;refine wp_ret ?_;refine bRetC results39 F rfl underlying86 rfl H 0 rfl sizeOf86 rfl ?_
  exact ⟨rfl, H.below⟩
theorem drain15_any (t : UInt8) (w0 : World) :
    Calls Tryz.prog 40 #[Go.Proofs.YtbgnapmaimkpkaaGreatDoor.b8 t] w0 fun e w' => e = .returned (.agg (Pss.mk t true 0).cells.toArray) ∧ Below w0.heap.size w0 w' := by
  have H := Own.start w0 none
  refine enterF func40 rfl ntmps40 rfl (fun a F => ?_);refine cSR fun K1 hK1=>?_;refine sAl H zeroValue86 F rfl rfl ?_;clear F a H; intro b2 a w F H;refine nK hK1 (cSR fun K2 hK2=>sMv F rfl rfl rfl (qBd (places := [(0, 1), (1, 1), (2, 1)]) zeroValue86 underlying86 (by kernel_rfl) rfl rfl rfl rfl ?_));clear hK1;clear F a;intro a F
  refine sSr H 0 ?si F rfl rfl rfl ?s1 rfl rfl ?_
  case si => exact info_size sizeOf86
  case s1 => first | rfl | (repeat (first | exact one_nil | (apply one_cons; · first | rfl | assumption | exact one_bif rfl rfl)))
  clear H; intro w H;refine nK hK2 ?_;clear hK2;refine wp_ret ?_;refine bRetC results40 F rfl underlying86 rfl H 0 rfl sizeOf86 rfl ?_
  exact ⟨rfl, H.below⟩
theorem tl_get {l : List By} {i : Nat} {f : By} (h : l[i]? = some f) : (tl l)[i]? = some (toL 38 f) := by
  unfold tl
  rw [List.getElem?_map, h]; rfl
theorem fins12_any (A B : Option Addr) (CA CB : Nat) (l q : List By) (w0 : World) (hA : RowsAt w0 A 38 (l.map (bs 38))) (hB : RowsAt w0 B 38 (q.map (bs 38))) (hl : l.length ≤ 9223372036854775807) (hq : q.length ≤ 9223372036854775807) :
    Calls Tryz.prog 16 #[.slice A l.length CA, .slice B q.length CB] w0 fun e w' => e = .returned (.bool (decide (tl l = tl q))) ∧ Below w0.heap.size w0 w' := by
  have H := Own.start w0 none
  refine enterF func16 rfl ntmps16 rfl (fun a F => ?_);refine cSR fun K1 hK1=>sAs F rfl rfl rfl (qNK hK1 ?_);clear hK1;clear F a;intro a F;refine cSeq (fun K2 hK2 => ?_);refine cSR fun K3 hK3=>sMv F rfl rfl rfl (qLen underlying30 rfl rfl rfl (qMv rfl rfl rfl (qLen underlying30 rfl rfl rfl (qBin rfl rfl rfl rfl bNeq (qNK hK3 ?_)))));clear hK3;clear F a;intro a F
  refine cIf F rfl (fun h10 => ?_) (fun h10 => ?_)
  ·
   replace h10 := bneT h10;refine cSR fun K4 hK4=>sAs F rfl rfl rfl (qNK hK4 ?_);clear hK4;clear F a;intro a F;refine wp_ret ?_;simp only [Exit.then];refine bRet results16 F rfl ?_
   first
   | (have hne : tl l ≠ tl q := fun e => by
       have := congrArg List.length e
       rw [tl_len, tl_len] at this
       omega
      rw [show decide (tl l = tl q) = false from decide_eq_false hne]
      exact ⟨rfl, H.below⟩)
   | (have hne : tl l ≠ tl q := fun e => by
       have h1 := tl_get hx
       rw [e, tl_get hy] at h1
       have h2 := toL_eq.1 (Option.some.inj h1).symm
       rw [h2] at h24
       simp at h24
      rw [show decide (tl l = tl q) = false from decide_eq_false hne]
      exact ⟨rfl, H.below⟩)
   | (have he : tl l = tl q := List.ext_getElem? fun i => by
       rcases Nat.lt_or_ge i l.length with h | h
       · exact hsame i (by omega)
       · rw [List.getElem?_eq_none (by rw [tl_len]; omega), List.getElem?_eq_none (by rw [tl_len]; omega)]
      rw [show decide (tl l = tl q) = true from decide_eq_true he]
      exact ⟨rfl, H.below⟩)
  replace h10 := bneF h10;refine wp_skip (hK2 _ _ ?_);clear hK2;refine cSeq (fun K5 hK5 => ?_);refine cSR fun K6 hK6=>sMv F rfl rfl rfl (qLen underlying30 rfl rfl rfl (qMv rfl rfl rfl (qNK hK6 ?_)));clear hK6;clear F a;intro a F;refine wp_block ?_
  refine cLoopR [0, 1, 12] (fun m ups w => ∃ j : Nat, m = l.length - j ∧ ups = [(13, .int .i64 ((j : Nat) : Int))] ∧ j ≤ l.length ∧ (∀ i, i < j → (tl l)[i]? = (tl q)[i]?) ∧ Own w0 none w []) F (l.length) [(13, .int .i64 ((0 : Nat) : Int))] (by repeat (first | exact SubR.nil | (apply SubR.cons; · rfl))) ?_ ?_ ?_
  · exact ⟨0, rfl, rfl, by omega, fun i h => absurd h (by omega), H⟩
  · repeat (first | exact trivial | refine Le.cons rfl ?_)
  clear F
  clear H
  intro m ups a w hI F
  obtain ⟨j, rfl, rfl, hj, hsame, H⟩ := hI
  refine cSR fun K7 hK7=>sBin F rfl rfl rfl rfl bLss (qNK hK7 ?_);clear hK7;clear F a;intro a F;refine cSeq (fun K8 hK8 => ?_)
  refine cIf F rfl (fun h14 => ?_) (fun h14 => ?_)
  ·
   replace h14 := of_decide_eq_true h14
   have hjl : j < l.length := by omega
   have hjq : j < q.length := by omega
   obtain ⟨x, hx⟩ : ∃ x, l[j]? = some x := ⟨_, List.getElem?_eq_getElem hjl⟩
   obtain ⟨y, hy⟩ : ∃ y, q[j]? = some y := ⟨_, List.getElem?_eq_getElem hjq⟩
   obtain ⟨b1, o1, rfl, hR1⟩ := hA j (bs 38 x) (by rw [List.getElem?_map, hx]; rfl)
   obtain ⟨b2, o2, rfl, hR2⟩ := hB j (bs 38 y) (by rw [List.getElem?_map, hy]; rfl)
   refine wp_skip (hK8 _ _ ?_);clear hK8;refine cSeq (fun K9 hK9 => ?_);refine wp_block ?_;refine cSR fun K10 hK10=>sMv F rfl rfl rfl (qAs rfl rfl rfl (qNK hK10 ?_));clear hK10;clear F a;intro a F;refine cSeq (fun K11 hK11 => ?_);refine cRegRO (by kernel_rfl) H ?_;replace H := H.drew;refine eTF 0 rfl (by kernel_rfl) F rfl rfl rfl (fun w=>rMv F rfl) (H.sel [] rfl rfl) qq0 (qTF 1 rfl (by kernel_rfl) rfl rfl rfl (fun a F w=>rMv F rfl) (H.sel [] rfl rfl) qq0 ?_);clear F a;intro a F
   refine eTakeF (k := 2) (i := 2) rfl (by kernel_rfl) F rfl rfl rfl (fun w => rIx underlying30 sizeOf47 F rfl rfl ?_) (H.sel [] rfl rfl) (fun _ _ _ h => h) ?_
   focus exact hjl
   clear F a; intro a F;refine eT 3 rfl (by kernel_rfl) F rfl rfl rfl rfl (fun w H=>rLrB underlying47 rfl sizeOf47 F rfl (H.argR hR1)) (H.sel [] rfl rfl) qq0 (qTF 4 rfl (by kernel_rfl) rfl rfl rfl (fun a F w=>rMv F rfl) (H.sel [] rfl rfl) qq0 (qTF 5 rfl (by kernel_rfl) rfl rfl rfl (fun a F w=>rMv F rfl) (H.sel [] rfl rfl) qq0 ?_));clear F a;intro a F
   refine eTakeF (k := 6) (i := 6) rfl (by kernel_rfl) F rfl rfl rfl (fun w => rIx underlying30 sizeOf47 F rfl rfl ?_) (H.sel [] rfl rfl) (fun _ _ _ h => h) ?_
   focus exact hjq
   clear F a; intro a F;refine eT 7 rfl (by kernel_rfl) F rfl rfl rfl rfl (fun w H=>rLrB underlying47 rfl sizeOf47 F rfl (H.argR hR2)) (H.sel [] rfl rfl) qq0 (qTF 8 rfl (by kernel_rfl) rfl rfl rfl (fun a F w=>rBin F rfl rfl (bNeY eT47 gT47 rfl)) (H.sel [] rfl rfl) qq0 ?_);clear F a;intro a F;refine eNil (k := 9) (by kernel_rfl) ?_;refine hK11 _ _ ?_;clear hK11
   refine cIf F rfl (fun h24 => ?_) (fun h24 => ?_)
   ·
    replace h24 := notT h24;refine cSR fun K12 hK12=>sAs F rfl rfl rfl (qNK hK12 ?_);clear hK12;clear F a;intro a F;refine wp_ret ?_;simp only [Exit.inBlock, Exit.then];refine bRet results16 F rfl ?_
    first
    | (have hne : tl l ≠ tl q := fun e => by
        have := congrArg List.length e
        rw [tl_len, tl_len] at this
        omega
       rw [show decide (tl l = tl q) = false from decide_eq_false hne]
       exact ⟨rfl, H.below⟩)
    | (have hne : tl l ≠ tl q := fun e => by
        have h1 := tl_get hx
        rw [e, tl_get hy] at h1
        have h2 := toL_eq.1 (Option.some.inj h1).symm
        rw [h2] at h24
        simp at h24
       rw [show decide (tl l = tl q) = false from decide_eq_false hne]
       exact ⟨rfl, H.below⟩)
    | (have he : tl l = tl q := List.ext_getElem? fun i => by
        rcases Nat.lt_or_ge i l.length with h | h
        · exact hsame i (by omega)
        · rw [List.getElem?_eq_none (by rw [tl_len]; omega), List.getElem?_eq_none (by rw [tl_len]; omega)]
       rw [show decide (tl l = tl q) = true from decide_eq_true he]
       exact ⟨rfl, H.below⟩)
   replace h24 := notF h24;refine wp_skip (hK9 _ _ (cReg ?_));clear hK9
   refine sBin F rfl rfl rfl rfl (bAddN (j := 1) ?_) ?_
   focus omega
   clear F a; intro a F;refine sMv F rfl rfl rfl ?_;clear F a;intro a F;refine sNil ?_
   (have he : toL 38 x = toL 38 y := toL_eq.2 (by simpa using h24)
    exact ⟨_, by omega, _, ⟨j + 1, rfl, rfl, by omega, fun i hi => (by
     rcases Nat.lt_or_ge i j with h | h
     · exact hsame i h
     · obtain rfl : i = j := by omega
       rw [tl_get hx, tl_get hy, he]), H.sel [] rfl rfl⟩, F.to (by repeat (first | exact trivial | refine Le.cons rfl ?_))⟩)
  replace h14 := of_decide_eq_false h14;refine wp_exit ?_;refine hK5 _ _ (cSR fun K13 hK13=>sAs F rfl rfl rfl (qNK hK13 ?_));clear hK5 hK13;clear F a;intro a F;refine wp_ret ?_;refine bRet results16 F rfl ?_
  first
  | (have hne : tl l ≠ tl q := fun e => by
      have := congrArg List.length e
      rw [tl_len, tl_len] at this
      omega
     rw [show decide (tl l = tl q) = false from decide_eq_false hne]
     exact ⟨rfl, H.below⟩)
  | (have hne : tl l ≠ tl q := fun e => by
      have h1 := tl_get hx
      rw [e, tl_get hy] at h1
      have h2 := toL_eq.1 (Option.some.inj h1).symm
      rw [h2] at h24
      simp at h24
     rw [show decide (tl l = tl q) = false from decide_eq_false hne]
     exact ⟨rfl, H.below⟩)
  | (have he : tl l = tl q := List.ext_getElem? fun i => by
      rcases Nat.lt_or_ge i l.length with h | h
      · exact hsame i (by omega)
      · rw [List.getElem?_eq_none (by rw [tl_len]; omega), List.getElem?_eq_none (by rw [tl_len]; omega)]
     rw [show decide (tl l = tl q) = true from decide_eq_true he]
     exact ⟨rfl, H.below⟩)
theorem c13_any (cs : List Value) (w0 : World) (hP : ProgAt w0 cs sbP) (hN : NeedsAt w0) :
    Calls Tryz.prog 20 #[.agg cs.toArray, Go.Proofs.YtbgnapmaimkpkaaGreatDoor.b8 1, .int .i64 13] w0 fun e w' => e = .returned (.tuple #[.int .i64 13, .int .i64 3, .int .i64 0]) ∧ Below w0.heap.size w0 w' := by
  have h := count_any cs sbP w0 hP hN 1 13 (by decide) (by decide)
  rw [st_E scR13, scR13] at h
  exact h
theorem c12_any (cs : List Value) (w0 : World) (hP : ProgAt w0 cs sbP) (hN : NeedsAt w0) :
    Calls Tryz.prog 20 #[.agg cs.toArray, Go.Proofs.YtbgnapmaimkpkaaGreatDoor.b8 1, .int .i64 12] w0 fun e w' => ∃ u v : Int, e = .returned (.tuple #[.int .i64 u, .int .i64 v, .int .i64 5]) ∧ Below w0.heap.size w0 w' := by
  have h := count_any cs sbP w0 hP hN 1 12 (by decide) (by decide)
  rw [scE12] at h
  exact h.mono fun _ _ h => ⟨_, _, h⟩
theorem f1000_any (cs : List Value) (w0 : World) (hP : ProgAt w0 cs sbP) (hN : NeedsAt w0) :
    Calls Tryz.prog 19 #[.agg cs.toArray, Go.Proofs.YtbgnapmaimkpkaaGreatDoor.b8 2, .int .i64 1000] w0 fun e w' => ∃ (A : Option Addr) (c : Nat) (l2 : List By), e = .returned (.tuple #[.slice A l2.length c, .int .i64 0]) ∧ tl l2 = tl e4 ∧ Own w0 none w' [.rws 47 38 (.slice A l2.length c) (l2.map (bs 38))] := by
  have h := finals_any cs sbP w0 hP hN 2 1000 (by decide) (by decide)
  rw [st_E tsR1000] at h
  exact h.mono fun _ _ ⟨A, c, l2, h1, h2, h3⟩ => ⟨A, c, l2, h1, ts_finals h2, h3⟩
theorem wts_any (cs : List Value) (w0 : World) (hP : ProgAt w0 cs sbP) (hN : NeedsAt w0) :
    Calls Tryz.prog 21 #[.agg cs.toArray, Go.Proofs.YtbgnapmaimkpkaaGreatDoor.b8 2, .agg (bs 38 (outB 1 0 0)).toArray, .int .i64 1000] w0 fun e w' => ∃ A c, e = .returned (.tuple #[.slice A 6 c, .int .i64 0]) ∧ Own w0 none w' [.rws 86 3 (.slice A 6 c) (([⟨0, false, 0⟩, ⟨0, false, 0⟩, ⟨1, false, 0⟩, ⟨1, false, 0⟩, ⟨0, true, 0⟩, ⟨1, true, 0⟩] : List Pss).map Pss.cells)] := by
  have h := way_any cs sbP w0 hP hN 2 (outB 1 0 0) 1000 (by decide) (by decide)
  rw [way_of tsR1000, wayE_of tsR1000, ts_way, if_pos ts_yes] at h
  exact h
theorem wsc_any (cs : List Value) (w0 : World) (hP : ProgAt w0 cs sbP) (hN : NeedsAt w0) :
    Calls Tryz.prog 21 #[.agg cs.toArray, Go.Proofs.YtbgnapmaimkpkaaGreatDoor.b8 1, .agg (bs 38 (outB 1 1 1)).toArray, .int .i64 1000] w0 fun e w' => ∃ A c, e = .returned (.tuple #[.slice A 4 c, .int .i64 0]) ∧ Own w0 none w' [.rws 86 3 (.slice A 4 c) (([⟨0, false, 0⟩, ⟨1, false, 0⟩, ⟨0, false, 0⟩, ⟨1, false, 0⟩] : List Pss).map Pss.cells)] := by
  have h := way_any cs sbP w0 hP hN 1 (outB 1 1 1) 1000 (by decide) (by decide)
  rw [way_of scR1000, wayE_of scR1000, sc_way, if_pos sc_yes] at h
  exact h
theorem wno_any (cs : List Value) (w0 : World) (hP : ProgAt w0 cs sbP) (hN : NeedsAt w0) :
    Calls Tryz.prog 21 #[.agg cs.toArray, Go.Proofs.YtbgnapmaimkpkaaGreatDoor.b8 1, .agg (bs 38 (outB 7 1 1)).toArray, .int .i64 1000] w0 fun e w' => ∃ v, e = .returned (.tuple #[v, .int .i64 6]) ∧ Below w0.heap.size w0 w' := by
  have h := way_any cs sbP w0 hP hN 1 (outB 7 1 1) 1000 (by decide) (by decide)
  rw [wayE_of scR1000, if_neg (by rw [sc_no]; decide)] at h
  exact h.mono fun _ _ ⟨A, c, h1, h2⟩ => ⟨_, h1, h2.below⟩
set_option maxHeartbeats 1000000 in
theorem awake15_any (w0 : World) (hN : NeedsAt w0) :
    Calls Tryz.prog 14 #[] w0 fun e w' => e = .returned (.bool true) ∧ Below w0.heap.size w0 w' := by
  have H := Own.start w0 none
  refine enterF func14 rfl ntmps14 rfl (fun a F => ?_);refine cSR fun K1 hK1=>sAs F rfl rfl rfl (qNK hK1 (qSR fun K2 hK2=>?_));clear hK1;clear F a;intro a F;refine sCall call37 F rfl rfl rfl (buffering_any _) ?_;rintro e w ⟨x1, x2, x3, x4, x5, rfl, H2⟩;replace H := H.join H2; clear H2;refine ⟨_, rfl, ?_⟩;clear F a; intro a F;refine sAl H zeroValue29 F rfl rfl ?_;clear F a H; intro b1 a w F H
  refine sSr H 0 ?si F rfl rfl rfl ?s1 rfl rfl ?_
  case si => exact info_size sizeOf29
  case s1 => first | rfl | (repeat (first | exact one_nil | (apply one_cons; · first | rfl | assumption | exact one_bif rfl rfl)))
  clear H; intro w H;refine nK hK2 (cSR fun K3 hK3=>?_);clear hK2
  refine sLr underlying29 rfl ?si F rfl rfl rfl (H.whole 0 rfl) ?_
  case si => exact info_size sizeOf29
  clear F a; intro a F;refine sCall call20 F rfl rfl rfl (c13_any _ _ (sb_prog (H.sel [1, 2, 3, 4, 5] rfl rfl)) (hN.own H)) ?_;rintro e w ⟨rfl, hb⟩;replace H := H.grow hb; clear hb;refine ⟨_, rfl, ?_⟩;clear F a; intro a F;refine sMv F rfl rfl rfl (qExt rfl rfl rfl rfl (qExt rfl rfl rfl rfl (qExt rfl rfl rfl rfl (qAs rfl rfl rfl (qAs rfl rfl rfl (qAs rfl rfl rfl (qNK hK3 (qSR fun K4 hK4=>?_))))))));clear hK3;clear F a;intro a F
  refine sLr underlying29 rfl ?si F rfl rfl rfl (H.whole 0 rfl) ?_
  case si => exact info_size sizeOf29
  clear F a; intro a F;refine sCall call20 F rfl rfl rfl (c12_any _ _ (sb_prog (H.sel [1, 2, 3, 4, 5] rfl rfl)) (hN.own H)) ?_;rintro e w ⟨u12, v12, rfl, hb⟩;replace H := H.grow hb; clear hb;refine ⟨_, rfl, ?_⟩;clear F a; intro a F;refine sMv F rfl rfl rfl (qExt rfl rfl rfl rfl (qExt rfl rfl rfl rfl (qExt rfl rfl rfl rfl (qAs rfl rfl rfl (qAs rfl rfl rfl (qAs rfl rfl rfl (qNK hK4 (qSR fun K5 hK5=>?_))))))));clear hK4;clear F a;intro a F
  refine sLr underlying29 rfl ?si F rfl rfl rfl (H.whole 0 rfl) ?_
  case si => exact info_size sizeOf29
  clear F a; intro a F;refine sCall call19 F rfl rfl rfl (f1000_any _ _ (sb_prog (H.sel [1, 2, 3, 4, 5] rfl rfl)) (hN.own H)) ?_;rintro e w ⟨AF, cF, l2, rfl, htl, H2⟩;replace H := H.join H2; clear H2;refine ⟨_, rfl, ?_⟩;clear F a; intro a F;refine sMv F rfl rfl rfl (qExt rfl rfl rfl rfl (qExt rfl rfl rfl rfl (qAs rfl rfl rfl (qAs rfl rfl rfl (qNK hK5 ?_)))));clear hK5;clear F a;intro a F;refine cSeq (fun K6 hK6 => ?_);refine cRegRO (by kernel_rfl) H ?_;replace H := H.drew
  refine eTake (k := 0) (i := 0) rfl (by kernel_rfl) F rfl rfl rfl rfl (fun w H => rLr underlying29 rfl ?si F rfl (H.whole 1 rfl)) (H.sel [0, 1, 2, 3, 4, 5, 6] rfl rfl) (fun _ _ _ h => h) ?_
  case si => exact info_size sizeOf29
  clear F a; intro a F;refine eOne (k := 1) (i := 1) rfl (by kernel_rfl) F rfl (oCall call38 F rfl rfl (out_any 1 0 0 _) ?_);rintro e w ⟨rfl, hb⟩;replace H := H.grow hb; clear hb;refine ⟨_, rfl, ?_⟩;clear F a; intro a F;refine eKeep (H.sel [0, 1, 2, 3, 4, 5, 6] rfl rfl) ?_;refine eOne (k := 2) (i := 2) rfl (by kernel_rfl) F rfl (oCall call21 F rfl rfl (wts_any _ _ (sb_prog (H.sel [2, 3, 4, 5, 6] rfl rfl)) (hN.own H)) ?_);rintro e w ⟨A1, c1, rfl, H2⟩;replace H := H.join H2; clear H2;refine ⟨_, rfl, ?_⟩;clear F a; intro a F;refine ePartO (by kernel_rfl) H ?_;refine eTF 3 rfl (by kernel_rfl) F rfl rfl rfl (fun w=>rMv F rfl) H qq0 (qTF 4 rfl (by kernel_rfl) rfl rfl rfl (fun a F w=>rExt F rfl rfl) H qq0 (qTF 5 rfl (by kernel_rfl) rfl rfl rfl (fun a F w=>rExt F rfl rfl) H qq0 (qTF 6 rfl (by kernel_rfl) rfl rfl rfl (fun a F w=>rAs F rfl) H qq0 (qTF 7 rfl (by kernel_rfl) rfl rfl rfl (fun a F w=>rAs F rfl) H qq0 ?_))));clear F a;intro a F;refine eNil (k := 8) (by kernel_rfl) ?_;refine hK6 _ _ ?_;clear hK6;refine cSeq (fun K7 hK7 => ?_);refine cRegRO (by kernel_rfl) H ?_;replace H := H.drew
  refine eTake (k := 0) (i := 0) rfl (by kernel_rfl) F rfl rfl rfl rfl (fun w H => rLr underlying29 rfl ?si F rfl (H.whole 2 rfl)) (H.sel [0, 1, 2, 3, 4, 5, 6, 7] rfl rfl) (fun _ _ _ h => h) ?_
  case si => exact info_size sizeOf29
  clear F a; intro a F;refine eOne (k := 1) (i := 1) rfl (by kernel_rfl) F rfl (oCall call38 F rfl rfl (out_any 1 1 1 _) ?_);rintro e w ⟨rfl, hb⟩;replace H := H.grow hb; clear hb;refine ⟨_, rfl, ?_⟩;clear F a; intro a F;refine eKeep (H.sel [0, 1, 2, 3, 4, 5, 6, 7] rfl rfl) ?_;refine eOne (k := 2) (i := 2) rfl (by kernel_rfl) F rfl (oCall call21 F rfl rfl (wsc_any _ _ (sb_prog (H.sel [3, 4, 5, 6, 7] rfl rfl)) (hN.own H)) ?_);rintro e w ⟨A2, c2, rfl, H2⟩;replace H := H.join H2; clear H2;refine ⟨_, rfl, ?_⟩;clear F a; intro a F;refine ePartO (by kernel_rfl) H ?_;refine eTF 3 rfl (by kernel_rfl) F rfl rfl rfl (fun w=>rMv F rfl) H qq0 (qTF 4 rfl (by kernel_rfl) rfl rfl rfl (fun a F w=>rExt F rfl rfl) H qq0 (qTF 5 rfl (by kernel_rfl) rfl rfl rfl (fun a F w=>rExt F rfl rfl) H qq0 (qTF 6 rfl (by kernel_rfl) rfl rfl rfl (fun a F w=>rAs F rfl) H qq0 (qTF 7 rfl (by kernel_rfl) rfl rfl rfl (fun a F w=>rAs F rfl) H qq0 ?_))));clear F a;intro a F;refine eNil (k := 8) (by kernel_rfl) ?_;refine hK7 _ _ ?_;clear hK7;refine cSeq (fun K8 hK8 => ?_);refine cRegRO (by kernel_rfl) H ?_;replace H := H.drew
  refine eTake (k := 0) (i := 0) rfl (by kernel_rfl) F rfl rfl rfl rfl (fun w H => rLr underlying29 rfl ?si F rfl (H.whole 3 rfl)) (H.sel [0, 1, 2, 3, 4, 5, 6, 7, 8] rfl rfl) (fun _ _ _ h => h) ?_
  case si => exact info_size sizeOf29
  clear F a; intro a F;refine eOne (k := 1) (i := 1) rfl (by kernel_rfl) F rfl (oCall call38 F rfl rfl (out_any 7 1 1 _) ?_);rintro e w ⟨rfl, hb⟩;replace H := H.grow hb; clear hb;refine ⟨_, rfl, ?_⟩;clear F a; intro a F;refine eKeep (H.sel [0, 1, 2, 3, 4, 5, 6, 7, 8] rfl rfl) ?_;refine eOne (k := 2) (i := 2) rfl (by kernel_rfl) F rfl (oCall call21 F rfl rfl (wno_any _ _ (sb_prog (H.sel [4, 5, 6, 7, 8] rfl rfl)) (hN.own H)) ?_);rintro e w ⟨v49, rfl, hb⟩;replace H := H.grow hb; clear hb;refine ⟨_, rfl, ?_⟩;clear F a; intro a F;refine ePartO (by kernel_rfl) H ?_;refine eTF 3 rfl (by kernel_rfl) F rfl rfl rfl (fun w=>rMv F rfl) H qq0 (qTF 4 rfl (by kernel_rfl) rfl rfl rfl (fun a F w=>rExt F rfl rfl) H qq0 (qTF 5 rfl (by kernel_rfl) rfl rfl rfl (fun a F w=>rExt F rfl rfl) H qq0 (qTF 6 rfl (by kernel_rfl) rfl rfl rfl (fun a F w=>rAs F rfl) H qq0 (qTF 7 rfl (by kernel_rfl) rfl rfl rfl (fun a F w=>rAs F rfl) H qq0 ?_))));clear F a;intro a F;refine eNil (k := 8) (by kernel_rfl) ?_;refine hK8 _ _ (cSR fun K9 hK9=>sMv F rfl rfl rfl (qBin rfl rfl rfl rfl bEql (qMv rfl rfl rfl ?_)));clear hK8;clear F a;intro a F
  refine F.split 54 rfl ?_ ?_ <;> (clear F; intro h54 F)
  ·
   replace h54 := beqT h54;refine sMv F rfl rfl rfl (qBin rfl rfl rfl rfl bEql (qPk rfl rfl rfl rfl (qMv rfl rfl rfl ?_)));clear F a;intro a F
   refine F.split 58 rfl ?_ ?_ <;> (clear F; intro h58 F)
   ·
    replace h58 := beqT h58;refine sMv F rfl rfl rfl (qBin rfl rfl rfl rfl bEql (qPk rfl rfl rfl rfl (qMv rfl rfl rfl ?_)));clear F a;intro a F
    refine F.split 62 rfl ?_ ?_ <;> (clear F; intro h62 F)
    ·
     replace h62 := beqT h62;refine sMv F rfl rfl rfl (qBin rfl rfl rfl rfl bEql (qPk rfl rfl rfl rfl (qMv rfl rfl rfl ?_)));clear F a;intro a F
     refine F.split 66 rfl ?_ ?_ <;> (clear F; intro h66 F)
     ·
      replace h66 := beqT h66;refine sMv F rfl rfl rfl ?_;clear F a;intro a F;refine sCall call38 F rfl rfl rfl (out_any 1 0 0 _) ?_;rintro e w ⟨rfl, hb⟩;replace H := H.grow hb; clear hb;refine ⟨_, rfl, ?_⟩;clear F a; intro a F;refine sCall call38 F rfl rfl rfl (out_any 1 0 1 _) ?_;rintro e w ⟨rfl, hb⟩;replace H := H.grow hb; clear hb;refine ⟨_, rfl, ?_⟩;clear F a; intro a F;refine sCall call38 F rfl rfl rfl (out_any 1 1 0 _) ?_;rintro e w ⟨rfl, hb⟩;replace H := H.grow hb; clear hb;refine ⟨_, rfl, ?_⟩;clear F a; intro a F;refine sCall call38 F rfl rfl rfl (out_any 1 1 1 _) ?_;rintro e w ⟨rfl, hb⟩;replace H := H.grow hb; clear hb;refine ⟨_, rfl, ?_⟩;clear F a; intro a F;refine sBs H underlying30 sizeOf47 zeroValue47 rfl F rfl rfl rfl rfl rfl ?_;clear F a H; intro b72 a w F H;refine sCall call16 F rfl rfl rfl (fins12_any AF _ cF _ l2 e4 _ (H.rowsAt 3 rfl (bs38_len _) (by decide)) (RowsAt.ofRange (sz := 38) (rows := e4.map (bs 38)) (H.whole 0 rfl) (bs38_len _)) (by have := (H.rwsLen 3 rfl).2; simp only [maxLen] at this; omega) (by decide)) ?_;rintro e w ⟨rfl, hb⟩;replace H := H.grow hb; clear hb;refine ⟨_, rfl, ?_⟩;clear F a; intro a F;refine sPk F rfl rfl rfl rfl (qMv rfl rfl rfl ?_);clear F a;intro a F
      refine F.split 75 rfl ?_ ?_ <;> (clear F; intro h75 F)
      ·
       refine sMv F rfl rfl rfl (qBin rfl rfl rfl rfl bEql (qPk rfl rfl rfl rfl (qMv rfl rfl rfl ?_)));clear F a;intro a F
       refine F.split 79 rfl ?_ ?_ <;> (clear F; intro h79 F)
       ·
        replace h79 := beqT h79;refine sMv F rfl rfl rfl ?_;clear F a;intro a F;refine sCall call39 F rfl rfl rfl (pass15_any 0 _) ?_;rintro e w ⟨rfl, hb⟩;replace H := H.grow hb; clear hb;refine ⟨_, rfl, ?_⟩;clear F a; intro a F;refine sCall call39 F rfl rfl rfl (pass15_any 0 _) ?_;rintro e w ⟨rfl, hb⟩;replace H := H.grow hb; clear hb;refine ⟨_, rfl, ?_⟩;clear F a; intro a F;refine sCall call39 F rfl rfl rfl (pass15_any 1 _) ?_;rintro e w ⟨rfl, hb⟩;replace H := H.grow hb; clear hb;refine ⟨_, rfl, ?_⟩;clear F a; intro a F;refine sCall call39 F rfl rfl rfl (pass15_any 1 _) ?_;rintro e w ⟨rfl, hb⟩;replace H := H.grow hb; clear hb;refine ⟨_, rfl, ?_⟩;clear F a; intro a F;refine sCall call40 F rfl rfl rfl (drain15_any 0 _) ?_;rintro e w ⟨rfl, hb⟩;replace H := H.grow hb; clear hb;refine ⟨_, rfl, ?_⟩;clear F a; intro a F;refine sCall call40 F rfl rfl rfl (drain15_any 1 _) ?_;rintro e w ⟨rfl, hb⟩;replace H := H.grow hb; clear hb;refine ⟨_, rfl, ?_⟩;clear F a; intro a F;refine sBs H underlying58 sizeOf86 zeroValue86 rfl F rfl rfl rfl rfl rfl ?_;clear F a H; intro b87 a w F H;refine sCall call25 F rfl rfl rfl (passes_any A1 _ c1 _ [⟨0, false, 0⟩, ⟨0, false, 0⟩, ⟨1, false, 0⟩, ⟨1, false, 0⟩, ⟨0, true, 0⟩, ⟨1, true, 0⟩] [⟨0, false, 0⟩, ⟨0, false, 0⟩, ⟨1, false, 0⟩, ⟨1, false, 0⟩, ⟨0, true, 0⟩, ⟨1, true, 0⟩] _ (H.rowsAt 3 rfl (rowX _) (by decide)) (RowsAt.ofRange (sz := 3) (rows := ([⟨0, false, 0⟩, ⟨0, false, 0⟩, ⟨1, false, 0⟩, ⟨1, false, 0⟩, ⟨0, true, 0⟩, ⟨1, true, 0⟩] : List Pss).map Pss.cells) (H.whole 0 rfl) (rowX _)) (by decide) (by decide)) ?_
        rintro e w ⟨rfl, hb⟩;replace H := H.grow hb; clear hb;refine ⟨_, rfl, ?_⟩;clear F a; intro a F;refine sPk F rfl rfl rfl rfl (qMv rfl rfl rfl ?_);clear F a;intro a F
        refine F.split 90 rfl ?_ ?_ <;> (clear F; intro h90 F)
        ·
         refine sMv F rfl rfl rfl (qBin rfl rfl rfl rfl bEql (qPk rfl rfl rfl rfl (qMv rfl rfl rfl ?_)));clear F a;intro a F
         refine F.split 94 rfl ?_ ?_ <;> (clear F; intro h94 F)
         ·
          replace h94 := beqT h94;refine sMv F rfl rfl rfl ?_;clear F a;intro a F;refine sCall call39 F rfl rfl rfl (pass15_any 0 _) ?_;rintro e w ⟨rfl, hb⟩;replace H := H.grow hb; clear hb;refine ⟨_, rfl, ?_⟩;clear F a; intro a F;refine sCall call39 F rfl rfl rfl (pass15_any 1 _) ?_;rintro e w ⟨rfl, hb⟩;replace H := H.grow hb; clear hb;refine ⟨_, rfl, ?_⟩;clear F a; intro a F;refine sCall call39 F rfl rfl rfl (pass15_any 0 _) ?_;rintro e w ⟨rfl, hb⟩;replace H := H.grow hb; clear hb;refine ⟨_, rfl, ?_⟩;clear F a; intro a F;refine sCall call39 F rfl rfl rfl (pass15_any 1 _) ?_;rintro e w ⟨rfl, hb⟩;replace H := H.grow hb; clear hb;refine ⟨_, rfl, ?_⟩;clear F a; intro a F;refine sBs H underlying58 sizeOf86 zeroValue86 rfl F rfl rfl rfl rfl rfl ?_;clear F a H; intro b100 a w F H;refine sCall call25 F rfl rfl rfl (passes_any A2 _ c2 _ [⟨0, false, 0⟩, ⟨1, false, 0⟩, ⟨0, false, 0⟩, ⟨1, false, 0⟩] [⟨0, false, 0⟩, ⟨1, false, 0⟩, ⟨0, false, 0⟩, ⟨1, false, 0⟩] _ (H.rowsAt 3 rfl (rowX _) (by decide)) (RowsAt.ofRange (sz := 3) (rows := ([⟨0, false, 0⟩, ⟨1, false, 0⟩, ⟨0, false, 0⟩, ⟨1, false, 0⟩] : List Pss).map Pss.cells) (H.whole 0 rfl) (rowX _)) (by decide) (by decide)) ?_;rintro e w ⟨rfl, hb⟩;replace H := H.grow hb; clear hb;refine ⟨_, rfl, ?_⟩;clear F a; intro a F;refine sPk F rfl rfl rfl rfl (qMv rfl rfl rfl ?_);clear F a;intro a F
          refine F.split 103 rfl ?_ ?_ <;> (clear F; intro h103 F)
          ·
           refine sMv F rfl rfl rfl (qBin rfl rfl rfl rfl bEql (qPk rfl rfl rfl rfl (qMv rfl rfl rfl ?_)));clear F a;intro a F
           refine F.split 107 rfl ?_ ?_ <;> (clear F; intro h107 F)
           ·
            replace h107 := beqT h107;refine sMv F rfl rfl rfl (qBin rfl rfl rfl rfl bEql (qPk rfl rfl rfl rfl (qAs rfl rfl rfl (qNK hK9 ?_))));clear hK9;clear F a;intro a F;refine wp_ret ?_;refine bRet results14 F rfl ?_
            exact ⟨retB (by kernel_rfl), H.below⟩
           replace h107 := beqF h107
           exact absurd rfl h107
          exact notEq (by kernel_rfl) h103
         replace h94 := beqF h94
         exact absurd rfl h94
        exact notEq (by kernel_rfl) h90
       replace h79 := beqF h79
       exact absurd rfl h79
      exact notEq (decide_eq_true htl) h75
     replace h66 := beqF h66
     exact absurd rfl h66
    replace h62 := beqF h62
    exact absurd rfl h62
   replace h58 := beqF h58
   exact absurd rfl h58
  replace h54 := beqF h54
  exact absurd rfl h54
end Go.Proofs.YtbgnapmaimkpkaaGreatDoor
