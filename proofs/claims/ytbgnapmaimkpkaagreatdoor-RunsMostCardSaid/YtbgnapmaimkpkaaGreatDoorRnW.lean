/-
  Plain Lean: what is found for the store buffering test. Conditions: none.
-/
import Derived.Test.YtbgnapmaimkpkaaGreatDoorRnV
set_option linter.unusedSimpArgs false
set_option linter.unusedVariables false
namespace Go.Proofs.YtbgnapmaimkpkaaGreatDoor
set_option maxRecDepth 1000000
def scF : Fnd := ⟨(scL.take 13).map ofN, scQ, [10, 11, 12]⟩
def tsF : Fnd := ⟨(tsL.take 34).map ofN, tsQ, [30, 31, 32, 33]⟩
theorem sc_reach : reachR sbP 1 13 = some scF := reachC (y0 := 0) sb_right (by decide) rfl (by kernel_rfl) sc_cert
theorem ts_reach : reachR sbP 2 1000 = some tsF := reachC (y0 := 0) sb_right (by decide) rfl (by kernel_rfl) ts_cert
theorem sc_more : reachR sbP 1 1000 = some scF := (reach_lim (B := 1000) sb_right (by decide) (by decide) (by decide) sc_reach).1 (by decide)
theorem sc_less : reachR sbP 1 12 = none := (reach_lim (B := 12) sb_right (by decide) (by decide) (by decide) sc_reach).2 (by decide)
theorem sb_C {m : UInt8} {n : Int} (hm : knownM m = true) (h1 : 1 ≤ n) (h2 : n ≤ 65536) : statesC sbP m n := ⟨hm, h1, h2, sb_right⟩
theorem scR13 : statesR sbP 1 13 = some scF := (if_pos (sb_C (by decide) (by decide) (by decide))).trans sc_reach
theorem scR1000 : statesR sbP 1 1000 = some scF := (if_pos (sb_C (by decide) (by decide) (by decide))).trans sc_more
theorem tsR1000 : statesR sbP 2 1000 = some tsF := (if_pos (sb_C (by decide) (by decide) (by decide))).trans ts_reach
theorem st_E {m : UInt8} {n : Int} {fd : Fnd} (h : statesR sbP m n = some fd) : statesE sbP m n = 0 := by
  unfold statesR at h
  unfold statesE
  split at h
  · rename_i hC
    rw [if_pos hC, h]; rfl
  · cases h
theorem scE12 : statesE sbP 1 12 = 5 := by
  unfold statesE
  rw [if_pos (sb_C (by decide) (by decide) (by decide))]
  show (if (reachR sbP 1 12).isSome = true then (0 : Int) else 5) = 5
  rw [sc_less]; rfl
def outB (x a b : UInt8) : By := fun i => if i = 0 then a else if i = 8 then b else if i = 32 then x else if i = 33 then 1 else 0
def e4 : List By := [outB 1 0 0, outB 1 0 1, outB 1 1 0, outB 1 1 1]
theorem e4_rising : Rising (tl e4) := of_decide_eq_true (p := List.Pairwise (fun a b => lexC a b < 0) (tl e4)) (by kernel_rfl)
theorem ts_sub : (finsR tsF).all ((tl e4).contains ·) = true := by kernel_rfl
theorem ts_sup : (tl e4).all ((finsR tsF).contains ·) = true := by kernel_rfl
theorem ts_finals {l : List By} (h : FinOut sbP 2 1000 l) : tl l = tl e4 := by
  obtain ⟨_, _, h3, h4⟩ := h.2 (st_E tsR1000)
  have hI := reach_ok sb_right (by decide) (by decide) ts_reach
  refine rising_unique h3 e4_rising fun x => ?_
  rw [h4, ← fins_iff hI]
  constructor
  · intro hx
    have := List.all_eq_true.1 ts_sub x hx
    simpa using this
  · intro hx
    have := List.all_eq_true.1 ts_sup x hx
    simpa using this
def wayOf (fd : Fnd) (f : By) : List Pss := match hitR fd f with | none => [] | some k => wayR fd k
theorem ts_way : wayOf tsF (outB 1 0 0) = [⟨0, false, 0⟩, ⟨0, false, 0⟩, ⟨1, false, 0⟩, ⟨1, false, 0⟩, ⟨0, true, 0⟩, ⟨1, true, 0⟩] := by kernel_rfl
theorem sc_way : wayOf scF (outB 1 1 1) = [⟨0, false, 0⟩, ⟨1, false, 0⟩, ⟨0, false, 0⟩, ⟨1, false, 0⟩] := by kernel_rfl
theorem sc_no : (hitR scF (outB 7 1 1)).isSome = false := by kernel_rfl
theorem ts_yes : (hitR tsF (outB 1 0 0)).isSome = true := by kernel_rfl
theorem sc_yes : (hitR scF (outB 1 1 1)).isSome = true := by kernel_rfl
theorem way_of {m : UInt8} {n : Int} {fd : Fnd} (h : statesR sbP m n = some fd) (f : By) : wayL sbP m f n = wayOf fd f := by unfold wayL wayOf; rw [h]; rfl
theorem wayE_of {m : UInt8} {n : Int} {fd : Fnd} (h : statesR sbP m n = some fd) (f : By) : wayE sbP m f n = if (hitR fd f).isSome = true then 0 else 6 := by
  unfold wayE
  rw [if_pos (st_E h), h]
  show (match hitR fd f with | none => (6 : Int) | some _ => 0) = _
  cases hitR fd f <;> rfl
end Go.Proofs.YtbgnapmaimkpkaaGreatDoor
