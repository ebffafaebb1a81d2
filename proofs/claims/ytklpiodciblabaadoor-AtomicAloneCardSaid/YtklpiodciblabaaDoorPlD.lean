/-
  WALK2. The law's read: what the next read of a thread that runs alone returns. Conditions: the thread, the reads so far and the two tables lie in memory.
-/
import Derived.Test.YtklpiodciblabaaDoorPlC
import Derived.Test.YtklpiodciblabaaDoorPaZ
import Derived.Test.YtklpiodciblabaaDoorLwK
set_option linter.unusedSimpArgs false
set_option linter.unusedVariables false
namespace Go.Proofs.YtklpiodciblabaaDoor
open Go.RowKit
set_option maxRecDepth 100000
theorem Follow_n (A : Option Addr) (C n : Nat) (l : List Ins) (RA : Option Addr) (RC k : Nat) (reads : List UInt8) (w0 : World) (hA : RowsAt w0 A 10 (l.map Ins.cells)) (hn : l.length ≤ 9223372036854775807) (hnl : n = l.length) (hR : BytesAt w0 RA reads) (hrn : reads.length ≤ 9223372036854775806) (hk : k = reads.length) (hN : NeedsAt w0) (hT : TabAt w0) :
    Calls Tryd.prog 7 #[.slice A n C, .slice RA k RC] w0 (FolPost (followR l reads) w0) := by
  subst hk hnl
  exact Follow_any A C l RA RC reads w0 hA hn hR hrn hN hT
/-- What Follow answers to so many zeros more. -/
def Qz (N : Nat) (z : RunP) (n : Nat) : FR := if n + 1 < N then ⟨zPathP, true, 0⟩ else ⟨runPath z, false, 0⟩
/-- All that the walk needs to know of the next read. -/
structure NextR (m0 : By) (l : List Ins) (reads : List UInt8) (v : UInt8) (N : Nat) (z : RunP) (pre : List Ev) (e1 : Ev) (rest : List Ev) : Prop where
  n1 : 1 ≤ N
  n12 : N ≤ 12
  ans : ∀ n, n + 1 ≤ N → followR l (reads ++ List.replicate (n + 1) 0) = Qz N z n
  evs : evsP z = pre ++ e1 :: rest
  rd : (rdL pre).length = reads.length
  kind : e1.kind = 1
  val : memL m0 pre e1.loc.toNat = v
  loc : LocOk (evsP z)
theorem next_read {m0 : By} {l : List Ins} {vs : List UInt8} {zE : RunP} (hl : threadOk 6 l = true) (h : Alone m0 l zRun vs zE) {k : Nat} (hk : k < vs.length) : ∃ N z pre e1 rest, NextR m0 l (vs.take k) (vs.getD k 0) N z pre e1 rest := by
  obtain ⟨W, x, hW⟩ := h.atRead k hk
  have hp := (List.getElem?_eq_some_iff.1 hW.ins).1
  have h12 := thr_len hl
  have hpc := exec_pc x 0 W
  obtain ⟨N, z, rest, h0, h1, h2, h3, h4⟩ := zero_run hl (l.length - (execE x 0 W).pc) (execE x 0 W) (Nat.le_refl _)
  obtain ⟨e1, rest1, he, hk1, hk2, _, _⟩ := new_reads hW.reads 0 W
  rw [evs_exec, he, List.append_assoc, List.cons_append] at h3
  have hgo : ∀ n, goP l (vs.take k ++ List.replicate (n + 1) 0) zRun = goP l (List.replicate n 0) (execE x 0 W) := fun n => by
    rw [hW.go, List.replicate_succ, go_read hW.ins hW.reads]
  have hlocW : LocOk (evsP W) → LocOk (evsP z) := fun hh => h4 (loc_exec 0 hl hW.ins hh)
  refine ⟨N + 1, z, evsP W, e1, _, ⟨by omega, by omega, fun n hn => ?_, h3, ?_, hk1, ?_, hlocW ?_⟩⟩
  · unfold Qz
    by_cases hc : n + 1 < N + 1
    · rw [if_pos hc]
      refine followR_ok (q := .wants) hl ?_
      show goP l _ zRun = .wants
      rw [hgo]; exact h2 n (by omega)
    · rw [if_neg hc]
      have e : n = N := by omega
      subst e
      refine followR_ok (q := .done z) hl ?_
      show goP l _ zRun = .done z
      rw [hgo]; exact h1
  · rw [hW.rd]
    have : rdL (evsP zRun) = [] := rfl
    rw [this, List.nil_append]
  · rw [hk2, List.getD_eq_getElem?_getD, hW.val]; rfl
  · exact hW.loc hl (fun e he => by have he : e ∈ ([] : List Ev) := he; cases he)
end Go.Proofs.YtklpiodciblabaaDoor
