/-
  What lies within its capacity: conditions, threads, programs, as the laws' guards (SizeCond, SizeProg) and the copies that are lent want it. Conditions: none.
-/
import Derived.Test.YtmfdpnjgljlkbaaDoorKtD
import Derived.Test.YtmfdpnjgljlkbaaDoorCapC
set_option linter.unusedSimpArgs false
set_option linter.unusedVariables false
namespace Go.Proofs.YtmfdpnjgljlkbaaDoor
open Go.RowKit
/-- A slice of threads, each within its capacity. -/
def ThreadsCap (w : World) (A : Option Addr) (l : List (List Ins)) : Prop := ∀ (j : Nat) (t : List Ins), l[j]? = some t → ∃ b off B C, A = some ⟨b, off, none⟩ ∧ w.cell? ⟨b, off + j * 1, none⟩ = some (.slice B t.length C) ∧ RowsAt w B 10 (t.map Ins.cells) ∧ t.length ≤ C ∧ C ≤ 9223372036854775807
theorem ThreadsCap.at {w : World} {A : Option Addr} {l : List (List Ins)} (h : ThreadsCap w A l) : ThreadsAt w A l := fun j t hj => by
  obtain ⟨b, off, B, C, h1, h2, h3, h4, h5⟩ := h j t hj
  exact ⟨b, off, B, C, h1, h2, h3, by omega⟩
/-- A program, all its slices within their capacities. -/
structure ProgCapIn (w : World) (cs : List Value) (p : Prg) (LA : Option Addr) (LC : Nat) (IA : Option Addr) (IC : Nat) (TA : Option Addr) (TC h : Nat) (ccs : List Value) : Prop where
  prog : ProgIn w cs p LA LC IA IC TA TC h ccs
  cond : CapAt w h ccs p.cond
  threads : ThreadsCap w TA p.threads
  initC : p.init.length ≤ IC
  threadsC : p.threads.length ≤ TC
def ProgCap (w : World) (cs : List Value) (p : Prg) : Prop := ∃ LA LC IA IC TA TC h ccs, ProgCapIn w cs p LA LC IA IC TA TC h ccs
theorem ThreadsCap.own {w0 w : World} {rs : List Res} {A : Option Addr} {l : List (List Ins)} (h : ThreadsCap w0 A l) (H : Own w0 none w rs) : ThreadsCap w A l := fun j t hj => by
  obtain ⟨b, off, B, C, h1, h2, h3, h4, h5⟩ := h j t hj
  exact ⟨b, off, B, C, h1, H.arg h2, h3.own H, h4, h5⟩
theorem ProgCapIn.own {w0 w : World} {rs : List Res} {cs : List Value} {p : Prg} {LA IA TA : Option Addr} {LC IC TC h : Nat} {ccs : List Value} (hp : ProgCapIn w0 cs p LA LC IA IC TA TC h ccs) (H : Own w0 none w rs) : ProgCapIn w cs p LA LC IA IC TA TC h ccs :=
  ⟨hp.prog.own H, hp.cond.own H, hp.threads.own H, hp.initC, hp.threadsC⟩
end Go.Proofs.YtmfdpnjgljlkbaaDoor
