/-
  Plain Lean: threads and states by place (a thread: its Pc at 0, its registers from 1 on; a state: thread t from 9 t on, memory from 36 on, buffers from 42 on, their lengths from 138 on), and what a move computes. Conditions: none.
 
  Plain Lean: valid states, enabled threads, runs. Conditions: none.
 
  Bytes that are read. Conditions: none.
-/
import Derived.Test.YtklpiodciblabaaGreatDoorCkK
import Derived.Test.YtklpiodciblabaaGreatDoorVcL
import Derived.Test.YtklpiodciblabaaGreatDoorCkL
set_option linter.unusedSimpArgs false
set_option linter.unusedVariables false
namespace Go.Proofs.YtklpiodciblabaaGreatDoor

end Go.Proofs.YtklpiodciblabaaGreatDoor

namespace Go.Proofs.YtklpiodciblabaaGreatDoor

def intRows (l : List Nat) : List (List Value) := l.map fun t : Nat => [.int .i64 (t : Int)]
@[simp] theorem intRows_length (l : List Nat) : (intRows l).length = l.length := by simp [intRows]
end Go.Proofs.YtklpiodciblabaaGreatDoor

namespace Go.Proofs.YtklpiodciblabaaGreatDoor
open Go.RowKit
set_option maxRecDepth 100000
def BytesAt (w : World) (A : Option Addr) (l : List UInt8) : Prop := RowsAt w A 1 (l.map fun x => [b8 x])
theorem BytesAt.get {w : World} {A : Option Addr} {l : List UInt8} (h : BytesAt w A l) {j : Nat} {x : UInt8} (hj : l[j]? = some x) : ∃ b off, A = some ⟨b, off, none⟩ ∧ w.cell? ⟨b, off + j * 1, none⟩ = some (b8 x) := by
  obtain ⟨b, off, h1, h2⟩ := h j [b8 x] (by rw [List.getElem?_map, hj]; rfl)
  exact ⟨b, off, h1, by have := h2 0 _ rfl; rwa [Nat.add_zero] at this⟩
end Go.Proofs.YtklpiodciblabaaGreatDoor
