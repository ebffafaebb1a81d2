/-
  WALK2. Package parse: an instruction, by the function that start answers. Conditions: the parser, its tokens and names lie in memory.
-/
import Derived.Test.YtbdjlmdejlklkaaPrS
set_option linter.unusedSimpArgs false
set_option linter.unusedVariables false
namespace Go.Proofs.Ytbdjlmdejlklkaa
open Go.RowKit
set_option maxRecDepth 100000
theorem pins_any (k : Nat) {W w0 : World} {rs : List Res} {c : PX} (hc : c.Ok) {A : Option Addr} {C bp : Nat} {S : Nat → Prop} {s : PS} {B : Option Addr} {D : Nat} {X : List Value} (hp : s.pos ≤ 998000) (hnl : s.names.length ≤ c.lim) (H : Own W none w0 (.blk bp (parC c A C s B D X) 59 :: .held S A 3 (rowsT c.ts) :: .nms W c.fixed B D s.names :: rs)) :
    CallsF Try.prog (insF k) [.pointer (some ⟨bp, 0, none⟩)] w0 (fun e w' => Ans W rs (insP c k s) (fun v t e w' => e = .returned (.agg v.cells.toArray) ∧ ∃ B D, Own W none w' (.blk bp (parC c A C t B D X) 59 :: .held S A 3 (rowsT c.ts) :: .nms W c.fixed B D t.names :: rs)) e w') := by
  unfold insF insP
  by_cases h0 : k = 0
  · rw [if_pos h0, if_pos h0]
    exact ⟨_, [], [], rfl, Try.call84, pfence_any hc (by omega) hnl H⟩
  rw [if_neg h0, if_neg h0]
  by_cases h1 : k = 1
  · rw [if_pos h1, if_pos h1]
    exact ⟨_, [], [], rfl, Try.call85, pskip_any hc (by omega) hnl H⟩
  rw [if_neg h1, if_neg h1]
  by_cases h2 : k = 2
  · rw [if_pos h2, if_pos h2]
    exact ⟨_, [], [], rfl, Try.call76, passign_any hc (by omega) hnl H⟩
  rw [if_neg h2, if_neg h2]
  exact ⟨_, [], [], rfl, Try.call77, pstore_any hc (by omega) hnl H⟩
end Go.Proofs.Ytbdjlmdejlklkaa
