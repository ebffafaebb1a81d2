/-
  WALK2. Package parse: lines (the map of the keywords). Conditions: none.
-/
import Derived.Test.YtbdjlmdejlklkaaPrW
set_option linter.unusedSimpArgs false
set_option linter.unusedVariables false
namespace Go.Proofs.Ytbdjlmdejlklkaa
open Go.RowKit
set_option maxRecDepth 100000
def linesM : List (ByteArray × Value) := [(⟨#[116, 101, 115, 116]⟩, .func (.func 55) #[] #[]), (⟨#[105, 110, 105, 116]⟩, .func (.func 56) #[] #[]), (⟨#[116, 104, 114, 101, 97, 100]⟩, .func (.func 57) #[] #[]), (⟨#[115, 111, 109, 101]⟩, .func (.func 58) #[] #[]), (⟨#[110, 111, 110, 101]⟩, .func (.func 58) #[] #[]), (⟨#[97, 108, 108]⟩, .func (.func 58) #[] #[])]
theorem plines_any {W w0 : World} {rs : List Res} (H : Own W none w0 rs) : Calls Try.prog 42 #[] w0 fun e w' => ∃ b, e = .returned (.map (some b)) ∧ Own W none w' (.mpT b linesM :: rs) := by
  refine enterF Try.func42 rfl Try.ntmps42 rfl (fun a F => ?_)
  refine cSeq (fun K1 hK1 => ?_)
  refine cReg ?_
  refine sAs F rfl rfl rfl ?_;clear F a;intro a F
  refine sNil ?_
  refine hK1 _ _ ?_; clear hK1
  refine cSeq (fun K2 hK2 => ?_)
  refine cReg ?_
  refine sMkT H F rfl rfl ?_
  clear F a H; intro b1 a w F H
  refine sInsT H 0 Try.underlying95 Try.underlying9 F rfl rfl rfl rfl rfl (by kernel_rfl) ?_
  clear H; intro w H
  refine sInsT H 0 Try.underlying95 Try.underlying9 F rfl rfl rfl rfl rfl (by kernel_rfl) ?_
  clear H; intro w H
  refine sInsT H 0 Try.underlying95 Try.underlying9 F rfl rfl rfl rfl rfl (by kernel_rfl) ?_
  clear H; intro w H
  refine sInsT H 0 Try.underlying95 Try.underlying9 F rfl rfl rfl rfl rfl (by kernel_rfl) ?_
  clear H; intro w H
  refine sInsT H 0 Try.underlying95 Try.underlying9 F rfl rfl rfl rfl rfl (by kernel_rfl) ?_
  clear H; intro w H
  refine sInsT H 0 Try.underlying95 Try.underlying9 F rfl rfl rfl rfl rfl (by kernel_rfl) ?_
  clear H; intro w H
  refine sMv F rfl rfl rfl ?_;clear F a;intro a F
  refine sAs F rfl rfl rfl ?_;clear F a;intro a F
  refine sNil ?_
  refine hK2 _ _ ?_; clear hK2
  refine wp_ret ?_
  refine bRet Try.results42 F rfl ?_
  exact ⟨_, rfl, H⟩
end Go.Proofs.Ytbdjlmdejlklkaa
