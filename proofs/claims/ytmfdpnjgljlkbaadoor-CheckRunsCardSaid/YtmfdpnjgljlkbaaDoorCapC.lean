/-
  A condition in memory, its slices within their capacities. Conditions: none.
-/
import Derived.Test.YtmfdpnjgljlkbaaDoorCkK
set_option linter.unusedSimpArgs false
set_option linter.unusedVariables false
namespace Go.Proofs.YtmfdpnjgljlkbaaDoor
open Go.RowKit

/-- The cells are a condition's, h deep at most; slices are within their capacities. -/
def CapAt (w : World) : Nat → List Value → Cnd → Prop
  | 0, _, _ => False
  | h + 1, cs, .mk k t n v kids => ∃ A C, cs = [b8 k, b8 t, b8 n, b8 v, .slice A kids.length C] ∧ kids.length ≤ C ∧ C ≤ 9223372036854775807 ∧
      ∀ j kid, kids[j]? = some kid → ∃ b off cs', A = some ⟨b, off, none⟩ ∧ w.rangeAt b (off + j * 5) cs' ∧ CapAt w h cs' kid
theorem CapAt.at {w : World} : ∀ {h : Nat} {cs : List Value} {c : Cnd}, CapAt w h cs c → CondAt w h cs c
  | 0, _, _, h => h
  | _ + 1, _, .mk _ _ _ _ _, ⟨A, C, h1, h2, h3, h4⟩ => ⟨A, C, h1, by omega, fun j kid hj => by
    obtain ⟨b, off, cs', h5, h6, h7⟩ := h4 j kid hj
    exact ⟨b, off, cs', h5, h6, h7.at⟩⟩
theorem CapAt.grown {w w' : World} {row : Option Nat} (hg : w.grownBy w' row) (hr : row = none) : ∀ (h : Nat) (cs : List Value) (c : Cnd), CapAt w h cs c → CapAt w' h cs c
  | 0, _, _, hc => hc
  | h + 1, cs, .mk k t n v kids, hc => by
    obtain ⟨A, C, h1, h2, h2', h3⟩ := hc
    refine ⟨A, C, h1, h2, h2', fun j kid hj => ?_⟩
    obtain ⟨b, off, cs', h4, h5, h6⟩ := h3 j kid hj
    exact ⟨b, off, cs', h4, fun i u hu => hg.cell (h5 i u hu) (by subst hr; simp), CapAt.grown hg hr h cs' kid h6⟩
theorem CapAt.own {w0 w : World} {rs : List Res} {h : Nat} {cs : List Value} {c : Cnd} (hc : CapAt w0 h cs c) (H : Own w0 none w rs) : CapAt w h cs c := hc.grown H.grown rfl
end Go.Proofs.YtmfdpnjgljlkbaaDoor
