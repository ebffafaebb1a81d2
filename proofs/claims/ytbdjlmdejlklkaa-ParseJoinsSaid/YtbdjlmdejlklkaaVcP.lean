/-
  WALK2. A field of a struct in hand; a value as an interface's. Conditions: none.
-/
import Derived.Test.YtbdjlmdejlklkaaVcH
set_option linter.unusedSimpArgs false
set_option linter.unusedVariables false
namespace Go.Proofs.Ytbdjlmdejlklkaa
open Go.RowKit
variable {P : Program} {l : List Oper} {Q : Exit → Act → World → Prop} {N : Nat} {a : Act} {env : List (Nat × Value)} {rest : List Oper} {d : Tmp} {ty : TypeId} {pos : String} {af : Array Edge} {g : Option (Nat × Bool)} {w : World}
theorem rFd {t : TypeId} {x : Operand} {f : Nat} {fs : Array Field} {fd : Field} {cs : List Value} {v : Value} (hs : P.underlying t = some (.struct fs)) (hf : fs[f]? = some fd) (ha : ∀ w, (isAgg fd.type).run P w = .ok false w) (F : Has N a env)
    (hx : ev env x = some (.agg cs.toArray)) (hv : cs[fd.offset]? = some v) : (execOp a.eval ⟨some d, .field t x f, ty, pos, af, g⟩).run P w = .ok (.value v) w := by
  simp only [execOp, F.eval hx]
  simp [Instr.field, run_underlying hs, hf, part, ha, hv, asAgg, go_sem]
theorem sFd {t : TypeId} {x : Operand} {f : Nat} {fs : Array Field} {fd : Field} {cs : List Value} {v : Value} (hs : P.underlying t = some (.struct fs)) (hf : fs[f]? = some fd) (ha : ∀ w, (isAgg fd.type).run P w = .ok false w) (F : Has N a env) (hg : wants l env g = true) (hN : Nat.blt d N = true)
    (hx : ev env x = some (.agg cs.toArray)) (hv : cs[fd.offset]? = some v)
    (K : ∀ a, Has N a ((d, v) :: env) → wpList P l.toArray Q rest a w) : wpList P l.toArray Q (⟨some d, .field t x f, ty, pos, af, g⟩ :: rest) a w :=
  stepV F hg rfl hN (rFd hs hf ha F hx hv) K
/-- A struct as an interface's value. -/
theorem rMi {t : TypeId} {x : Operand} {fs : Array Field} {v : Value} (hs : P.underlying t = some (.struct fs)) (F : Has N a env) (hx : ev env x = some v) : (execOp a.eval ⟨some d, .makeInterface t x, ty, pos, af, g⟩).run P w = .ok (.value (.iface t v)) w := by
  simp only [execOp, F.eval hx]
  simp [Instr.makeInterface, run_underlying hs, go_sem]
theorem sMi {t : TypeId} {x : Operand} {fs : Array Field} {v : Value} (hs : P.underlying t = some (.struct fs)) (F : Has N a env) (hg : wants l env g = true) (hN : Nat.blt d N = true) (hx : ev env x = some v)
    (K : ∀ a, Has N a ((d, .iface t v) :: env) → wpList P l.toArray Q rest a w) : wpList P l.toArray Q (⟨some d, .makeInterface t x, ty, pos, af, g⟩ :: rest) a w :=
  stepV F hg rfl hN (rMi hs F hx) K
/-! ### Some of the first n parts, in another order, ahead of the rest -/
theorem selT_at {rs : List Res} {n : Nat} {is : List Nat} {qs : List Res} (hs : pickL (rs.take n) is = some qs) {j : Nat} {r : Res} (hj : (qs ++ rs.drop n)[j]? = some r) :
    ∃ i, rs[i]? = some r ∧ (j < qs.length ∧ is[j]? = some i ∧ i < n ∨ qs.length ≤ j ∧ i = n + (j - qs.length)) := by
  rcases Nat.lt_or_ge j qs.length with h | h
  · rw [List.getElem?_append_left h] at hj
    obtain ⟨i, h1, h2⟩ := pickL_at hs j r hj
    rw [List.getElem?_take] at h2
    split at h2
    · exact ⟨i, h2, .inl ⟨h, h1, ‹_›⟩⟩
    · cases h2
  · rw [List.getElem?_append_right h, List.getElem?_drop] at hj
    exact ⟨_, hj, .inr ⟨h, rfl⟩⟩
theorem Own.selT {w0 w : World} {row : Option Nat} {rs : List Res} (H : Own w0 row w rs) (n : Nat) (is : List Nat) {qs : List Res} (hs : pickL (rs.take n) is = some qs) (hn : apartL is = true) : Own w0 row w (qs ++ rs.drop n) where
  grown := H.grown
  pred := fun j r hj => by obtain ⟨i, h1, _⟩ := selT_at hs hj; exact H.pred i r h1
  foot := fun j r hj => by obtain ⟨i, h1, _⟩ := selT_at hs hj; exact H.foot i r h1
  apart := fun j k r u hj hk hjk => by
    obtain ⟨i, h1, h2⟩ := selT_at hs hj
    obtain ⟨i', h3, h4⟩ := selT_at hs hk
    refine H.apart i i' r u h1 h3 (fun e => hjk ?_)
    subst e
    rcases h2 with ⟨a1, a2, a3⟩ | ⟨a1, a2⟩ <;> rcases h4 with ⟨b1, b2, b3⟩ | ⟨b1, b2⟩
    · exact apartL_at hn a2 b2
    · omega
    · omega
    · omega
end Go.Proofs.Ytbdjlmdejlklkaa
