/-
  make([]T, n); copy into a block of the function's own; x[i:]; numbers of 64 bits without a sign; a call that writes into a block of the caller's. Conditions: none.
-/
import Derived.Test.YtbgnapmaimkpkaaGreatDoorVcX
import Derived.Deep.OwnRows
import Derived.Laws.OwnMore
import Derived.Laws.IdiomCopy
set_option linter.unusedSimpArgs false
set_option linter.unusedVariables false
namespace Go.Proofs.YtbgnapmaimkpkaaGreatDoor
open Go.RowKit
section
variable {P : Program} {l : List Oper} {Q : Exit → Act → World → Prop} {N : Nat} {a : Act} {env : List (Nat × Value)} {rest : List Oper} {d : Tmp} {ty : TypeId} {pos : String} {af : Array Edge} {g : Option (Nat × Bool)}
  {w0 w : World} {row : Option Nat} {rs : List Res} {Kt : Act → World → Prop}
theorem rSlL {t e : TypeId} {x lo : Operand} {b o n c i sz : Nat} {k' : IntKind} (ht : P.underlying t = some (.slice e)) (hz : ∀ w, (sizeOf e).run P w = .ok sz w) (F : Has N a env) (hx : ev env x = some (.slice (some ⟨b, o, none⟩) n c)) (hl : ev env lo = some (.int k' (i : Int))) (hi : i ≤ n) (hc : i < c) :
    (execOp a.eval ⟨some d, .slice t x (some lo) none none, ty, pos, af, g⟩).run P w = .ok (.value (.slice (some ⟨b, o + i * sz, none⟩) (n - i) (c - i))) w := by
  have he : P.elem t = e := by simp [Program.elem, ht]
  have h1 := run_slice_l (P := P) w t (some ⟨b, o, none⟩) n c (elem_of ht) k' (i : Int) (by omega) (by omega)
  rw [he, hz] at h1
  have h3 : (Instr.slice t (.slice (some ⟨b, o, none⟩) n c) (some (.int k' (i : Int))) none none).run P w = .ok (.slice (some ⟨b, o + i * sz, none⟩) (n - i) (c - i)) w := by
    rw [h1]
    simp only [Result.andThen_ok, sliced, Int.toNat_natCast]
    rw [if_neg (by omega)]
    simp [Addr.add_mid]
  simp only [execOp, Option.map_some, Option.map_none, F.eval hx, F.eval hl, Sem.run_bind, run_sliceAt_slice w t _ _ _ none (elem_of ht), h3]
  rfl
theorem sSlL {t e : TypeId} {x lo : Operand} {b o n c i sz : Nat} {k' : IntKind} (ht : P.underlying t = some (.slice e)) (hz : ∀ w, (sizeOf e).run P w = .ok sz w) (F : Has N a env) (hg : wants l env g = true) (hN : Nat.blt d N = true) (hx : ev env x = some (.slice (some ⟨b, o, none⟩) n c)) (hl : ev env lo = some (.int k' (i : Int))) (hi : i ≤ n) (hc : i < c)
    (K : ∀ a, Has N a ((d, .slice (some ⟨b, o + i * sz, none⟩) (n - i) (c - i)) :: env) → wpList P l.toArray Q rest a w) : wpList P l.toArray Q (⟨some d, .slice t x (some lo) none none, ty, pos, af, g⟩ :: rest) a w :=
  stepV F hg rfl hN (rSlL ht hz F hx hl hi hc) K
end
section
variable {P : Program} {t : TypeId} {x y : Operand} {n m : Nat}
end
/-- A call has turned a block of the caller's. -/
theorem Own.turned {w0 w w' : World} {row : Option Nat} {rs : List Res} {b : Nat} {cs cs' : List Value} {t : TypeId} (H : Own w0 row w rs) (i : Nat) (hi : rs[i]? = some (.blk b cs t)) (H2 : Own w (some b) w' [.blk b cs' t]) : Own w0 row w' (rs.set i (.blk b cs' t)) where
  grown := by
    have hb := H.foot i _ hi b rfl
    refine ⟨?_, ?_, ?_, Nat.le_trans H.grown.size H2.grown.size, fun j hj hne => ?_⟩
    · rw [H2.grown.os, H.grown.os]
    · rw [H2.grown.tape, H.grown.tape]
    · rw [H2.grown.output, H.grown.output]
    · rw [H2.grown.block j (Nat.lt_of_lt_of_le hj H.grown.size) (fun e => by
        cases e
        rcases hb.1 with h | h
        · omega
        · exact hne h), H.grown.block j hj hne]
  pred := fun j r hj => by
    rw [List.getElem?_set] at hj
    split at hj
    · split at hj
      · cases hj; exact H2.pred 0 _ rfl
      · cases hj
    · rename_i hne
      refine r.loc w w' (fun c hc => ?_) (H.pred j r hj)
      have hcb := H.foot j r hj c hc
      refine H2.grown.block c hcb.2 (fun e => ?_)
      have e : c = b := Option.some.inj e
      exact H.apart j i r _ hj hi (fun e => hne e.symm) c hc e
  foot := fun j r hj c hc => by
    rw [List.getElem?_set] at hj
    split at hj
    · split at hj
      · cases hj
        exact ⟨(H.foot i _ hi c hc).1, Nat.lt_of_lt_of_le (H.foot i _ hi c hc).2 H2.grown.size⟩
      · cases hj
    · exact ⟨(H.foot j r hj c hc).1, Nat.lt_of_lt_of_le (H.foot j r hj c hc).2 H2.grown.size⟩
  apart := fun j k r s hj hk hjk c hc hs => by
    have key : ∀ (j : Nat) (r : Res), (rs.set i (.blk b cs' t))[j]? = some r → ∃ r', rs[j]? = some r' ∧ ∀ c, r.foot c ↔ r'.foot c := fun j r hj => by
      rw [List.getElem?_set] at hj
      split at hj
      · rename_i e
        split at hj
        · cases hj; subst e; exact ⟨_, hi, fun c => Iff.rfl⟩
        · cases hj
      · exact ⟨r, hj, fun c => Iff.rfl⟩
    obtain ⟨r', h1, h2⟩ := key j r hj
    obtain ⟨s', h3, h4⟩ := key k s hk
    exact H.apart j k r' s' h1 h3 hjk c ((h2 c).1 hc) ((h4 c).1 hs)
end Go.Proofs.YtbgnapmaimkpkaaGreatDoor
