/-
  Arrays that are written out. Conditions: none.
-/
import Derived.Test.YtbgnapmaimkpkaaGreatDoorVcL
set_option linter.unusedSimpArgs false
set_option linter.unusedVariables false
namespace Go.Proofs.YtbgnapmaimkpkaaGreatDoor
open Go.RowKit
section
variable {P : Program} {l : List Oper} {Q : Exit → Act → World → Prop} {N : Nat} {a : Act} {env : List (Nat × Value)} {rest : List Oper} {d : Tmp} {ty : TypeId} {pos : String} {af : Array Edge} {g : Option (Nat × Bool)} {w : World}
theorem rBa {t e : TypeId} {n size : Nat} {parts : List (Nat × Operand)} {ps : List (Nat × Value)} {zs : Array Value} {cs : List Value} (hz : ∀ w, (zeroValue t).run P w = .ok (.agg zs) w) (hu : P.underlying t = some (.array n e)) (hs : ∀ w, (sizeOf e).run P w = .ok size w)
    (F : Has N a env) (he : evP env parts = some ps) (hf : fillL (fun i => some (i * size, size)) zs.toList ps = some cs) :
    (execOp a.eval ⟨some d, .build t parts.toArray, ty, pos, af, g⟩).run P w = .ok (.value (.agg cs.toArray)) w := by
  have h1 := fill_of_fillL _ _ _ _ hf
  have h2 : (Instr.build t (parts.toArray.map fun (i, x) => (i, a.eval x))).run P w = .ok (.agg cs.toArray) w := by
    rw [List.map_toArray, F.parts he]
    have h1' : Instr.fill (fun i => some (i * size, size)) zs ps = some cs.toArray := by simpa using h1
    simp [Instr.build, run_underlying hu, hz, hs, h1', Value.cells, go_sem]
  simp only [execOp, Sem.run_bind, h2]
  rfl
theorem rBaB {t e : TypeId} {n m size : Nat} {parts : List (Nat × Operand)} {ps : List (Nat × Value)} {s : By} (hz : ∀ w, (zeroValue t).run P w = .ok (.agg (bs n zb).toArray) w) (hu : P.underlying t = some (.array m e)) (hs : ∀ w, (sizeOf e).run P w = .ok size w)
    (F : Has N a env) (he : evP env parts = some ps) (hf : FillB (fun i => some (i * size, size)) n zb ps s) :
    (execOp a.eval ⟨some d, .build t parts.toArray, ty, pos, af, g⟩).run P w = .ok (.value (.agg (bs n s).toArray)) w :=
  rBa hz hu hs F he hf.to
theorem sBaB {t e : TypeId} {n m size : Nat} {parts : List (Nat × Operand)} {ps : List (Nat × Value)} {s : By} (hz : ∀ w, (zeroValue t).run P w = .ok (.agg (bs n zb).toArray) w) (hu : P.underlying t = some (.array m e)) (hs : ∀ w, (sizeOf e).run P w = .ok size w)
    (F : Has N a env) (hg : wants l env g = true) (hN : Nat.blt d N = true) (he : evP env parts = some ps) (hf : FillB (fun i => some (i * size, size)) n zb ps s)
    (K : ∀ a, Has N a ((d, .agg (bs n s).toArray) :: env) → wpList P l.toArray Q rest a w) : wpList P l.toArray Q (⟨some d, .build t parts.toArray, ty, pos, af, g⟩ :: rest) a w :=
  stepV F hg rfl hN (rBaB hz hu hs F he hf) K
end
section
variable {P : Program} {l : List Oper} {Q : Exit → Act → World → Prop} {N : Nat} {a : Act} {env : List (Nat × Value)} {rest : List Oper} {d : Tmp} {ty : TypeId} {pos : String} {af : Array Edge} {g : Option (Nat × Bool)} {w0 w : World} {row : Option Nat} {rs : List Res}
end
end Go.Proofs.YtbgnapmaimkpkaaGreatDoor
