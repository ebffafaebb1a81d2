/-
  Arrays that are written out. Conditions: none.
-/
import Derived.Test.YtmfdpnjgljlkbaaDoorVcL
set_option linter.unusedSimpArgs false
set_option linter.unusedVariables false
namespace Go.Proofs.YtmfdpnjgljlkbaaDoor
open Go.RowKit
section
variable {P : Program} {l : List Oper} {Q : Exit → Act → World → Prop} {N : Nat} {a : Act} {env : List (Nat × Value)} {rest : List Oper} {d : Tmp} {ty : TypeId} {pos : String} {af : Array Edge} {g : Option (Nat × Bool)} {w : World}
theorem rBa {t e : TypeId} {n size : Nat} {parts : List (Nat × Operand)} {ps : List (Nat × Value)} {zs : Array Value} {cs : List Value} (hz : ∀ w, (zeroValue t).run P w = .ok (.agg zs) w) (hu : P.underlying t = some (.array n e)) (hs : ∀ w, (sizeOf e).run P w = .ok size w)
    (F : Has N a env) (he : evP env parts = some ps) (hf : fillL (fun i => some (i * size, size)) zs.toList ps = some cs) :
    (execOp a.eval ⟨some d, .build t parts.toArray, ty, pos, af, g⟩).run P w = .ok (.value (.agg cs.toArray)) w := by
  have h1 := fill_of_fillL _ _ _ _ hf
  have h2 : (Instr.build t (parts.toArray.map fun (i, x) => (i, a.eval x))).run P w = .ok (.agg cs.toArray) w := by
    rw [List.map_toArray, F.parts he]
    have h1' : Instr.fill (fun i => some (i * size, size)) zs ps = some cs.toArray := by simpa using h1
    simp [Instr.build, run_underlying hu, hz, hs, h1', Value.cells, go_sem]
  simp only [execOp, Sem.run_bind, h2]
  rfl
theorem rBaB {t e : TypeId} {n m size : Nat} {parts : List (Nat × Operand)} {ps : List (Nat × Value)} {s : By} (hz : ∀ w, (zeroValue t).run P w = .ok (.agg (bs n zb).toArray) w) (hu : P.underlying t = some (.array m e)) (hs : ∀ w, (sizeOf e).run P w = .ok size w)
    (F : Has N a env) (he : evP env parts = some ps) (hf : FillB (fun i => some (i * size, size)) n zb ps s) :
    (execOp a.eval ⟨some d, .build t parts.toArray, ty, pos, af, g⟩).run P w = .ok (.value (.agg (bs n s).toArray)) w :=
  rBa hz hu hs F he hf.to
theorem sBaB {t e : TypeId} {n m size : Nat} {parts : List (Nat × Operand)} {ps : List (Nat × Value)} {s : By} (hz : ∀ w, (zeroValue t).run P w = .ok (.agg (bs n zb).toArray) w) (hu : P.underlying t = some (.array m e)) (hs : ∀ w, (sizeOf e).run P w = .ok size w)
    (F : Has N a env) (hg : wants l env g = true) (hN : Nat.blt d N = true) (he : evP env parts = some ps) (hf : FillB (fun i => some (i * size, size)) n zb ps s)
    (K : ∀ a, Has N a ((d, .agg (bs n s).toArray) :: env) → wpList P l.toArray Q rest a w) : wpList P l.toArray Q (⟨some d, .build t parts.toArray, ty, pos, af, g⟩ :: rest) a w :=
  stepV F hg rfl hN (rBaB hz hu hs F he hf) K
theorem rMaxN {x y : Operand} {ts : Array TypeId} {i j : Nat} {k k' : IntKind} (F : Has N a env) (hx : ev env x = some (.int k (i : Int))) (hy : ev env y = some (.int k' (j : Int))) :
    (execOp a.eval ⟨some d, .call ⟨.builtin .max, #[x, y], ts⟩, ty, pos, af, g⟩).run P w = .ok (.value (.int k ((max i j : Nat) : Int))) w := by
  simp only [execOp, resolve, invoke, builtin, Sem.run_bind, Sem.run_pure, Result.andThen_ok, List.map_toArray, List.map_cons, List.map_nil, F.eval hx, F.eval hy, Builtin.max_, List.foldlM, Builtin.max2]
  congr 4
  split <;> omega
theorem sMaxN {x y : Operand} {ts : Array TypeId} {i j : Nat} {k k' : IntKind} (F : Has N a env) (hg : wants l env g = true) (hN : Nat.blt d N = true) (hx : ev env x = some (.int k (i : Int))) (hy : ev env y = some (.int k' (j : Int)))
    (K : ∀ a, Has N a ((d, .int k ((max i j : Nat) : Int)) :: env) → wpList P l.toArray Q rest a w) : wpList P l.toArray Q (⟨some d, .call ⟨.builtin .max, #[x, y], ts⟩, ty, pos, af, g⟩ :: rest) a w :=
  stepV F hg rfl hN (rMaxN F hx hy) K
end
theorem splice_mid (s : List Value) : ∀ (r z p : List Value), z.length = r.length → splice (p ++ (z ++ s)) p.length r = p ++ (r ++ s)
  | [], [], p, _ => by simp [splice]
  | v :: r, y :: z, p, h => by
    have e1 : (p ++ (y :: z ++ s)).set p.length v = (p ++ [v]) ++ (z ++ s) := by simp
    have e2 : p.length + 1 = (p ++ [v]).length := by simp
    rw [splice, e1, e2, splice_mid s r z (p ++ [v]) (by simpa using h)]
    simp
/-- Rows, numbered, as parts. -/
def numP : List (List Value) → Nat → List (Nat × Value)
  | [], _ => []
  | r :: rs, k => (k, .agg r.toArray) :: numP rs (k + 1)
theorem fill_rows {size : Nat} {zs : List Value} (hz : zs.length = size) : ∀ (rows : List (List Value)) (k : Nat) (p : List Value), p.length = k * size → (∀ r ∈ rows, r.length = size) →
    fillL (fun i => some (i * size, size)) (p ++ rep rows.length zs) (numP rows k) = some (p ++ rows.flatten)
  | [], k, p, _, _ => by simp [numP, fillL, rep]
  | r :: rs, k, p, hp, hr => by
    have h1 := hr r (by simp)
    unfold numP fillL
    have e1 : (Value.cells (.agg r.toArray)).toList = r := rfl
    simp only [e1]
    have e2 : (Nat.beq r.length size && Nat.ble (k * size + r.length) (p ++ rep (r :: rs).length zs).length) = true := by
      rw [h1, Bool.and_eq_true]
      refine ⟨Nat.beq_refl _, Nat.ble_eq_true_of_le ?_⟩
      rw [List.length_append, hp, rep_length, hz, List.length_cons, Nat.add_mul, Nat.one_mul]; omega
    rw [e2]
    simp only [cond_true]
    have e3 : splice (p ++ rep (r :: rs).length zs) (k * size) r = (p ++ r) ++ rep rs.length zs := by
      rw [List.length_cons, rep, ← hp, splice_mid _ r zs p (by rw [hz, h1]), List.append_assoc]
    rw [e3, fill_rows hz rs (k + 1) (p ++ r) (by rw [List.length_append, hp, h1, Nat.add_mul, Nat.one_mul]) (fun q hq => hr q (by simp [hq]))]
    simp
section
variable {P : Program} {l : List Oper} {Q : Exit → Act → World → Prop} {N : Nat} {a : Act} {env : List (Nat × Value)} {rest : List Oper} {d : Tmp} {ty : TypeId} {pos : String} {af : Array Edge} {g : Option (Nat × Bool)} {w0 w : World} {row : Option Nat} {rs : List Res}
theorem sBsR {t e : TypeId} {size : Nat} {parts : List (Nat × Operand)} {rows : List (List Value)} {z : Value} (H : Own w0 row w rs) (ht : P.underlying t = some (.slice e)) (hs : ∀ w, (sizeOf e).run P w = .ok size w) (hz : ∀ w, (zeroValue e).run P w = .ok z w) (hzs : z.cells.size = size)
    (F : Has N a env) (hg : wants l env g = true) (hN : Nat.blt d N = true) (he : evP env parts = some (numP rows 0)) (hn : Nat.ble (rows.length * size) 16777216 = true) (hr : (rows.all fun r => Nat.beq r.length size) = true)
    (K : ∀ b a w, Has N a ((d, .slice (some ⟨b, 0, none⟩) rows.length rows.length) :: env) → Own w0 row w (.blk b rows.flatten e :: rs) → wpList P l.toArray Q rest a w) : wpList P l.toArray Q (⟨some d, .buildSlice t rows.length parts.toArray, ty, pos, af, g⟩ :: rest) a w :=
  sBs H ht hs hz hzs F hg hN he hn (fill_rows (size := size) (by rw [Array.length_toList]; exact hzs) rows 0 [] (by simp) (fun r hm => Nat.eq_of_beq_eq_true (List.all_eq_true.1 hr r hm))) K
end
end Go.Proofs.YtmfdpnjgljlkbaaDoor
