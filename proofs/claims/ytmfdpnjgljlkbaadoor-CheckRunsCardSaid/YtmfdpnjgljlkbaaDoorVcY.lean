/-
  make([]T, n); copy into a block of the function's own; x[i:]; numbers of 64 bits without a sign; a call that writes into a block of the caller's. Conditions: none.
-/
import Derived.Test.YtmfdpnjgljlkbaaDoorVcX
import Derived.Deep.OwnRows
import Derived.Laws.OwnMore
import Derived.Laws.IdiomCopy
set_option linter.unusedSimpArgs false
set_option linter.unusedVariables false
namespace Go.Proofs.YtmfdpnjgljlkbaaDoor
open Go.RowKit
section
variable {P : Program} {l : List Oper} {Q : Exit → Act → World → Prop} {N : Nat} {a : Act} {env : List (Nat × Value)} {rest : List Oper} {d : Tmp} {ty : TypeId} {pos : String} {af : Array Edge} {g : Option (Nat × Bool)}
  {w0 w : World} {row : Option Nat} {rs : List Res} {Kt : Act → World → Prop}
theorem sMk {t e : TypeId} {x y : Operand} {n bytes : Nat} {z : Value} {k k' : IntKind} (H : Own w0 row w rs) (ht : P.underlying t = some (.slice e)) (hinfo : (P.info? e).map (fun i => (i.zero, i.size, i.bytes)) = some (some z, 1, bytes)) (hz1 : z.cells = #[z])
    (F : Has N a env) (hg : wants l env g = true) (hN : Nat.blt d N = true) (hx : ev env x = some (.int k (n : Int))) (hy : ev env y = some (.int k' (n : Int))) (hb : bytes * n ≤ 281474976710656) (h63 : n ≤ 9223372036854775807)
    (K : ∀ b a w, Has N a ((d, .slice (some ⟨b, 0, none⟩) n n) :: env) → Own w0 row w (.blk b (List.replicate n z) e :: rs) → wpList P l.toArray Q rest a w) : wpList P l.toArray Q (⟨some d, .makeSlice t x y, ty, pos, af, g⟩ :: rest) a w := by
  have h2 := run_make_row' (P := P) t e z bytes ht hinfo hz1 k k' n hb h63 w
  have h3 : (execOp a.eval ⟨some d, .makeSlice t x y, ty, pos, af, g⟩).run P w = .ok (.value (.slice (some ⟨w.heap.size, 0, none⟩) n n)) (w.alloc (.cells (madeCells #[z] n) e)) := by
    simp only [execOp, F.eval hx, F.eval hy, Sem.run_bind, h2]
    rfl
  refine stepV F hg rfl hN h3 (fun _ F' => K _ _ _ F' ?_)
  have := H.alloc (madeCells #[z] n) e
  rw [toList_madeCells_one] at this
  exact this
theorem cpL_run {t e : TypeId} {b o b2 o2 dLen dCap sLen sCap : Nat} {cs news : List Value} {bt : TypeId} (H : Own w0 row w rs) (i : Nat) (ht : P.underlying t = some (.slice e)) (hz : ∀ w, (sizeOf e).run P w = .ok 1 w)
    (hr : rs[i]? = some (.blk b cs bt)) (hnews : w.rangeAt b2 o2 news) (hl : news.length = min sLen dLen) (h1 : news.all (·.oneCell') = true) (hfit : o + news.length ≤ cs.length) (ty : TypeId) :
    ∃ w', (Builtin.copy_ #[t, t] ty #[.slice (some ⟨b, o, none⟩) dLen dCap, .slice (some ⟨b2, o2, none⟩) sLen sCap]).run P w = .ok (goInt ((min sLen dLen : Nat) : Int)) w' ∧ Own w0 row w' (rs.set i (.blk b (splice cs o news) bt)) := by
  have hs : (P.info? e).map (·.size) = some 1 := info_size hz
  have hrun := run_copy_cells (P := P) w t t ty e b o dLen dCap ⟨b2, o2, none⟩ sLen sCap news ht hs (hl.trans rfl)
    (fun j v hv => by rw [Addr.add_mid]; exact hnews j v hv)
    (fun j hj => by rw [H.cell i hr (List.getElem?_eq_getElem (by omega))]; exact Option.isSome_some) (fun j hj => (H.blk i hr).frozen _) (fun v hv => List.all_eq_true.1 h1 v hv)
  rw [hl] at hrun
  exact ⟨_, hrun, H.setCells i news o w rs cs hr⟩
theorem sCpL {t e : TypeId} {x y : Operand} {b o b2 o2 dLen dCap sLen sCap : Nat} {cs news : List Value} {bt : TypeId} (H : Own w0 row w rs) (i : Nat) (ht : P.underlying t = some (.slice e)) (hz : ∀ w, (sizeOf e).run P w = .ok 1 w)
    (F : Has N a env) (hg : wants l env g = true) (hN : Nat.blt d N = true) (hx : ev env x = some (.slice (some ⟨b, o, none⟩) dLen dCap)) (hy : ev env y = some (.slice (some ⟨b2, o2, none⟩) sLen sCap))
    (hr : rs[i]? = some (.blk b cs bt)) (hnews : w.rangeAt b2 o2 news) (hl : news.length = min sLen dLen) (h1 : news.all (·.oneCell') = true) (hfit : o + news.length ≤ cs.length)
    (K : ∀ a w, Has N a ((d, goInt ((min sLen dLen : Nat) : Int)) :: env) → Own w0 row w (rs.set i (.blk b (splice cs o news) bt)) → wpList P l.toArray Q rest a w) :
    wpList P l.toArray Q (⟨some d, .call ⟨.builtin .copy, #[x, y], #[t, t]⟩, ty, pos, af, g⟩ :: rest) a w := by
  obtain ⟨w', h2, h3⟩ := cpL_run (P := P) (dCap := dCap) (sCap := sCap) H i ht hz hr hnews hl h1 hfit ty
  exact stepV F hg rfl hN (cp_exec F hx hy h2) (fun a F' => K a w' F' h3)
theorem oCpL {t e : TypeId} {x y : Operand} {b o b2 o2 dLen dCap sLen sCap : Nat} {cs news : List Value} {bt : TypeId} (H : Own w0 row w rs) (i : Nat) (ht : P.underlying t = some (.slice e)) (hz : ∀ w, (sizeOf e).run P w = .ok 1 w)
    (F : Has N a env) (hN : Nat.blt d N = true) (hx : ev env x = some (.slice (some ⟨b, o, none⟩) dLen dCap)) (hy : ev env y = some (.slice (some ⟨b2, o2, none⟩) sLen sCap))
    (hr : rs[i]? = some (.blk b cs bt)) (hnews : w.rangeAt b2 o2 news) (hl : news.length = min sLen dLen) (h1 : news.all (·.oneCell') = true) (hfit : o + news.length ≤ cs.length)
    (K : ∀ a w, Has N a ((d, goInt ((min sLen dLen : Nat) : Int)) :: env) → Own w0 row w (rs.set i (.blk b (splice cs o news) bt)) → Kt a w) :
    (Oper.mk (some d) (.call ⟨.builtin .copy, #[x, y], #[t, t]⟩) ty pos af g).wp P a w (fun a w => Kt a w) Q := by
  obtain ⟨w', h2, h3⟩ := cpL_run (P := P) (dCap := dCap) (sCap := sCap) H i ht hz hr hnews hl h1 hfit ty
  exact oV F rfl hN (cp_exec F hx hy h2) (fun a F' => K a w' F' h3)
theorem rSlL {t e : TypeId} {x lo : Operand} {b o n c i sz : Nat} {k' : IntKind} (ht : P.underlying t = some (.slice e)) (hz : ∀ w, (sizeOf e).run P w = .ok sz w) (F : Has N a env) (hx : ev env x = some (.slice (some ⟨b, o, none⟩) n c)) (hl : ev env lo = some (.int k' (i : Int))) (hi : i ≤ n) (hc : i < c) :
    (execOp a.eval ⟨some d, .slice t x (some lo) none none, ty, pos, af, g⟩).run P w = .ok (.value (.slice (some ⟨b, o + i * sz, none⟩) (n - i) (c - i))) w := by
  have he : P.elem t = e := by simp [Program.elem, ht]
  have h1 := run_slice_l (P := P) w t (some ⟨b, o, none⟩) n c (elem_of ht) k' (i : Int) (by omega) (by omega)
  rw [he, hz] at h1
  have h3 : (Instr.slice t (.slice (some ⟨b, o, none⟩) n c) (some (.int k' (i : Int))) none none).run P w = .ok (.slice (some ⟨b, o + i * sz, none⟩) (n - i) (c - i)) w := by
    rw [h1]
    simp only [Result.andThen_ok, sliced, Int.toNat_natCast]
    rw [if_neg (by omega)]
    simp [Addr.add_mid]
  simp only [execOp, Option.map_some, Option.map_none, F.eval hx, F.eval hl, Sem.run_bind, run_sliceAt_slice w t _ _ _ none (elem_of ht), h3]
  rfl
theorem sSlL {t e : TypeId} {x lo : Operand} {b o n c i sz : Nat} {k' : IntKind} (ht : P.underlying t = some (.slice e)) (hz : ∀ w, (sizeOf e).run P w = .ok sz w) (F : Has N a env) (hg : wants l env g = true) (hN : Nat.blt d N = true) (hx : ev env x = some (.slice (some ⟨b, o, none⟩) n c)) (hl : ev env lo = some (.int k' (i : Int))) (hi : i ≤ n) (hc : i < c)
    (K : ∀ a, Has N a ((d, .slice (some ⟨b, o + i * sz, none⟩) (n - i) (c - i)) :: env) → wpList P l.toArray Q rest a w) : wpList P l.toArray Q (⟨some d, .slice t x (some lo) none none, ty, pos, af, g⟩ :: rest) a w :=
  stepV F hg rfl hN (rSlL ht hz F hx hl hi hc) K
end
section
variable {P : Program} {t : TypeId} {x y : Operand} {n m : Nat}
theorem u64wrap (n : Int) : IntKind.u64.wrap n = n % 18446744073709551616 := by simp [IntKind.wrap, IntKind.signed, IntKind.bits]
theorem wrapU (h : n < 18446744073709551616) : IntKind.u64.wrap (n : Int) = (n : Int) := by rw [u64wrap]; omega
theorem bMulU (h : n * m < 18446744073709551616) : BinR P .mul t x y (.int .u64 (n : Int)) (.int .u64 (m : Int)) (.int .u64 ((n * m : Nat) : Int)) := fun w => by
  have : (do eqGuard .mul t x y (.int .u64 (n : Int)) (.int .u64 (m : Int)); binOp .mul t (.int .u64 (n : Int)) (.int .u64 (m : Int)) : Sem Value).run P w = .ok (.int .u64 (IntKind.u64.wrap ((n : Int) * (m : Int)))) w := by simp [eqGuard, binOp, Op.intArith, go_sem]
  rw [this, ← Int.natCast_mul, wrapU h]
theorem bAddU (h : n + m < 18446744073709551616) : BinR P .add t x y (.int .u64 (n : Int)) (.int .u64 (m : Int)) (.int .u64 ((n + m : Nat) : Int)) := fun w => by
  rw [bAdd w, ← Int.natCast_add, wrapU h]
theorem bShrU (h : n < 4294967296) : BinR P .shr t x y (.int .u64 (n : Int)) (.int .u64 32) (.int .u64 ((0 : Nat) : Int)) := fun w => by
  have h2 : Op.shift .shr .u64 (n : Int) .u64 32 = pure (.int .u64 ((n : Int) / 2 ^ (32 : Int).toNat)) := shift_shr .u64 .u64 (n : Int) 32 (by omega) (by decide)
  simp only [eqGuard_shr, binOp_shr, h2]
  show Result.ok (Value.int .u64 ((n : Int) / 2 ^ (32 : Int).toNat)) w = _
  have e : (n : Int) / 2 ^ (32 : Int).toNat = ((0 : Nat) : Int) := by
    show (n : Int) / 4294967296 = ((0 : Nat) : Int)
    omega
  rw [e]
theorem bAndU (h : n < 4294967296) : BinR P .and t x y (.int .u64 (n : Int)) (.int .u64 4294967295) (.int .u64 (n : Int)) := fun w => by
  simp only [eqGuard, binOp, Op.intBits, go_sem]
  show Result.ok (Value.int .u64 (IntKind.u64.wrap ((BitVec.ofInt 64 (n : Int) &&& BitVec.ofInt 64 4294967295).toNat : Int))) w = _
  have e1 : (BitVec.ofInt 64 (n : Int) &&& BitVec.ofInt 64 4294967295).toNat = n := by
    rw [BitVec.toNat_and, BitVec.ofInt_natCast, BitVec.toNat_ofNat]
    have : (BitVec.ofInt 64 4294967295).toNat = 2 ^ 32 - 1 := by decide
    rw [this, Nat.and_two_pow_sub_one_eq_mod]
    omega
  rw [e1, wrapU (by omega)]
end
/-- A call has turned a block of the caller's. -/
theorem Own.turned {w0 w w' : World} {row : Option Nat} {rs : List Res} {b : Nat} {cs cs' : List Value} {t : TypeId} (H : Own w0 row w rs) (i : Nat) (hi : rs[i]? = some (.blk b cs t)) (H2 : Own w (some b) w' [.blk b cs' t]) : Own w0 row w' (rs.set i (.blk b cs' t)) where
  grown := by
    have hb := H.foot i _ hi b rfl
    refine ⟨?_, ?_, ?_, Nat.le_trans H.grown.size H2.grown.size, fun j hj hne => ?_⟩
    · rw [H2.grown.os, H.grown.os]
    · rw [H2.grown.tape, H.grown.tape]
    · rw [H2.grown.output, H.grown.output]
    · rw [H2.grown.block j (Nat.lt_of_lt_of_le hj H.grown.size) (fun e => by
        cases e
        rcases hb.1 with h | h
        · omega
        · exact hne h), H.grown.block j hj hne]
  pred := fun j r hj => by
    rw [List.getElem?_set] at hj
    split at hj
    · split at hj
      · cases hj; exact H2.pred 0 _ rfl
      · cases hj
    · rename_i hne
      refine r.loc w w' (fun c hc => ?_) (H.pred j r hj)
      have hcb := H.foot j r hj c hc
      refine H2.grown.block c hcb.2 (fun e => ?_)
      have e : c = b := Option.some.inj e
      exact H.apart j i r _ hj hi (fun e => hne e.symm) c hc e
  foot := fun j r hj c hc => by
    rw [List.getElem?_set] at hj
    split at hj
    · split at hj
      · cases hj
        exact ⟨(H.foot i _ hi c hc).1, Nat.lt_of_lt_of_le (H.foot i _ hi c hc).2 H2.grown.size⟩
      · cases hj
    · exact ⟨(H.foot j r hj c hc).1, Nat.lt_of_lt_of_le (H.foot j r hj c hc).2 H2.grown.size⟩
  apart := fun j k r s hj hk hjk c hc hs => by
    have key : ∀ (j : Nat) (r : Res), (rs.set i (.blk b cs' t))[j]? = some r → ∃ r', rs[j]? = some r' ∧ ∀ c, r.foot c ↔ r'.foot c := fun j r hj => by
      rw [List.getElem?_set] at hj
      split at hj
      · rename_i e
        split at hj
        · cases hj; subst e; exact ⟨_, hi, fun c => Iff.rfl⟩
        · cases hj
      · exact ⟨r, hj, fun c => Iff.rfl⟩
    obtain ⟨r', h1, h2⟩ := key j r hj
    obtain ⟨s', h3, h4⟩ := key k s hk
    exact H.apart j k r' s' h1 h3 hjk c ((h2 c).1 hc) ((h4 c).1 hs)
end Go.Proofs.YtmfdpnjgljlkbaaDoor
