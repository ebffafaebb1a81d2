/-
  x[i:j] of an array; copy within a block of bytes. Conditions: bounds.
-/
import Derived.Test.YtbgnapmaimkpkaaGreatDoorVcX
import Derived.Laws.IdiomCopy
set_option linter.unusedSimpArgs false
set_option linter.unusedVariables false
namespace Go.Proofs.YtbgnapmaimkpkaaGreatDoor
open Go.RowKit
section
variable {P : Program} {l : List Oper} {Q : Exit → Act → World → Prop} {N : Nat} {a : Act} {env : List (Nat × Value)} {rest : List Oper} {d : Tmp} {ty : TypeId} {pos : String} {af : Array Edge} {g : Option (Nat × Bool)}
  {w0 w : World} {row : Option Nat} {rs : List Res} {Kt : Act → World → Prop}
/-- How far x[i:..] of an array of n lies behind x. -/
def offA (i n sz : Nat) : Nat := if n = i then 0 else i * sz
theorem rSlALH {t e : TypeId} {x lo hi : Operand} {b o n i j sz : Nat} {k k' : IntKind} (ht : P.underlying t = some (.array n e)) (hz : ∀ w, (sizeOf e).run P w = .ok sz w) (F : Has N a env) (hx : ev env x = some (.pointer (some ⟨b, o, none⟩))) (hl : ev env lo = some (.int k' (i : Int))) (hh : ev env hi = some (.int k (j : Int))) (hij : i ≤ j) (hj : j ≤ n) :
    (execOp a.eval ⟨some d, .slice t x (some lo) (some hi) none, ty, pos, af, g⟩).run P w = .ok (.value (.slice (some ⟨b, o + offA i n sz, none⟩) (j - i) (n - i))) w := by
  have he : P.elem t = e := by simp [Program.elem, ht]
  have hn : P.arrayLen t = n := by simp [Program.arrayLen, ht]
  have h1 := run_sliceAt_array_lh (P := P) w t ⟨b, o, none⟩ (by rw [he, hn]; exact ht) k' k (i : Int) (j : Int) (by omega) (by omega) (by rw [hn]; omega)
  rw [he, hz, hn] at h1
  simp only [execOp, Option.map_none, Option.map_some, F.eval hx, F.eval hl, F.eval hh, Sem.run_bind, h1, Result.andThen_ok, slicedAt, Int.toNat_natCast, Sem.run_pure, offA]
  split <;> simp [Addr.add]
theorem copy_run {dT ty elem : TypeId} {b o dLen dCap sLen sCap sz : Nat} {A : Addr} {cs : List Value} (hu : P.underlying dT = some (.slice elem)) (hs : (P.info? elem).map (·.size) = some sz) (hn : cs.length = Nat.min sLen dLen * sz)
    (hsrc : ∀ j v, cs[j]? = some v → w.cell? (A.add j) = some v) (hc : ∀ j, j < cs.length → (w.cell? ⟨b, o + j, none⟩).isSome = true) (hf : ∀ j, j < cs.length → w.frozen? ⟨b, o + j, none⟩ = false) (h1 : ∀ v ∈ cs, v.oneCell' = true) :
    (Builtin.copy_ #[dT, dT] ty #[.slice (some ⟨b, o, none⟩) dLen dCap, .slice (some A) sLen sCap]).run P w = .ok (goInt (Nat.min sLen dLen : Nat)) (w.setCells b o cs) := by
  have hl := run_loadCells_list (P := P) w A cs hsrc
  have hst := run_storeCells_cells (P := P) b o cs 0 w (by simpa using hc) (by simpa using hf) h1
  cases hq : P.info? elem with
  | none => simp [hq] at hs
  | some i =>
    have hi : i.size = sz := by simpa [hq] using hs
    rw [hn] at hl
    simp [Builtin.copy_, run_underlying hu, Builtin.lenOf, Builtin.firstCells, sizeOf, typeInfo, hq, hi, hl, hst]
theorem cpBB_run {t e : TypeId} {b od os n m dCap sCap i sz : Nat} {s : By} {bt : TypeId} (H : Own w0 row w rs) (ht : P.underlying t = some (.slice e)) (hz : ∀ w, (sizeOf e).run P w = .ok sz w)
    (hr : rs[i]? = some (.blk b (bs n s) bt)) (hd : m = 0 ∨ od + m * sz ≤ n) (hs : m = 0 ∨ os + m * sz ≤ n) (ty : TypeId) :
    ∃ w', (Builtin.copy_ #[t, t] ty #[.slice (some ⟨b, od, none⟩) m dCap, .slice (some ⟨b, os, none⟩) m sCap]).run P w = .ok (goInt ((m : Nat) : Int)) w' ∧ Own w0 row w' (rs.set i (.blk b (bs n (lay s od (m * sz) (cut s os))) bt)) := by
  have hq := info_size (P := P) hz
  have hd' : od + m * sz ≤ n ∨ m = 0 := hd.symm
  have key : ∀ j v, (bs (m * sz) (cut s os))[j]? = some v → j < m * sz ∧ v = b8 (s (os + j)) := fun j v hv => by
    rcases Nat.lt_or_ge j (m * sz) with hj | hj
    · rw [bs_get hj] at hv
      exact ⟨hj, (Option.some.inj hv).symm⟩
    · rw [bs_none hj] at hv; cases hv
  have hpos : ∀ j, j < m * sz → m ≠ 0 := fun j hj h0 => by rw [h0, Nat.zero_mul] at hj; omega
  have hrun := copy_run (P := P) (w := w) (ty := ty) (dCap := dCap) (sCap := sCap) (b := b) (o := od) (dLen := m) (sLen := m) (A := ⟨b, os, none⟩) (cs := bs (m * sz) (cut s os)) ht hq (by rw [bs_length]; simp [Nat.min_def])
    (fun j v hv => by
      obtain ⟨hj, rfl⟩ := key j v hv
      have := hpos j hj
      rw [Addr.add_mid]
      exact H.cell i hr (bs_get (by rcases hs with h | h <;> omega)))
    (fun j hj => by
      rw [bs_length] at hj
      have := hpos j hj
      rw [H.cell i hr (bs_get (by rcases hd with h | h <;> omega))]
      exact Option.isSome_some)
    (fun j hj => (H.blk i hr).frozen _)
    (fun v hv => by
      obtain ⟨j, hj⟩ := List.mem_iff_getElem?.1 hv
      obtain ⟨_, rfl⟩ := key j v hj
      rfl)
  have hmin : Nat.min m m = m := by simp [Nat.min_def]
  rw [hmin] at hrun
  refine ⟨_, hrun, ?_⟩
  have h3 := H.setCells i (bs (m * sz) (cut s os)) od w rs _ hr
  rcases hd with h | h
  · subst h
    have e : lay s od (0 * sz) (cut s os) = s := funext fun k => by unfold lay; rw [if_neg (by omega)]
    rw [e]
    have e2 : splice (bs n s) od (bs (0 * sz) (cut s os)) = bs n s := by rw [Nat.zero_mul]; rfl
    rw [e2] at h3
    exact h3
  · rw [bs_splice h] at h3
    exact h3
theorem cp_exec' {t ty' : TypeId} {s x : Operand} {v u v' : Value} {w' : World} (F : Has N a env) (hs : ev env s = some v) (hx : ev env x = some u) (hr : (Builtin.copy_ #[t, t] ty #[v, u]).run P w = .ok v' w') :
    (execOp a.eval ⟨some d, .call ⟨.builtin .copy, #[s, x], #[t, t]⟩, ty, pos, af, g⟩).run P w = .ok (.value v') w' := by
  simp only [execOp, resolve, invoke, builtin, Sem.run_bind, Sem.run_pure, Result.andThen_ok, List.map_toArray, List.map_cons, List.map_nil, F.eval hs, F.eval hx, hr]
theorem oCpBB {t e : TypeId} {x y : Operand} {b od os n m m' dCap sCap sz : Nat} {s : By} {bt : TypeId} (H : Own w0 row w rs) (i : Nat) (ht : P.underlying t = some (.slice e)) (hz : ∀ w, (sizeOf e).run P w = .ok sz w)
    (F : Has N a env) (hN : Nat.blt d N = true) (hx : ev env x = some (.slice (some ⟨b, od, none⟩) m dCap)) (hy : ev env y = some (.slice (some ⟨b, os, none⟩) m' sCap))
    (hr : rs[i]? = some (.blk b (bs n s) bt)) (hm : m' = m) (hd : m = 0 ∨ od + m * sz ≤ n) (hs : m = 0 ∨ os + m * sz ≤ n)
    (K : ∀ a w, Has N a ((d, goInt ((m : Nat) : Int)) :: env) → Own w0 row w (rs.set i (.blk b (bs n (lay s od (m * sz) (cut s os))) bt)) → Kt a w) :
    (Oper.mk (some d) (.call ⟨.builtin .copy, #[x, y], #[t, t]⟩) ty pos af g).wp P a w Kt Q := by
  subst hm
  obtain ⟨w', h2, h3⟩ := cpBB_run (P := P) (dCap := dCap) (sCap := sCap) H ht hz hr hd hs ty
  exact oV F rfl hN (cp_exec' (ty' := ty) F hx hy h2) (fun a F' => K a w' F' h3)
end
end Go.Proofs.YtbgnapmaimkpkaaGreatDoor
