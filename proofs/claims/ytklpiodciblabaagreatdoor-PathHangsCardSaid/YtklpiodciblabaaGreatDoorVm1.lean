/-
  Arrays that are written out. Conditions: none.
-/
import Derived.Test.YtklpiodciblabaaGreatDoorVcL
import Derived.Laws.IdiomCopy
import Derived.Deep.OwnRows
import Derived.Laws.OwnMore
import Derived.Lib.BufferMore
set_option linter.unusedSimpArgs false
set_option linter.unusedVariables false
namespace Go.Proofs.YtklpiodciblabaaGreatDoor
-- VcX
open Go.RowKit
section
variable {P : Program} {l : List Oper} {Q : Exit → Act → World → Prop} {N : Nat} {a : Act} {env : List (Nat × Value)} {rest : List Oper} {d : Tmp} {ty : TypeId} {pos : String} {af : Array Edge} {g : Option (Nat × Bool)} {w : World}
theorem rBa {t e : TypeId} {n size : Nat} {parts : List (Nat × Operand)} {ps : List (Nat × Value)} {zs : Array Value} {cs : List Value} (hz : ∀ w, (zeroValue t).run P w = .ok (.agg zs) w) (hu : P.underlying t = some (.array n e)) (hs : ∀ w, (sizeOf e).run P w = .ok size w)
    (F : Has N a env) (he : evP env parts = some ps) (hf : fillL (fun i => some (i * size, size)) zs.toList ps = some cs) :
    (execOp a.eval ⟨some d, .build t parts.toArray, ty, pos, af, g⟩).run P w = .ok (.value (.agg cs.toArray)) w := by
  have h1 := fill_of_fillL _ _ _ _ hf
  have h2 : (Instr.build t (parts.toArray.map fun (i, x) => (i, a.eval x))).run P w = .ok (.agg cs.toArray) w := by
    rw [List.map_toArray, F.parts he]
    have h1' : Instr.fill (fun i => some (i * size, size)) zs ps = some cs.toArray := by simpa using h1
    simp [Instr.build, run_underlying hu, hz, hs, h1', Value.cells, go_sem]
  simp only [execOp, Sem.run_bind, h2]
  rfl
theorem rBaB {t e : TypeId} {n m size : Nat} {parts : List (Nat × Operand)} {ps : List (Nat × Value)} {s : By} (hz : ∀ w, (zeroValue t).run P w = .ok (.agg (bs n zb).toArray) w) (hu : P.underlying t = some (.array m e)) (hs : ∀ w, (sizeOf e).run P w = .ok size w)
    (F : Has N a env) (he : evP env parts = some ps) (hf : FillB (fun i => some (i * size, size)) n zb ps s) :
    (execOp a.eval ⟨some d, .build t parts.toArray, ty, pos, af, g⟩).run P w = .ok (.value (.agg (bs n s).toArray)) w :=
  rBa hz hu hs F he hf.to
theorem sBaB {t e : TypeId} {n m size : Nat} {parts : List (Nat × Operand)} {ps : List (Nat × Value)} {s : By} (hz : ∀ w, (zeroValue t).run P w = .ok (.agg (bs n zb).toArray) w) (hu : P.underlying t = some (.array m e)) (hs : ∀ w, (sizeOf e).run P w = .ok size w)
    (F : Has N a env) (hg : wants l env g = true) (hN : Nat.blt d N = true) (he : evP env parts = some ps) (hf : FillB (fun i => some (i * size, size)) n zb ps s)
    (K : ∀ a, Has N a ((d, .agg (bs n s).toArray) :: env) → wpList P l.toArray Q rest a w) : wpList P l.toArray Q (⟨some d, .build t parts.toArray, ty, pos, af, g⟩ :: rest) a w :=
  stepV F hg rfl hN (rBaB hz hu hs F he hf) K
theorem qBaB {t e : TypeId} {n m size : Nat} {parts : List (Nat × Operand)} {ps : List (Nat × Value)} {s : By} (hz : ∀ w, (zeroValue t).run P w = .ok (.agg (bs n zb).toArray) w) (hu : P.underlying t = some (.array m e)) (hs : ∀ w, (sizeOf e).run P w = .ok size w) (hg : wants l env g = true) (hN : Nat.blt d N = true) (he : evP env parts = some ps) (hf : FillB (fun i => some (i * size, size)) n zb ps s) (K : ∀ a, Has N a ((d, .agg (bs n s).toArray) :: env) → wpList P l.toArray Q rest a w) : ∀ a, Has N a env → wpList P l.toArray Q (⟨some d, .build t parts.toArray, ty, pos, af, g⟩ :: rest) a w := fun a F => sBaB hz hu hs F hg hN he hf K
end
theorem splice_mid (s : List Value) : ∀ (r z p : List Value), z.length = r.length → splice (p ++ (z ++ s)) p.length r = p ++ (r ++ s)
  | [], [], p, _ => by simp [splice]
  | v :: r, y :: z, p, h => by
    have e1 : (p ++ (y :: z ++ s)).set p.length v = (p ++ [v]) ++ (z ++ s) := by simp
    have e2 : p.length + 1 = (p ++ [v]).length := by simp
    rw [splice, e1, e2, splice_mid s r z (p ++ [v]) (by simpa using h)]
    simp
def numP : List (List Value) → Nat → List (Nat × Value)
  | [], _ => []
  | r :: rs, k => (k, .agg r.toArray) :: numP rs (k + 1)
theorem fill_rows {size : Nat} {zs : List Value} (hz : zs.length = size) : ∀ (rows : List (List Value)) (k : Nat) (p : List Value), p.length = k * size → (∀ r ∈ rows, r.length = size) →
    fillL (fun i => some (i * size, size)) (p ++ rep rows.length zs) (numP rows k) = some (p ++ rows.flatten)
  | [], k, p, _, _ => by simp [numP, fillL, rep]
  | r :: rs, k, p, hp, hr => by
    have h1 := hr r (by simp)
    unfold numP fillL
    have e1 : (Value.cells (.agg r.toArray)).toList = r := rfl
    simp only [e1]
    have e2 : (Nat.beq r.length size && Nat.ble (k * size + r.length) (p ++ rep (r :: rs).length zs).length) = true := by
      rw [h1, Bool.and_eq_true]
      refine ⟨Nat.beq_refl _, Nat.ble_eq_true_of_le ?_⟩
      rw [List.length_append, hp, rep_length, hz, List.length_cons, Nat.add_mul, Nat.one_mul]; omega
    rw [e2]
    simp only [cond_true]
    have e3 : splice (p ++ rep (r :: rs).length zs) (k * size) r = (p ++ r) ++ rep rs.length zs := by
      rw [List.length_cons, rep, ← hp, splice_mid _ r zs p (by rw [hz, h1]), List.append_assoc]
    rw [e3, fill_rows hz rs (k + 1) (p ++ r) (by rw [List.length_append, hp, h1, Nat.add_mul, Nat.one_mul]) (fun q hq => hr q (by simp [hq]))]
    simp
section
variable {P : Program} {l : List Oper} {Q : Exit → Act → World → Prop} {N : Nat} {a : Act} {env : List (Nat × Value)} {rest : List Oper} {d : Tmp} {ty : TypeId} {pos : String} {af : Array Edge} {g : Option (Nat × Bool)} {w0 w : World} {row : Option Nat} {rs : List Res}
theorem sBsR {t e : TypeId} {size : Nat} {parts : List (Nat × Operand)} {rows : List (List Value)} {z : Value} (H : Own w0 row w rs) (ht : P.underlying t = some (.slice e)) (hs : ∀ w, (sizeOf e).run P w = .ok size w) (hz : ∀ w, (zeroValue e).run P w = .ok z w) (hzs : z.cells.size = size)
    (F : Has N a env) (hg : wants l env g = true) (hN : Nat.blt d N = true) (he : evP env parts = some (numP rows 0)) (hn : Nat.ble (rows.length * size) 16777216 = true) (hr : (rows.all fun r => Nat.beq r.length size) = true)
    (K : ∀ b a w, Has N a ((d, .slice (some ⟨b, 0, none⟩) rows.length rows.length) :: env) → Own w0 row w (.blk b rows.flatten e :: rs) → wpList P l.toArray Q rest a w) : wpList P l.toArray Q (⟨some d, .buildSlice t rows.length parts.toArray, ty, pos, af, g⟩ :: rest) a w :=
  sBs H ht hs hz hzs F hg hN he hn (fill_rows (size := size) (by rw [Array.length_toList]; exact hzs) rows 0 [] (by simp) (fun r hm => Nat.eq_of_beq_eq_true (List.all_eq_true.1 hr r hm))) K
end
-- VcM
open Go.RowKit
section
variable {P : Program} {l : List Oper} {Q : Exit → Act → World → Prop} {N : Nat} {a : Act} {env : List (Nat × Value)} {rest : List Oper} {d : Tmp} {ty : TypeId} {pos : String} {af : Array Edge} {g : Option (Nat × Bool)}
  {w0 w : World} {row : Option Nat} {rs : List Res} {Kt : Act → World → Prop}
end
-- VcY
open Go.RowKit
section
variable {P : Program} {l : List Oper} {Q : Exit → Act → World → Prop} {N : Nat} {a : Act} {env : List (Nat × Value)} {rest : List Oper} {d : Tmp} {ty : TypeId} {pos : String} {af : Array Edge} {g : Option (Nat × Bool)}
  {w0 w : World} {row : Option Nat} {rs : List Res} {Kt : Act → World → Prop}
theorem rSlL {t e : TypeId} {x lo : Operand} {b o n c i sz : Nat} {k' : IntKind} (ht : P.underlying t = some (.slice e)) (hz : ∀ w, (sizeOf e).run P w = .ok sz w) (F : Has N a env) (hx : ev env x = some (.slice (some ⟨b, o, none⟩) n c)) (hl : ev env lo = some (.int k' (i : Int))) (hi : i ≤ n) (hc : i < c) :
    (execOp a.eval ⟨some d, .slice t x (some lo) none none, ty, pos, af, g⟩).run P w = .ok (.value (.slice (some ⟨b, o + i * sz, none⟩) (n - i) (c - i))) w := by
  have he : P.elem t = e := by simp [Program.elem, ht]
  have h1 := run_slice_l (P := P) w t (some ⟨b, o, none⟩) n c (elem_of ht) k' (i : Int) (by omega) (by omega)
  rw [he, hz] at h1
  have h3 : (Instr.slice t (.slice (some ⟨b, o, none⟩) n c) (some (.int k' (i : Int))) none none).run P w = .ok (.slice (some ⟨b, o + i * sz, none⟩) (n - i) (c - i)) w := by
    rw [h1]
    simp only [Result.andThen_ok, sliced, Int.toNat_natCast]
    rw [if_neg (by omega)]
    simp [Addr.add_mid]
  simp only [execOp, Option.map_some, Option.map_none, F.eval hx, F.eval hl, Sem.run_bind, run_sliceAt_slice w t _ _ _ none (elem_of ht), h3]
  rfl
theorem sSlL {t e : TypeId} {x lo : Operand} {b o n c i sz : Nat} {k' : IntKind} (ht : P.underlying t = some (.slice e)) (hz : ∀ w, (sizeOf e).run P w = .ok sz w) (F : Has N a env) (hg : wants l env g = true) (hN : Nat.blt d N = true) (hx : ev env x = some (.slice (some ⟨b, o, none⟩) n c)) (hl : ev env lo = some (.int k' (i : Int))) (hi : i ≤ n) (hc : i < c)
    (K : ∀ a, Has N a ((d, .slice (some ⟨b, o + i * sz, none⟩) (n - i) (c - i)) :: env) → wpList P l.toArray Q rest a w) : wpList P l.toArray Q (⟨some d, .slice t x (some lo) none none, ty, pos, af, g⟩ :: rest) a w :=
  stepV F hg rfl hN (rSlL ht hz F hx hl hi hc) K
end
section
variable {P : Program} {t : TypeId} {x y : Operand} {n m : Nat}
theorem u64wrap (n : Int) : IntKind.u64.wrap n = n % 18446744073709551616 := by simp [IntKind.wrap, IntKind.signed, IntKind.bits]
theorem wrapU (h : n < 18446744073709551616) : IntKind.u64.wrap (n : Int) = (n : Int) := by rw [u64wrap]; omega
end
theorem Own.turned {w0 w w' : World} {row : Option Nat} {rs : List Res} {b : Nat} {cs cs' : List Value} {t : TypeId} (H : Own w0 row w rs) (i : Nat) (hi : rs[i]? = some (.blk b cs t)) (H2 : Own w (some b) w' [.blk b cs' t]) : Own w0 row w' (rs.set i (.blk b cs' t)) where
  grown := by
    have hb := H.foot i _ hi b rfl
    refine ⟨?_, ?_, ?_, Nat.le_trans H.grown.size H2.grown.size, fun j hj hne => ?_⟩
    · rw [H2.grown.os, H.grown.os]
    · rw [H2.grown.tape, H.grown.tape]
    · rw [H2.grown.output, H.grown.output]
    · rw [H2.grown.block j (Nat.lt_of_lt_of_le hj H.grown.size) (fun e => by
        cases e
        rcases hb.1 with h | h
        · omega
        · exact hne h), H.grown.block j hj hne]
  pred := fun j r hj => by
    rw [List.getElem?_set] at hj
    split at hj
    · split at hj
      · cases hj; exact H2.pred 0 _ rfl
      · cases hj
    · rename_i hne
      refine r.loc w w' (fun c hc => ?_) (H.pred j r hj)
      have hcb := H.foot j r hj c hc
      refine H2.grown.block c hcb.2 (fun e => ?_)
      have e : c = b := Option.some.inj e
      exact H.apart j i r _ hj hi (fun e => hne e.symm) c hc e
  foot := fun j r hj c hc => by
    rw [List.getElem?_set] at hj
    split at hj
    · split at hj
      · cases hj
        exact ⟨(H.foot i _ hi c hc).1, Nat.lt_of_lt_of_le (H.foot i _ hi c hc).2 H2.grown.size⟩
      · cases hj
    · exact ⟨(H.foot j r hj c hc).1, Nat.lt_of_lt_of_le (H.foot j r hj c hc).2 H2.grown.size⟩
  apart := fun j k r s hj hk hjk c hc hs => by
    have key : ∀ (j : Nat) (r : Res), (rs.set i (.blk b cs' t))[j]? = some r → ∃ r', rs[j]? = some r' ∧ ∀ c, r.foot c ↔ r'.foot c := fun j r hj => by
      rw [List.getElem?_set] at hj
      split at hj
      · rename_i e
        split at hj
        · cases hj; subst e; exact ⟨_, hi, fun c => Iff.rfl⟩
        · cases hj
      · exact ⟨r, hj, fun c => Iff.rfl⟩
    obtain ⟨r', h1, h2⟩ := key j r hj
    obtain ⟨s', h3, h4⟩ := key k s hk
    exact H.apart j k r' s' h1 h3 hjk c ((h2 c).1 hc) ((h4 c).1 hs)
-- VcZ
open Go.RowKit
section
variable {P : Program} {l : List Oper} {Q : Exit → Act → World → Prop} {N : Nat} {a : Act} {env : List (Nat × Value)} {rest : List Oper} {d : Tmp} {ty : TypeId} {pos : String} {af : Array Edge} {g : Option (Nat × Bool)}
  {w0 w : World} {row : Option Nat} {rs : List Res} {Kt : Act → World → Prop}
theorem Own.fuse {r s : Res} (H : Own w0 row w (r :: s :: rs)) (r' : Res) (hp : r'.pred w) (hf : ∀ b, r'.foot b → r.foot b ∨ s.foot b) : Own w0 row w (r' :: rs) where
  grown := H.grown
  pred := fun i q hi => by
    cases i with
    | zero => cases hi; exact hp
    | succ i => exact H.pred (i + 2) q hi
  foot := fun i q hi b hb => by
    cases i with
    | zero =>
      cases hi
      rcases hf b hb with h | h
      · exact H.foot 0 r rfl b h
      · exact H.foot 1 s rfl b h
    | succ i => exact H.foot (i + 2) q hi b hb
  apart := fun i j q u hi hj hij b h1 h2 => by
    cases i with
    | zero =>
      cases hi
      cases j with
      | zero => exact hij rfl
      | succ j =>
        rcases hf b h1 with h | h
        · exact H.apart 0 (j + 2) r u rfl hj (by omega) b h h2
        · exact H.apart 1 (j + 2) s u rfl hj (by omega) b h h2
    | succ i =>
      cases j with
      | zero =>
        cases hj
        rcases hf b h2 with h | h
        · exact H.apart 0 (i + 2) r q rfl hi (by omega) b h h1
        · exact H.apart 1 (i + 2) s q rfl hi (by omega) b h h1
      | succ j => exact H.apart (i + 2) (j + 2) q u hi hj (by omega) b h1 h2
theorem Own.void (H : Own w0 row w rs) (r : Res) (hp : r.pred w) (hf : ∀ b, ¬ r.foot b) : Own w0 row w (r :: rs) :=
  H.add r (Below.refl _ _) hp (fun b hb => absurd hb (hf b))
theorem Own.seen {r : Res} (H : Own w0 row w (r :: rs)) (r' : Res) (hp : r'.pred w) (hf : ∀ b, r'.foot b → r.foot b) : Own w0 row w (r' :: rs) :=
  (H.void ⟨fun _ => False, fun _ => True, fun _ _ _ _ => trivial⟩ trivial (fun _ h => h)).fuse r' hp (fun b hb => .inr (hf b hb))
theorem Own.emptyRws {b : Nat} {e : TypeId} (H : Own w0 row w (.blk b [] e :: rs)) (sz : Nat) : Own w0 row w (.rws e sz (.slice (some ⟨b, 0, .none⟩) 0 0) [] :: rs) :=
  H.seen _ (show w.ownsRow 0 e sz (.slice (some ⟨b, 0, .none⟩) 0 0) 0 [] from ⟨by simp, .inr ⟨b, 0, #[], rfl, Nat.zero_le _, H.blk 0 rfl, Nat.le_refl _, Nat.zero_le _, by simp, by simp⟩⟩)
    (fun c hc => by
      have : b = c := by simpa [Res.rws, Res.arr, Value.ownBlock] using hc
      exact this.symm)
theorem appM_run {t e : TypeId} {v : Value} {rows news : List (List Value)} {ad : Addr} {m c : Nat} {ti : TypeInfo} {z : Value} {sz bytes : Nat} (H : Own w0 row w rs) (i : Nat) (ht : P.underlying t = some (.slice e))
    (hi : ∀ w, (typeInfo e).run P w = .ok ti w) (hz : ti.zero = some z) (hsize : ti.size = sz) (hby : ti.bytes = bytes) (hzs : z.cells.size = sz) (hsz : Nat.blt 0 sz = true) (hb1 : Nat.blt 0 bytes = true)
    (hr : rs[i]? = some (.rws e sz v rows)) (hm : news.length = m) (hnews : ∀ j u, news.flatten[j]? = some u → w.cell? (ad.add j) = some u) (hl : ∀ r ∈ news, r.length = sz) (h1 : ∀ r ∈ news, r.all (·.oneCell') = true) (hb : (rows.length + m) * bytes ≤ 140737488355328) (ty : TypeId) :
    ∃ A c' w', (Builtin.append_ #[t, t] ty #[v, .slice (some ad) m c]).run P w = .ok (.slice A (rows ++ news).length c') w' ∧ Own w0 row w' (rs.set i (.rws e sz (.slice A (rows ++ news).length c') (rows ++ news))) := by
  have hsz' := Nat.blt_eq.mp hsz
  have hb1' := Nat.blt_eq.mp hb1
  have hfl : ∀ (q : List (List Value)), (∀ r ∈ q, r.length = sz) → q.flatten.length = q.length * sz := by
    intro q hq
    induction q with
    | nil => simp
    | cons r0 rest ih => rw [List.flatten_cons, List.length_append, ih (fun r hm => hq r (by simp [hm])), hq r0 (by simp), List.length_cons, Nat.add_mul]; omega
  have hlen : rows.length + m ≤ 140737488355328 := Nat.le_trans (Nat.le_mul_of_pos_right _ hb1') hb
  obtain ⟨v', w', hrun, hown, hgr, _, hat⟩ := run_append_own_at (P := P) w 0 t ty e ti z sz bytes ht (info_of hi) hz hsize hby hzs hsz' v rows.length rows.flatten (H.arr i hr) ad m c news.flatten (by rw [hfl news hl, hm])
    hnews (fun u hu => by
      obtain ⟨r, hr1, hr2⟩ := List.mem_flatten.1 hu
      exact (List.all_eq_true.1 (h1 r hr1)) u hr2) (by simp only [maxLen]; omega) hb (Nat.zero_le _)
  have e1 : (rows ++ news).length = rows.length + m := by rw [List.length_append, hm]
  obtain ⟨A, c', rfl⟩ : ∃ A c', v' = .slice A (rows ++ news).length c' := by
    rcases hown.2 with ⟨h2, h3⟩ | ⟨g, cap, cur, h2, _⟩
    · exact ⟨none, 0, by rw [e1, h3]; exact h2⟩
    · exact ⟨_, cap, by rw [e1]; exact h2⟩
  refine ⟨A, c', w', hrun, ?_⟩
  have hlt : ∀ k, (Value.slice A (rows ++ news).length c').ownBlock = some k → k < w'.heap.size := fun k hk => (hown.lt k hk).2
  refine H.turn i hr _ ?_ hgr.size (fun b hb hnb => hgr.block b hb (fun e => hnb (show v.ownBlock = some b from e.symm))) ?_ ?_
  · refine ⟨hgr.os.trans H.grown.os, hgr.tape.trans H.grown.tape, hgr.output.trans H.grown.output, Nat.le_trans H.grown.size hgr.size, fun k hk hne => ?_⟩
    refine (hgr.block k (Nat.lt_of_lt_of_le hk H.grown.size) (fun e => ?_)).trans (H.grown.block k hk hne)
    rcases (H.foot i _ hr k (show v.ownBlock = some k from e.symm)).1 with h | h
    · exact absurd hk (by omega)
    · exact hne h
  · show w'.ownsRow 0 e sz _ (rows ++ news).length (rows ++ news).flatten
    rw [List.flatten_append];rw [e1] at hown ⊢
    exact hown
  · intro b hb
    have hb : (Value.slice A (rows ++ news).length c').ownBlock = some b := hb
    refine ⟨?_, hlt b hb⟩
    rcases hat with h | h
    · exact .inl (show v.ownBlock = some b from h ▸ hb)
    · rw [hb] at h
      cases h
      exact .inr (Nat.le_refl _)
theorem sAppM {t e : TypeId} {s x : Operand} {v : Value} {rows news : List (List Value)} {ad : Addr} {m c : Nat} {ti : TypeInfo} {z : Value} {sz bytes : Nat} (H : Own w0 row w rs) (i : Nat) (ht : P.underlying t = some (.slice e))
    (hi : ∀ w, (typeInfo e).run P w = .ok ti w) (hz : ti.zero = some z) (hsize : ti.size = sz) (hby : ti.bytes = bytes) (hzs : z.cells.size = sz) (hsz : Nat.blt 0 sz = true) (hb1 : Nat.blt 0 bytes = true)
    (F : Has N a env) (hg : wants l env g = true) (hN : Nat.blt d N = true) (hs : ev env s = some v) (hx : ev env x = some (.slice (some ad) m c))
    (hr : rs[i]? = some (.rws e sz v rows)) (hm : news.length = m) (hnews : ∀ j u, news.flatten[j]? = some u → w.cell? (ad.add j) = some u) (hl : ∀ r ∈ news, r.length = sz) (h1 : ∀ r ∈ news, r.all (·.oneCell') = true) (hb : (rows.length + m) * bytes ≤ 140737488355328)
    (K : ∀ A c a w, Has N a ((d, .slice A (rows ++ news).length c) :: env) → Own w0 row w (rs.set i (.rws e sz (.slice A (rows ++ news).length c) (rows ++ news))) → wpList P l.toArray Q rest a w) :
    wpList P l.toArray Q (⟨some d, .call ⟨.builtin .append, #[s, x], #[t, t]⟩, ty, pos, af, g⟩ :: rest) a w := by
  obtain ⟨A, c', w', h2, h3⟩ := appM_run (P := P) (c := c) H i ht hi hz hsize hby hzs hsz hb1 hr hm hnews hl h1 hb ty
  exact stepV F hg rfl hN (app_exec (ty' := ty) F hs hx h2) (fun a F' => K A c' a w' F' h3)
theorem bNil {t e : TypeId} {x y : Operand} {A : Option Addr} {n c : Nat} (ht : P.underlying t = some (.slice e)) : BinR P .eql t x y (.slice A n c) (.slice none 0 0) (.bool A.isNone) := fun w => by
  have h0 : (eqGuard .eql t x y (.slice A n c) (.slice none 0 0)).run P w = .ok () w := by
    simp [eqGuard, run_underlying ht, go_sem]
  cases A with
  | none => simp only [Sem.run_bind, h0, Result.andThen_ok]; exact Lib.run_eql_slice_nil_nil w _ _ ht
  | some a => simp only [Sem.run_bind, h0, Result.andThen_ok]; exact Lib.run_eql_slice_some_nil w a _ _ ht
theorem RowsAt.flat {w : World} {A : Addr} {sz : Nat} {rows : List (List Value)} (h : RowsAt w (some A) sz rows) (hl : ∀ r ∈ rows, r.length = sz) : ∀ j u, rows.flatten[j]? = some u → w.cell? (A.add j) = some u := by
  have key : ∀ (rows : List (List Value)) (o : Nat), (∀ r ∈ rows, r.length = sz) → (∀ (j : Nat) (cs : List Value), rows[j]? = some cs → ∃ b off, A = ⟨b, off, none⟩ ∧ w.rangeAt b (off + (o + j) * sz) cs) → ∀ j u, rows.flatten[j]? = some u → w.cell? (A.add (o * sz + j)) = some u := by
    intro rows
    induction rows with
    | nil => intro o _ _ j u hu; simp at hu
    | cons r rest ih =>
      intro o hl h j u hu
      have hr : r.length = sz := hl r (by simp)
      rw [List.flatten_cons] at hu
      rcases Nat.lt_or_ge j r.length with hj | hj
      · rw [List.getElem?_append_left hj] at hu
        obtain ⟨b, off, rfl, h2⟩ := h 0 r rfl
        have := h2 j u hu
        rw [Addr.add_mid, ← Nat.add_assoc]
        simpa using this
      · rw [List.getElem?_append_right hj] at hu
        have := ih (o + 1) (fun r hm => hl r (by simp [hm])) (fun k cs hk => by
          obtain ⟨b, off, h1, h2⟩ := h (k + 1) cs hk
          exact ⟨b, off, h1, by rw [show o + 1 + k = o + (k + 1) by omega]; exact h2⟩) (j - r.length) u hu
        rw [Nat.add_mul, Nat.one_mul, ← hr, Nat.add_assoc, show r.length + (j - r.length) = j by omega] at this;rw [← hr]
        exact this
  intro j u hu
  have := key rows 0 hl (fun k cs hk => by
    obtain ⟨b, off, h1, h2⟩ := h k cs hk
    exact ⟨b, off, Option.some.inj h1, by rw [Nat.zero_add]; exact h2⟩) j u hu
  simpa using this
end
-- KtB
open Go.RowKit
variable {P : Program} {l : List Oper} {Q : Exit → Act → World → Prop} {N : Nat} {a : Act} {env : List (Nat × Value)} {rest : List Oper} {d : Tmp} {ty : TypeId} {pos : String} {af : Array Edge} {g : Option (Nat × Bool)}
  {w0 w : World} {row : Option Nat} {rs : List Res} {Kt : Act → World → Prop}
theorem sMkC {t e : TypeId} {x y : Operand} {ti : TypeInfo} {z : Value} {sz bytes c : Nat} {k k' : IntKind} (H : Own w0 row w rs) (ht : P.underlying t = some (.slice e)) (hi : ∀ w, (typeInfo e).run P w = .ok ti w) (hz : ti.zero = some z) (hsize : ti.size = sz) (hby : ti.bytes = bytes)
    (F : Has N a env) (hg : wants l env g = true) (hN : Nat.blt d N = true) (hx : ev env x = some (.int k 0)) (hy : ev env y = some (.int k' (c : Int))) (hb : bytes * c ≤ 281474976710656) (h63 : c ≤ maxLen)
    (K : ∀ b a w, Has N a ((d, .slice (some ⟨b, 0, none⟩) 0 c) :: env) → Own w0 row w (.rws e sz (.slice (some ⟨b, 0, none⟩) 0 c) [] :: rs) → wpList P l.toArray Q rest a w) : wpList P l.toArray Q (⟨some d, .makeSlice t x y, ty, pos, af, g⟩ :: rest) a w := by
  have h63' : (c : Int) ≤ 9223372036854775807 := by
    have h := h63
    simp [maxLen] at h
    omega
  have hb' : (ti.bytes : Int) * (c : Int) ≤ 281474976710656 := by
    have h : ((ti.bytes * c : Nat) : Int) ≤ 281474976710656 := by rw [hby]; omega
    rwa [Int.natCast_mul] at h
  have h2 := run_make (P := P) w t e ti z ht (info_of hi) hz k k' 0 c (Int.le_refl _) (by omega) hb' h63'
  simp only [Int.toNat_zero, Int.toNat_natCast] at h2
  have h3 : (execOp a.eval ⟨some d, .makeSlice t x y, ty, pos, af, g⟩).run P w = .ok (.value (.slice (some ⟨w.heap.size, 0, none⟩) 0 c)) (w.alloc (.cells (madeCells z.cells (c * ti.size)) e)) := by
    simp only [execOp, F.eval hx, F.eval hy, Sem.run_bind, h2]
    rfl
  subst hsize
  exact stepV F hg rfl hN h3 (fun _ F' => K _ _ _ F' ((H.alloc (madeCells z.cells (c * ti.size)) e).seen _ (World.ownsRow_made w _ c (Nat.zero_le _) h63 (size_madeCells _ _)) (fun b hb => by
    have : w.heap.size = b := by simpa [Res.rws, Res.arr, Value.ownBlock] using hb
    exact this.symm)))
theorem app_none {t e ty : TypeId} {i : TypeInfo} {size n c : Nat} {v : Value} {xs : List Value} (ht : P.underlying t = some (.slice e)) (hi : P.info? e = some i) (ho : w.ownsRow 0 e size v n xs) :
    (Builtin.append_ #[t, t] ty #[v, .slice none 0 c]).run P w = .ok v w := by
  rcases ho.2 with ⟨h1, h2⟩ | ⟨g, cap, cur, h1, _, _, hnc, _⟩
  · subst h1
    simp [Builtin.append_, run_underlying ht, sizeOf, typeInfo, hi, Builtin.lenOf, Builtin.firstCells]
  · subst h1
    simp [Builtin.append_, run_underlying ht, sizeOf, typeInfo, hi, Builtin.lenOf, Builtin.firstCells, hnc, storeCells]
theorem appO_run {t e : TypeId} {v : Value} {rows news : List (List Value)} {A0 : Option Addr} {m c : Nat} {ti : TypeInfo} {z : Value} {sz bytes : Nat} (H : Own w0 row w rs) (i : Nat) (ht : P.underlying t = some (.slice e))
    (hi : ∀ w, (typeInfo e).run P w = .ok ti w) (hz : ti.zero = some z) (hsize : ti.size = sz) (hby : ti.bytes = bytes) (hzs : z.cells.size = sz) (hsz : Nat.blt 0 sz = true) (hb1 : Nat.blt 0 bytes = true)
    (hr : rs[i]? = some (.rws e sz v rows)) (hm : news.length = m) (hnews : RowsAt w A0 sz news) (hl : ∀ r ∈ news, r.length = sz) (h1 : ∀ r ∈ news, r.all (·.oneCell') = true) (hb : (rows.length + m) * bytes ≤ 140737488355328) (ty : TypeId) :
    ∃ A c' w', (Builtin.append_ #[t, t] ty #[v, .slice A0 m c]).run P w = .ok (.slice A (rows ++ news).length c') w' ∧ Own w0 row w' (rs.set i (.rws e sz (.slice A (rows ++ news).length c') (rows ++ news))) := by
  cases A0 with
  | some ad => exact appM_run H i ht hi hz hsize hby hzs hsz hb1 hr hm (hnews.flat hl) hl h1 hb ty
  | none =>
    obtain rfl : news = [] := by
      cases news with
      | nil => rfl
      | cons r rs =>
        obtain ⟨b, o, he, _⟩ := hnews 0 r rfl
        cases he
    obtain rfl : 0 = m := hm
    have ho := H.arr i hr
    have h2 := app_none (ty := ty) (c := c) ht (info_of hi) ho
    obtain ⟨A, c', rfl⟩ : ∃ A c', v = .slice A rows.length c' := by
      rcases ho.2 with ⟨h2, h3⟩ | ⟨g, cap, cur, h2, _⟩
      · exact ⟨none, 0, by rw [h3]; exact h2⟩
      · exact ⟨_, cap, h2⟩
    have e2 : rs.set i (.rws e sz (.slice A rows.length c') rows) = rs := by
      obtain ⟨hi2, he⟩ := List.getElem?_eq_some_iff.1 hr
      rw [← he]
      exact List.set_getElem_self hi2
    refine ⟨A, c', w, ?_, ?_⟩
    · rw [List.append_nil]; exact h2
    · rw [List.append_nil, e2]; exact H
theorem sAppO {t e : TypeId} {s x : Operand} {v : Value} {rows news : List (List Value)} {A0 : Option Addr} {m c : Nat} {ti : TypeInfo} {z : Value} {sz bytes : Nat} (H : Own w0 row w rs) (i : Nat) (ht : P.underlying t = some (.slice e))
    (hi : ∀ w, (typeInfo e).run P w = .ok ti w) (hz : ti.zero = some z) (hsize : ti.size = sz) (hby : ti.bytes = bytes) (hzs : z.cells.size = sz) (hsz : Nat.blt 0 sz = true) (hb1 : Nat.blt 0 bytes = true)
    (F : Has N a env) (hg : wants l env g = true) (hN : Nat.blt d N = true) (hs : ev env s = some v) (hx : ev env x = some (.slice A0 m c))
    (hr : rs[i]? = some (.rws e sz v rows)) (hm : news.length = m) (hnews : RowsAt w A0 sz news) (hl : ∀ r ∈ news, r.length = sz) (h1 : ∀ r ∈ news, r.all (·.oneCell') = true) (hb : (rows.length + m) * bytes ≤ 140737488355328)
    (K : ∀ A c a w, Has N a ((d, .slice A (rows ++ news).length c) :: env) → Own w0 row w (rs.set i (.rws e sz (.slice A (rows ++ news).length c) (rows ++ news))) → wpList P l.toArray Q rest a w) :
    wpList P l.toArray Q (⟨some d, .call ⟨.builtin .append, #[s, x], #[t, t]⟩, ty, pos, af, g⟩ :: rest) a w := by
  obtain ⟨A, c', w', h2, h3⟩ := appO_run (P := P) (c := c) H i ht hi hz hsize hby hzs hsz hb1 hr hm hnews hl h1 hb ty
  exact stepV F hg rfl hN (app_exec (ty' := ty) F hs hx h2) (fun a F' => K A c' a w' F' h3)
theorem oAppO {t e : TypeId} {s x : Operand} {v : Value} {rows news : List (List Value)} {A0 : Option Addr} {m c : Nat} {ti : TypeInfo} {z : Value} {sz bytes : Nat} (H : Own w0 row w rs) (i : Nat) (ht : P.underlying t = some (.slice e))
    (hi : ∀ w, (typeInfo e).run P w = .ok ti w) (hz : ti.zero = some z) (hsize : ti.size = sz) (hby : ti.bytes = bytes) (hzs : z.cells.size = sz) (hsz : Nat.blt 0 sz = true) (hb1 : Nat.blt 0 bytes = true)
    (F : Has N a env) (hN : Nat.blt d N = true) (hs : ev env s = some v) (hx : ev env x = some (.slice A0 m c))
    (hr : rs[i]? = some (.rws e sz v rows)) (hm : news.length = m) (hnews : RowsAt w A0 sz news) (hl : ∀ r ∈ news, r.length = sz) (h1 : ∀ r ∈ news, r.all (·.oneCell') = true) (hb : (rows.length + m) * bytes ≤ 140737488355328)
    (K : ∀ A c a w, Has N a ((d, .slice A (rows ++ news).length c) :: env) → Own w0 row w (rs.set i (.rws e sz (.slice A (rows ++ news).length c) (rows ++ news))) → Kt a w) :
    (Oper.mk (some d) (.call ⟨.builtin .append, #[s, x], #[t, t]⟩) ty pos af g).wp P a w Kt Q := by
  obtain ⟨A, c', w', h2, h3⟩ := appO_run (P := P) (c := c) H i ht hi hz hsize hby hzs hsz hb1 hr hm hnews hl h1 hb ty
  exact oV F rfl hN (app_exec (ty' := ty) F hs hx h2) (fun a F' => K A c' a w' F' h3)
end Go.Proofs.YtklpiodciblabaaGreatDoor
