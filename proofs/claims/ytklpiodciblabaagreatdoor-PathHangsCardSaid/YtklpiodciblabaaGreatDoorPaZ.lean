/-
  append(x, make([]E, n)...) onto a slice of the function's own. Conditions: none.
-/
import Derived.Test.YtklpiodciblabaaGreatDoorPaI
import Derived.Laws.AppendOwn
set_option linter.unusedSimpArgs false
set_option linter.unusedVariables false
namespace Go.Proofs.YtklpiodciblabaaGreatDoor
open Go.RowKit
set_option maxRecDepth 100000
def zNews (z : Value) (m : Nat) : List Value := (Builtin.zeroCells z.cells m).toList
theorem zNews_len (z : Value) (m : Nat) : (zNews z m).length = m * z.cells.size := by unfold zNews; rw [Array.length_toList, size_zeroCells]
section
variable {P : Program} {w : World}
theorem run_append_make0 (t ti ty e : TypeId) (i : TypeInfo) (z : Value) (k : IntKind) (ht : P.underlying t = some (.slice e)) (hu : P.underlying ti = some (.int k)) (hi : P.info? e = some i) (hz : i.zero = some z) (n : Nat) (hs : i.size ≠ 0) (h0 : 0 < n) (h63 : (n : Int) ≤ 9223372036854775807) (h48 : n * i.bytes ≤ 281474976710656) :
    (Builtin.append_ #[t, ti] ty #[.slice none 0 0, .int .i64 (n : Int)]).run P w = .ok (.slice (some ⟨w.heap.size, 0, none⟩) n (grownCap w n 0 e)) (w.drew.alloc (.cells (Builtin.zeroCells z.cells n ++ Builtin.zeroCells z.cells (grownCap w n 0 e - n)) e)) := by
  have hn : n ≠ 0 := by omega
  have h63' : ¬ (9223372036854775807 < (n : Int)) := by omega
  have h48' : ¬ (281474976710656 < Builtin.nextslicecap n 0 * i.bytes) := by rw [nextslicecap_zero h0]; omega
  have h48i : ¬ (281474976710656 < (n : Int) * (i.bytes : Int)) := by
    have : ((n * i.bytes : Nat) : Int) ≤ 281474976710656 := by omega
    rw [Int.natCast_mul] at this; omega
  have hw : IntKind.i64.wrap (n : Int) = n := by simp [IntKind.wrap, IntKind.bits, IntKind.signed]; omega
  have hmax : max (n : Int) 0 = n := by omega
  have hle : ¬ ((n : Int) ≤ 0) := by omega
  have hneg : ¬ ((n : Int) < 0) := by omega
  have hns : n * i.size ≠ 0 := fun h => (Nat.mul_eq_zero.1 h).elim hn hs
  simp [Builtin.append_, run_underlying ht, run_underlying hu, sizeOf, typeInfo, zeroValue, hi, hz, Builtin.lenOf, hn, h63', h48', h48i, hw, hneg, hns, hs, Question.forced, run_firstCells_none, newRow, grownCap, asInt, asIntOf, hmax, hle]
theorem run_append_makeR (t ti ty e : TypeId) (i : TypeInfo) (z : Value) (k : IntKind) (ht : P.underlying t = some (.slice e)) (hu : P.underlying ti = some (.int k)) (hi : P.info? e = some i) (hz : i.zero = some z) (hsz : z.cells.size = i.size) (hs : i.size ≠ 0)
    (g sLen sCap : Nat) (cur : Array Value) (hg : w.heap[g]? = some (.cells cur e (0, 0))) (m : Nat) (h0 : 0 < m) (h63 : (m : Int) ≤ 9223372036854775807) (h48 : m * i.bytes ≤ 281474976710656) (h1 : ∀ u ∈ zNews z m, u.oneCell' = true)
    (hroom : sLen + m ≤ sCap) (hfit : sLen * i.size + (zNews z m).length ≤ cur.size) :
    (Builtin.append_ #[t, ti] ty #[.slice (some ⟨g, 0, none⟩) sLen sCap, .int .i64 (m : Int)]).run P w =
      .ok (.slice (some ⟨g, 0, none⟩) (sLen + m) sCap) (w.setRow g (cur.toList.take (sLen * i.size) ++ zNews z m ++ cur.toList.drop (sLen * i.size + (zNews z m).length)).toArray) := by
  have hn : m ≠ 0 := by omega
  have h48i : ¬ (281474976710656 < (m : Int) * (i.bytes : Int)) := by
    have : ((m * i.bytes : Nat) : Int) ≤ 281474976710656 := by omega
    rw [Int.natCast_mul] at this; omega
  have hw : IntKind.i64.wrap (m : Int) = m := by simp [IntKind.wrap, IntKind.bits, IntKind.signed]; omega
  have hmax : max (m : Int) 0 = m := by omega
  have hneg : ¬ ((m : Int) < 0) := by omega
  have hns : m * i.size ≠ 0 := fun h => (Nat.mul_eq_zero.1 h).elim hn hs
  have hst := run_storeCells_at P g (sLen * i.size) e (zNews z m) 0 cur w hg (by simpa using hfit) h1
  simp only [Nat.add_zero, zNews] at hst ⊢
  simp [Builtin.append_, run_underlying ht, run_underlying hu, sizeOf, typeInfo, zeroValue, hi, hz, Builtin.lenOf, hroom, hn, h48i, hw, hneg, hns, hs, asInt, asIntOf, hmax, Addr.add_lit, hst]
theorem run_append_makeG (t ti ty e : TypeId) (i : TypeInfo) (z : Value) (k : IntKind) (ht : P.underlying t = some (.slice e)) (hu : P.underlying ti = some (.int k)) (hi : P.info? e = some i) (hz : i.zero = some z) (hs : i.size ≠ 0)
    (b : Addr) (sLen sCap : Nat) (olds : List Value) (hlo : olds.length = sLen * i.size) (holds : ∀ j v, olds[j]? = some v → w.cell? (b.add j) = some v) (m : Nat) (h0 : 0 < m) (h63 : ((sLen + m : Nat) : Int) ≤ 9223372036854775807) (h48 : m * i.bytes ≤ 281474976710656)
    (hg : sCap < sLen + m) (hfit : Builtin.nextslicecap (sLen + m) sCap * i.bytes ≤ 281474976710656) :
    (Builtin.append_ #[t, ti] ty #[.slice (some b) sLen sCap, .int .i64 (m : Int)]).run P w =
      .ok (.slice (some ⟨w.heap.size, 0, none⟩) (sLen + m) (grownCap w (sLen + m) sCap e))
        (w.drew.alloc (.cells (olds.toArray ++ (zNews z m).toArray ++ Builtin.zeroCells z.cells (grownCap w (sLen + m) sCap e - (sLen + m))) e)) := by
  have hn : ¬ (sLen + m ≤ sCap) := by omega
  have hm : m ≠ 0 := by omega
  have h63' : ¬ (9223372036854775807 < ((sLen : Int) + (m : Int))) := by omega
  have h48' : ¬ (281474976710656 < Builtin.nextslicecap (sLen + m) sCap * i.bytes) := by omega
  have h48i : ¬ (281474976710656 < (m : Int) * (i.bytes : Int)) := by
    have : ((m * i.bytes : Nat) : Int) ≤ 281474976710656 := by omega
    rw [Int.natCast_mul] at this; omega
  have hw : IntKind.i64.wrap (m : Int) = m := by simp [IntKind.wrap, IntKind.bits, IntKind.signed]; omega
  have hmax : max (m : Int) 0 = m := by omega
  have hneg : ¬ ((m : Int) < 0) := by omega
  have hns : m * i.size ≠ 0 := fun h => (Nat.mul_eq_zero.1 h).elim hm hs
  have hfo := run_firstCells_some (P := P) w.drew i.size sLen b sLen sCap olds hlo (by simpa using holds)
  simp [Builtin.append_, run_underlying ht, run_underlying hu, sizeOf, typeInfo, zeroValue, hi, hz, Builtin.lenOf, hn, hm, h63', h48', h48i, hw, hneg, hns, hs, Question.forced, hfo, newRow, grownCap, asInt, asIntOf, hmax, zNews]
theorem run_append_ownM (base : Nat) (t tx ty e : TypeId) (i : TypeInfo) (z : Value) (k : IntKind) (size bytes : Nat) (ht : P.underlying t = some (.slice e)) (hu : P.underlying tx = some (.int k)) (hi : P.info? e = some i) (hz : i.zero = some z)
    (hsize : i.size = size) (hby : i.bytes = bytes) (hzs : z.cells.size = size) (hsz : 0 < size)
    (v : Value) (n : Nat) (xs : List Value) (hown : w.ownsRow base e size v n xs)
    (m : Nat) (h0 : 0 < m) (h1 : ∀ u ∈ zNews z m, u.oneCell' = true) (h63 : n + m ≤ maxLen) (hbytes : (n + m) * bytes ≤ 140737488355328) (hbase : base ≤ w.heap.size) :
    ∃ A c w', (Builtin.append_ #[t, tx] ty #[v, .int .i64 (m : Int)]).run P w = .ok (.slice A (n + m) c) w' ∧ w'.ownsRow base e size (.slice A (n + m) c) (n + m) (xs ++ zNews z m) ∧ w.grownBy w' v.ownBlock ∧ ((Value.slice A (n + m) c).ownBlock = v.ownBlock ∨ (Value.slice A (n + m) c).ownBlock = some w.heap.size) := by
  subst hsize;subst hby
  have hs0 : i.size ≠ 0 := by omega
  have hl : (zNews z m).length = m * i.size := by rw [zNews_len, hzs]
  have hsmall : n + m ≤ 9223372036854775807 := by simp only [maxLen] at h63; omega
  have hmb : m * i.bytes ≤ 281474976710656 := by
    have : m * i.bytes ≤ (n + m) * i.bytes := Nat.mul_le_mul_right _ (by omega)
    omega
  have hlen : (xs ++ zNews z m).length = (n + m) * i.size := by rw [List.length_append, hown.1, hl, Nat.add_mul]
  have grown : ∀ (old : Nat), old < n + m → ∀ (row : Option Nat),
      (w.drew.alloc (.cells (xs.toArray ++ (zNews z m).toArray ++ Builtin.zeroCells z.cells (grownCap w (n + m) old e - (n + m))) e)).ownsRow base e i.size
        (.slice (some ⟨w.heap.size, 0, none⟩) (n + m) (grownCap w (n + m) old e)) (n + m) (xs ++ zNews z m) ∧
      w.grownBy (w.drew.alloc (.cells (xs.toArray ++ (zNews z m).toArray ++ Builtin.zeroCells z.cells (grownCap w (n + m) old e - (n + m))) e)) row := by
    intro old ho row
    have hge := grownCap_ge w (n + m) old e
    have hcm : grownCap w (n + m) old e ≤ maxLen := grownCap_le_maxLen w (n + m) old e h63
    refine ⟨⟨hlen, .inr ⟨w.heap.size, _, _, rfl, hbase, heap_alloc_new w.drew _, hge, hcm, ?_, ?_⟩⟩, ⟨rfl, rfl, rfl, by simp, fun k hk _ => heap_alloc_old w.drew _ hk⟩⟩
    · simp only [Array.size_append, List.size_toArray, size_zeroCells, hzs, hown.1, hl, ← Nat.add_mul]
      congr 1
      omega
    · simp only [Array.toList_append, List.append_assoc]
      rw [← List.append_assoc, ← hlen]
      exact List.take_left
  rcases hown.2 with ⟨rfl, rfl⟩ | ⟨g, cap, cur, rfl, hbg, hg, hnc, hcm, hcs, htake⟩
  · have hx : xs = [] := List.eq_nil_of_length_eq_zero (by simpa using hown.1)
    subst hx
    have hr := run_append_make0 (P := P) (w := w) t tx ty e i z k ht hu hi hz m hs0 h0 (by omega) hmb
    have hgr := grown 0 (by omega) (Value.ownBlock (.slice none 0 0))
    simp only [Nat.zero_add, List.nil_append, Array.empty_append] at hgr ⊢
    have e1 : (zNews z m).toArray = Builtin.zeroCells z.cells m := by unfold zNews; simp
    rw [e1] at hgr
    exact ⟨_, _, _, hr, hgr.1, hgr.2, .inr rfl⟩
  · by_cases hroom : n + m ≤ cap
    · have hfit : n * i.size + (zNews z m).length ≤ cur.size := by rw [hl, hcs, ← Nat.add_mul]; exact Nat.mul_le_mul_right _ hroom
      have hr := run_append_makeR (P := P) (w := w) t tx ty e i z k ht hu hi hz hzs hs0 g n cap cur hg m h0 (by omega) hmb h1 hroom hfit
      refine ⟨_, _, _, hr, ⟨hlen, .inr ⟨g, cap, _, rfl, hbg, setRow_heap w g cur _ e _ hg, hroom, hcm, ?_, ?_⟩⟩, ⟨rfl, rfl, rfl, by simp, fun k _ hk => setRow_other w g k _ (fun e => hk (by simp [Value.ownBlock, e]))⟩, .inl rfl⟩
      · simp only [List.size_toArray, List.length_append, List.length_take, List.length_drop, Array.length_toList]
        omega
      · rw [htake, ← hlen]
        exact List.take_left
    · have holds : ∀ j u, xs[j]? = some u → w.cell? ((⟨g, 0, none⟩ : Addr).add j) = some u := hown.cells (g := g) rfl
      have hr := run_append_makeG (P := P) (w := w) t tx ty e i z k ht hu hi hz hs0 ⟨g, 0, none⟩ n cap xs hown.1 holds m h0 (by omega) hmb (by omega) (growslice_fits (by omega) hbytes)
      have hgr := grown cap (by omega) (Value.ownBlock (.slice (some ⟨g, 0, none⟩) n cap))
      exact ⟨_, _, _, hr, hgr.1, hgr.2, .inr rfl⟩
end
section
variable {P : Program} {l : List Oper} {Q : Exit → Act → World → Prop} {N : Nat} {a : Act} {env : List (Nat × Value)} {rest : List Oper} {d : Tmp} {ty : TypeId} {pos : String} {af : Array Edge} {g : Option (Nat × Bool)} {w0 w : World} {row : Option Nat} {rs : List Res}
theorem sAppZ {t tx e : TypeId} {s x : Operand} {v : Value} {rows : List (List Value)} {m : Nat} {ti : TypeInfo} {k : IntKind} (H : Own w0 row w rs) (i : Nat) (ht : P.underlying t = some (.slice e)) (hu : P.underlying tx = some (.int k))
    (hi : ∀ w, (typeInfo e).run P w = .ok ti w) (hz : ti.zero = some (.int .u8 0)) (hsize : ti.size = 1) (hby : ti.bytes = 1)
    (F : Has N a env) (hg : wants l env g = true) (hN : Nat.blt d N = true) (hs : ev env s = some v) (hx : ev env x = some (.int .i64 (m : Int)))
    (hr : rs[i]? = some (.rws e 1 v rows)) (hr1 : ∀ r ∈ rows, r.length = 1) (h0 : 0 < m) (hb : rows.length + m ≤ 140737488355328)
    (K : ∀ A c a w, Has N a ((d, .slice A (rows.length + m) c) :: env) → Own w0 row w (rs.set i (.rws e 1 (.slice A (rows ++ List.replicate m [b8 0]).length c) (rows ++ List.replicate m [b8 0]))) → wpList P l.toArray Q rest a w) :
    wpList P l.toArray Q (⟨some d, .call ⟨.builtin .append, #[s, x], #[t, tx]⟩, ty, pos, af, g⟩ :: rest) a w := by
  have hnz : ∀ m, zNews (.int .u8 0) m = (List.replicate m [b8 0]).flatten := fun m => by
    unfold zNews Builtin.zeroCells
    refine List.ext_getElem? fun j => ?_
    have e0 : (List.replicate m [b8 0]).flatten = List.replicate m (b8 0) := by
      induction m with
      | zero => rfl
      | succ m ih => rw [List.replicate_succ, List.flatten_cons, ih, List.replicate_succ]; rfl
    rw [e0, List.getElem?_replicate]
    simp [Value.cells, List.getElem?_range, Nat.mod_one]
    split <;> simp_all [b8]
  have hrl : rows.flatten.length = rows.length := by
    clear hr hb K
    induction rows with
    | nil => rfl
    | cons r0 rest ih => rw [List.flatten_cons, List.length_append, ih (fun r hm => hr1 r (by simp [hm])), hr1 r0 (by simp), List.length_cons]; omega
  obtain ⟨A, c, w', h2, hown, hgr, hat⟩ := run_append_ownM (P := P) (w := w) 0 t tx ty e ti (.int .u8 0) k 1 1 ht hu (info_of hi) hz hsize hby rfl Nat.zero_lt_one v rows.length rows.flatten (H.arr i hr) m h0
    (fun u hu => by rw [hnz] at hu; obtain ⟨r, hr1, hr2⟩ := List.mem_flatten.1 hu; obtain ⟨_, rfl⟩ := List.mem_replicate.1 hr1; obtain rfl := List.mem_singleton.1 hr2; rfl) (by simp only [maxLen]; omega) (by rw [Nat.mul_one]; exact hb) (Nat.zero_le _)
  have e1 : (rows ++ List.replicate m [b8 0]).length = rows.length + m := by rw [List.length_append, List.length_replicate]
  have hlt : ∀ k, (Value.slice A (rows.length + m) c).ownBlock = some k → k < w'.heap.size := fun k hk => (hown.lt k hk).2
  refine stepV F hg rfl hN (by simp only [execOp, resolve, invoke, builtin, Sem.run_bind, Sem.run_pure, Result.andThen_ok, List.map_toArray, List.map_cons, List.map_nil, F.eval hs, F.eval hx, h2]) (fun a F' => K A c a w' F' ?_)
  refine H.turn i hr _ ?_ hgr.size (fun b hb hnb => hgr.block b hb (fun e => hnb (show v.ownBlock = some b from e.symm))) ?_ ?_
  · refine ⟨hgr.os.trans H.grown.os, hgr.tape.trans H.grown.tape, hgr.output.trans H.grown.output, Nat.le_trans H.grown.size hgr.size, fun k hk hne => ?_⟩
    refine (hgr.block k (Nat.lt_of_lt_of_le hk H.grown.size) (fun e => ?_)).trans (H.grown.block k hk hne)
    rcases (H.foot i _ hr k (show v.ownBlock = some k from e.symm)).1 with h | h
    · exact absurd hk (by omega)
    · exact hne h
  · show w'.ownsRow 0 e 1 _ (rows ++ List.replicate m [b8 0]).length (rows ++ List.replicate m [b8 0]).flatten
    rw [List.flatten_append, e1, ← hnz]
    exact hown
  · intro b hb
    have hb : (Value.slice A (rows ++ List.replicate m [b8 0]).length c).ownBlock = some b := hb
    rw [e1] at hb
    refine ⟨?_, hlt b hb⟩
    rcases hat with h | h
    · exact .inl (show v.ownBlock = some b from h ▸ hb)
    · rw [hb] at h
      cases h
      exact .inr (Nat.le_refl _)
end
end Go.Proofs.YtklpiodciblabaaGreatDoor
