/-
  A slice of the function's own, handed to the library's functions that turn a row. Conditions: none.
-/
import Derived.Test.YtbgnapmaimkpkaaGreatDoorVcU1
import Derived.Shelf.GgSortFunc.InsertionK
set_option linter.unusedSimpArgs false
set_option linter.unusedVariables false
namespace Go.Proofs.YtbgnapmaimkpkaaGreatDoor
open Go.RowKit Go.Sort
theorem flat_at {sz : Nat} : ∀ (rows : List (List Value)), (∀ r ∈ rows, r.length = sz) → ∀ (j : Nat) (cs : List Value), rows[j]? = some cs → ∀ (k : Nat) (v : Value), cs[k]? = some v → rows.flatten[j * sz + k]? = some v
  | [], _, j, cs, hj, _, _, _ => by simp at hj
  | r0 :: rest, hr, j, cs, hj, k, v, hk => by
    have h0 : r0.length = sz := hr r0 (by simp)
    cases j with
    | zero =>
      simp at hj; subst hj
      have : k < r0.length := (List.getElem?_eq_some_iff.1 hk).1
      rw [List.flatten_cons, List.getElem?_append_left (by omega)]; simpa using hk
    | succ j =>
      rw [List.flatten_cons, List.getElem?_append_right (by rw [h0, Nat.add_mul]; omega), h0]
      have e1 : (j + 1) * sz + k - sz = j * sz + k := by rw [Nat.add_mul]; omega
      rw [e1]
      exact flat_at rest (fun r hm => hr r (by simp [hm])) j cs (by simpa using hj) k v hk
theorem flat_len {sz : Nat} : ∀ (rows : List (List Value)), (∀ r ∈ rows, r.length = sz) → rows.flatten.length = rows.length * sz
  | [], _ => by simp
  | r0 :: rest, hr => by rw [List.flatten_cons, List.length_append, flat_len rest (fun r hm => hr r (by simp [hm])), hr r0 (by simp), List.length_cons, Nat.add_mul]; omega
variable {α : Type} [Inhabited α]
theorem flatK_list {enc : α → List Value} {k : Nat} (hk : ∀ x, (enc x).length = k) (d : Array α) : (flatK enc k d).toList = (d.toList.map enc).flatten := by
  have hr : ∀ r ∈ d.toList.map enc, r.length = k := fun r hm => by
    obtain ⟨x, _, rfl⟩ := List.mem_map.1 hm
    exact hk x
  have hl : (d.toList.map enc).flatten.length = d.size * k := by rw [flat_len _ hr]; simp
  apply List.ext_getElem?
  intro t
  by_cases ht : t < d.size * k
  · have k0 : 0 < k := by
      rcases Nat.eq_zero_or_pos k with h | h
      · subst h; simp at ht
      · exact h
    have hj : t / k < d.size := Nat.div_lt_of_lt_mul (by rw [Nat.mul_comm]; exact ht)
    have hm : t % k < (enc d[t / k]!).length := by rw [hk]; exact Nat.mod_lt _ k0
    have e := flat_at (d.toList.map enc) hr (t / k) (enc d[t / k]!) (by
      rw [List.getElem?_map, Array.getElem?_toList, Array.getElem?_eq_getElem hj, getElem!_pos d _ hj]; rfl) (t % k) ((enc d[t / k]!)[t % k]!) (by rw [List.getElem?_eq_getElem hm, getElem!_pos (enc d[t / k]!) _ hm])
    have e1 : t / k * k + t % k = t := by rw [Nat.mul_comm]; exact Nat.div_add_mod t k
    rw [e1] at e;rw [e]
    have := get_flatK enc k d t ht
    rw [← this, Array.getElem?_toList, Array.getElem?_eq_getElem (by simpa using ht), getElem!_pos _ _ (by simpa using ht)]
  · rw [List.getElem?_eq_none (by simp; omega), List.getElem?_eq_none (by omega)]
theorem holdsOf {enc : α → List Value} {k : Nat} (hk : ∀ x, (enc x).length = k) {w : World} {e : TypeId} {b c : Nat} {d : Array α} (h : w.ownsRow 0 e k (.slice (some ⟨b, 0, none⟩) d.size c) d.size (d.toList.map enc).flatten) : HoldsK enc k w b 0 d := by
  obtain ⟨_, ⟨h1, _⟩ | ⟨g, cap, cur, h1, _, hg, hc, _, hs, ht⟩⟩ := h
  · cases h1
  · simp only [Value.slice.injEq, Option.some.injEq, Addr.mk.injEq] at h1
    obtain ⟨⟨rfl, _⟩, _, rfl⟩ := h1
    intro j hj
    have hj' : j < (flatK enc k d).size := hj
    rw [size_flatK] at hj
    have hB : Blk w b cur.toList e := by unfold Blk; simpa using hg
    refine ⟨?_, by rw [Nat.zero_add]; exact hB.frozen j⟩
    rw [Nat.zero_add];refine hB.cell j ?_;rw [← flatK_list hk] at ht
    have : (cur.toList.take (d.size * k))[j]? = some ((flatK enc k d)[j]!) := by
      rw [ht, Array.getElem?_toList, Array.getElem?_eq_getElem hj', getElem!_pos (flatK enc k d) j hj']
    rwa [List.getElem?_take_of_lt hj] at this
theorem putCells_take (F c : Array Value) (h : F.size ≤ c.size) : (putCells id 0 F c).toList.take F.size = F.toList := by
  apply List.ext_getElem?
  intro j
  by_cases hj : j < F.size
  · rw [List.getElem?_take_of_lt hj, Array.getElem?_toList, Array.getElem?_toList]
    unfold putCells
    rw [Array.getElem?_mapIdx, Array.getElem?_eq_getElem (show j < c.size by omega), Array.getElem?_eq_getElem hj]
    simp [hj]
  · rw [List.getElem?_eq_none (by rw [List.length_take]; omega), List.getElem?_eq_none (by rw [Array.length_toList]; omega)]
theorem sort_block (enc : α → List Value) (k : Nat) (w : World) (b m : Nat) (d' : Array α) (os : Array Obj) (j : Nat) (hj : j < w.heap.size) : (sortWorldK enc k w b 0 m d' os).heap[j]? = (w.heap.modify b (onCells (putCells id 0 (flatK enc k d'))))[j]? := by
  show (w.heap.modify b _ ++ os)[j]? = _
  rw [Array.getElem?_append_left (by simpa using hj)]
theorem sort_grown (enc : α → List Value) (k : Nat) (w : World) (b m : Nat) (d' : Array α) (os : Array Obj) : w.grownBy (sortWorldK enc k w b 0 m d' os) (some b) where
  os := rfl
  tape := rfl
  output := rfl
  size := by
    show _ ≤ (w.heap.modify b _ ++ os).size
    simp
  block := fun j hj hne => by
    rw [sort_block enc k w b m d' os j hj, Array.getElem?_modify, if_neg (fun e => hne (by rw [e]))]
theorem putOf {enc : α → List Value} {k : Nat} (hk : ∀ x, (enc x).length = k) {w : World} {e : TypeId} {b c : Nat} {d d' : Array α} (h : w.ownsRow 0 e k (.slice (some ⟨b, 0, none⟩) d.size c) d.size (d.toList.map enc).flatten) (hd : d'.size = d.size) (m : Nat) (os : Array Obj) :
    (sortWorldK enc k w b 0 m d' os).ownsRow 0 e k (.slice (some ⟨b, 0, none⟩) d'.size c) d'.size (d'.toList.map enc).flatten := by
  have hr : ∀ r ∈ d'.toList.map enc, r.length = k := fun r hm => by
    obtain ⟨x, _, rfl⟩ := List.mem_map.1 hm
    exact hk x
  obtain ⟨_, ⟨h1, _⟩ | ⟨g, cap, cur, h1, _, hg, hc, hm, hs, ht⟩⟩ := h
  · cases h1
  · simp only [Value.slice.injEq, Option.some.injEq, Addr.mk.injEq] at h1
    obtain ⟨⟨rfl, _⟩, _, rfl⟩ := h1
    have hb : b < w.heap.size := (Array.getElem?_eq_some_iff.1 hg).1
    refine ⟨by rw [flat_len _ hr]; simp, .inr ⟨b, c, putCells id 0 (flatK enc k d') cur, rfl, Nat.zero_le _, ?_, by omega, hm, by unfold putCells; simpa using hs, ?_⟩⟩
    · rw [sort_block enc k w b m d' os b hb, Array.getElem?_modify, if_pos rfl, hg]
      rfl
    · rw [← flatK_list hk, ← size_flatK enc k d']
      refine putCells_take _ _ ?_;rw [size_flatK, hs, hd]
      exact Nat.mul_le_mul_right k hc
theorem turnedRow {w0 w w' : World} {row : Option Nat} {rs : List Res} {e : TypeId} {k b n c n' c' : Nat} {rows rows' : List (List Value)} (H : Own w0 row w rs) (i : Nat) (hi : rs[i]? = some (.rws e k (.slice (some ⟨b, 0, none⟩) n c) rows)) (hg : w.grownBy w' (some b))
    (h' : w'.ownsRow 0 e k (.slice (some ⟨b, 0, none⟩) n' c') rows'.length rows'.flatten) : Own w0 row w' (rs.set i (.rws e k (.slice (some ⟨b, 0, none⟩) n' c') rows')) := by
  have hb := H.foot i _ hi b rfl
  refine H.turn i hi _ ?_ hg.size (fun j hj hn => hg.block j hj (fun e => hn (by cases e; rfl))) h' (fun j hj => ?_)
  · refine ⟨?_, ?_, ?_, Nat.le_trans H.grown.size hg.size, fun j hj hne => ?_⟩
    · rw [hg.os, H.grown.os]
    · rw [hg.tape, H.grown.tape]
    · rw [hg.output, H.grown.output]
    · rw [hg.block j (Nat.lt_of_lt_of_le hj H.grown.size) (fun e => by
        cases e
        rcases hb.1 with h1 | h1
        · omega
        · exact hne h1), H.grown.block j hj hne]
  · have : j = b := by
      have hj : Value.ownBlock (.slice (some ⟨b, 0, none⟩) n' c') = some j := hj
      simpa [Value.ownBlock] using hj.symm
    subst this
    exact ⟨.inl rfl, Nat.lt_of_lt_of_le hb.2 hg.size⟩
end Go.Proofs.YtbgnapmaimkpkaaGreatDoor
