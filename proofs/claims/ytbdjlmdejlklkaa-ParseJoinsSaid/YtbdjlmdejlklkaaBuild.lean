/-
  strings.Builder over this program: copyCheck, WriteByte, WriteString. Conditions: the builder is the call's own, and its text stays below 2^47 bytes.
-/
import Derived.Test.YtbdjlmdejlklkaaLexK
import Derived.Lib.Builder
import Derived.Lib.AppendStr
import Derived.Handy
set_option linter.unusedSimpArgs false
set_option linter.unusedVariables false
namespace Go.Proofs.Ytbdjlmdejlklkaa
open Go.RowKit

theorem build_size : ((Try.prog).info? 83).map (·.size) = some 2 := by kernel_rfl
theorem build_lies : liesAt Try.prog (Try.prog).depth 83 (2 / (Try.prog).cellsOf 83) 0 83 1 = true := by kernel_rfl
theorem byte_info : ((Try.prog).info? 5).map (fun i => (i.zero, i.size, i.bytes)) = some (some (.int .u8 0), 1, 1) := by kernel_rfl
theorem ptr_unsafe : (Try.prog).underlying 117 = some .unsafePointer := by kernel_rfl

theorem noesc (x : Value) (w : World) : (callFunc 69 #[x]).run Try.prog w = .ok (.value x) w := by
  rw [run_callFunc_extern Try.func69 (by kernel_rfl) (by kernel_rfl) (by kernel_rfl) (e := Extern.AbiNoEscape.same) (by kernel_rfl)]
  rw [Lib.run_noEscape]
  rfl

set_option maxHeartbeats 1000000 in
theorem copy_fresh (b : Nat) (w : World) (h0 : w.cell? ⟨b, 0, none⟩ = some (.pointer none)) (hsh : w.shape? b = some (83, 2)) (hfz : w.frozen? ⟨b, 0, none⟩ = false) :
    Calls Try.prog 54 #[.pointer (some ⟨b, 0, none⟩)] w fun e w' => e = .returned (.tuple #[]) ∧ w.setCell ⟨b, 0, none⟩ (.pointer (some ⟨b, 0, none⟩)) = w' := by
  obtain ⟨j, hj, hjs⟩ := Option.map_eq_some_iff.1 build_size
  have k1 := Lib.run_to_unsafe w ⟨b, 0, none⟩ Try.underlying81 ptr_unsafe hj (by rw [hjs]; decide) hsh (Nat.zero_lt_succ 1)
  have k2 := Lib.run_from_unsafe w ⟨b, 0, none⟩ ptr_unsafe Try.underlying81 hj hsh build_lies
  have k3 := noesc
  clear hsh hjs hj
  go_enter Try.func54, Try.ntmps54
  go_wp2
  go_returns
  exact ⟨rfl, rfl⟩

set_option maxHeartbeats 1000000 in
theorem copy_used (b : Nat) (w : World) (h0 : w.cell? ⟨b, 0, none⟩ = some (.pointer (some ⟨b, 0, none⟩))) :
    Calls Try.prog 54 #[.pointer (some ⟨b, 0, none⟩)] w fun e w' => e = .returned (.tuple #[]) ∧ w = w' := by
  obtain ⟨j, hj, hjs⟩ := Option.map_eq_some_iff.1 build_size
  have k1 := Lib.run_neq_ptr_same (P := Try.prog) w ⟨b, 0, none⟩ Try.underlying81 hj
  clear hjs hj
  go_enter Try.func54, Try.ntmps54
  go_wp2
  go_returns
  exact ⟨rfl, rfl⟩

/-- A builder of the call's own at block b (from B on), its buffer the slice value v, holding the bytes bs. -/
def Bld (B b : Nat) (v : Value) (bs : List Value) (w : World) : Prop :=
  B ≤ b ∧ (∃ p, (p = .pointer none ∨ p = .pointer (some ⟨b, 0, none⟩)) ∧ Blk w b [p, v] 83) ∧ w.ownsRow B 5 1 v bs.length bs ∧ v.ownBlock ≠ some b

theorem Bld.is {B b : Nat} {v : Value} {bs : List Value} {w : World} (h : Bld B b v bs w) : Lib.IsBuilder 83 5 B b bs w := by
  obtain ⟨h1, ⟨p, (rfl | rfl), h2⟩, h3, h4⟩ := h
  · exact .inl ⟨h1, v, h2, h3, h4⟩
  · exact .inr ⟨h1, v, h2, h3, h4⟩
theorem Bld.new (w : World) : Bld w.heap.size w.heap.size (.slice none 0 0) [] (w.alloc (.cells #[.pointer none, .slice none 0 0] 83)) :=
  ⟨Nat.le_refl _, ⟨_, .inl rfl, Blk.new _ _ _⟩, World.ownsRow_nil _ _ _ _, by simp [Value.ownBlock]⟩
theorem Bld.agree {B b : Nat} {v : Value} {bs : List Value} {w w' : World} (h : Bld B b v bs w) (he : ∀ x ∈ b :: v.ownBlock.toList, w'.heap[x]? = w.heap[x]?) : Bld B b v bs w' := by
  obtain ⟨h1, ⟨p, hp, h2⟩, h3, h4⟩ := h
  exact ⟨h1, ⟨p, hp, (he b (by simp)).trans h2⟩, ownsRow_agree h3 (fun x hx => he x (by simp only [List.mem_cons]; exact .inr hx)), h4⟩
theorem Bld.lt {B b : Nat} {v : Value} {bs : List Value} {w : World} (h : Bld B b v bs w) : ∀ x ∈ b :: v.ownBlock.toList, B ≤ x ∧ x < w.heap.size := by
  obtain ⟨h1, ⟨p, hp, h2⟩, h3, h4⟩ := h
  intro x hx
  simp only [List.mem_cons] at hx
  rcases hx with rfl | hx
  · exact ⟨h1, h2.lt⟩
  · exact h3.lt x (by simpa using hx)

/-- copyCheck, whether the builder was used or not. -/
theorem copy_any (B b : Nat) (v : Value) (bs : List Value) (w : World) (h : Bld B b v bs w) :
    Calls Try.prog 54 #[.pointer (some ⟨b, 0, none⟩)] w fun e w' => e = .returned (.tuple #[]) ∧ Blk w' b [.pointer (some ⟨b, 0, none⟩), v] 83 ∧ Bld B b v bs w' ∧ Frm [b] w w' := by
  obtain ⟨h1, ⟨p, (rfl | rfl), h2⟩, h3, h4⟩ := h
  · refine (copy_fresh b w (h2.cell 0 rfl) (by have h2' := h2; unfold Blk at h2'; simp [World.shape?, h2']) (h2.frozen 0)).mono ?_
    rintro e w' ⟨rfl, rfl⟩
    have h5 := h2.set 0 (.pointer (some ⟨b, 0, none⟩))
    exact ⟨rfl, h5, ⟨h1, ⟨_, .inr rfl, h5⟩, ownsRow_setCell_other h3 h4 _, h4⟩, (Frm.refl _ _).setCell (.inl (by simp)) _⟩
  · refine (copy_used b w (h2.cell 0 rfl)).mono ?_
    rintro e w' ⟨rfl, rfl⟩
    exact ⟨rfl, h2, ⟨h1, ⟨_, .inr rfl, h2⟩, h3, h4⟩, Frm.refl _ _⟩

/-- What a write leaves: the builder with more bytes; only its two blocks have changed. -/
def Wrote (B b : Nat) (v : Value) (bs : List Value) (w w' : World) : Prop :=
  ∃ v', Bld B b v' bs w' ∧ Frm (b :: v.ownBlock.toList) w w' ∧ (v'.ownBlock = v.ownBlock ∨ ∃ k, v'.ownBlock = some k ∧ w.heap.size ≤ k)

theorem row_is {w : World} {base : Nat} {e : TypeId} {size : Nat} {v : Value} {n : Nat} {xs : List Value} (h : w.ownsRow base e size v n xs) : ∀ k, v.ownBlock = some k → ∃ c fz, w.heap[k]? = some (.cells c e fz) := by
  intro k hk
  rcases h.2 with ⟨rfl, _⟩ | ⟨g, cap, cur, rfl, _, hg, _⟩
  · simp [Value.ownBlock] at hk
  · simp [Value.ownBlock] at hk; subst hk; exact ⟨_, _, hg⟩
theorem own_shape {w : World} {base : Nat} {e : TypeId} {size : Nat} {v : Value} {n : Nat} {xs : List Value} (h : w.ownsRow base e size v n xs) : ∃ a l c, v = .slice a l c := by
  rcases h.2 with ⟨rfl, _⟩ | ⟨g, cap, cur, rfl, _⟩ <;> exact ⟨_, _, _, rfl⟩

theorem wrote_of {B b : Nat} {v v' : Value} {bs : List Value} {w w1 w1' w2 : World} (hB : B ≤ b) (hf : Frm [b] w w1) (hf1 : Frm [] w1 w1') (hb2 : Blk w2 b [.pointer (some ⟨b, 0, none⟩), v] 83)
    (hown' : w2.ownsRow B 5 1 v' bs.length bs) (hgr : World.grownBy w1' w2 v.ownBlock) (hlies : v'.ownBlock = v.ownBlock ∨ v'.ownBlock = some w1'.heap.size) :
    Wrote B b v bs w (w2.setCell ⟨b, 1, none⟩ v') := by
  have hne := Lib.ownBlock_ne hown' hb2 (by decide)
  refine ⟨v', ⟨hB, ⟨_, .inr rfl, hb2.set 1 v'⟩, ownsRow_setCell_other hown' hne _, hne⟩, ?_, ?_⟩
  · refine Frm.setCell ?_ (.inl (by simp)) _
    exact ((hf.mono (fun x hx => .inl (by simp at hx; simp [hx]))).trans_new hf1 (by simp)).trans_new (Frm.of_grown hgr (b :: v.ownBlock.toList) (fun k hk => by simp [hk])) (fun x hx => .inl hx)
  · rcases hlies with h | h
    · exact .inl h
    · exact .inr ⟨_, h, by have h1 := hf.size; have h2 := hf1.size; omega⟩

set_option maxHeartbeats 2000000 in
theorem wbyte_any (B b : Nat) (v : Value) (bs : List Value) (c : Int) (w : World) (h : Bld B b v bs w) (hlen : bs.length + 1 ≤ 140737488355328) (hBw : B ≤ w.heap.size) :
    Calls Try.prog 38 #[.pointer (some ⟨b, 0, none⟩), .int .u8 c] w fun e w' => e = .returned .nilIface ∧ Wrote B b v (bs ++ [.int .u8 c]) w w' := by
  obtain ⟨i0, hi, hz0, hz1, hz2⟩ := info_parts byte_info
  go_enter Try.func38, Try.ntmps38
  go_wp2_with fail
  refine (copy_any B b v bs w h).mono ?_
  rintro e w1 ⟨rfl, hb, h1, k1⟩
  obtain ⟨hB, _, hown, hne⟩ := h1
  have c1 := hb.cell 1 rfl
  have hz := k1.size
  have Hne := Lib.hid hne
  clear hne
  go_wp2_with (at_builtin; go_must (refine wpList_append_at _ rfl _ _ 30 rfl B 5 i0 (.int .u8 0) 1 1 Try.underlying30 hi hz0 hz1 hz2 rfl (by decide) v _ _ rfl (hown.alloc _) ⟨w1.heap.size, 0, none⟩ 1 1 [.int .u8 c] rfl rfl (cell_one_new _ _ _) (by simp [Value.oneCell']) (by unfold maxLen; omega) (by omega) (by simp; omega) (by decide) ?_; intro g' cap' w2 hown' hgr hblk; have hb2 := (hb.alloc (.cells #[.int .u8 c] 5)).grown hgr (fun e => Hne.out e.symm); have d1 := hb2.cell 1 rfl; have e1 := hb2.frozen 1; have Hblk := Lib.hid hblk; clear hblk))
  go_returns
  refine ⟨rfl, wrote_of hB k1 ((Frm.refl _ _).alloc _) hb2 (by rw [List.length_append, List.length_singleton]; exact hown') hgr ?_⟩
  rcases Hblk.out with h | h
  · exact .inl (by rw [h]; rfl)
  · exact .inr (by rw [h]; rfl)

set_option maxHeartbeats 2000000 in
theorem wstr_any (B b : Nat) (v : Value) (bs : List Value) (s : ByteArray) (w : World) (h : Bld B b v bs w) (hlen : bs.length + s.size ≤ 140737488355328) (hBw : B ≤ w.heap.size) :
    Calls Try.prog 39 #[.pointer (some ⟨b, 0, none⟩), .string s] w fun e w' => e = .returned (.tuple #[.int .i64 s.size, .nilIface]) ∧ Wrote B b v (bs ++ Lib.strCells s) w w' := by
  obtain ⟨i0, hi, hz0, hz1, hz2⟩ := info_parts byte_info
  go_enter Try.func39, Try.ntmps39
  go_wp2_with fail
  refine (copy_any B b v bs w h).mono ?_
  rintro e w1 ⟨rfl, hb, h1, k1⟩
  obtain ⟨hB, _, hown, hne⟩ := h1
  have c1 := hb.cell 1 rfl
  have hz := k1.size
  have Hne := Lib.hid hne
  clear hne
  go_wp2_with (at_builtin; go_must (refine wpList_append_at_string _ rfl _ _ 30 9 rfl B 5 i0 Try.underlying30 Try.underlying9 hi hz0 hz1 hz2 v _ _ rfl hown s rfl (by unfold maxLen; omega) (by omega) (by omega) ?_; intro v' w2 hown' hgr hblk; have hb2 := hb.grown hgr (fun e => Hne.out e.symm); have d1 := hb2.cell 1 rfl; have e1 := hb2.frozen 1; have Hblk := Lib.hid hblk; clear hblk; obtain ⟨sa, sn, sc, rfl⟩ := own_shape hown'))
  go_returns
  exact ⟨rfl, wrote_of hB k1 (Frm.refl _ _) hb2 (by rw [List.length_append, Lib.strCells_length]; exact hown') hgr Hblk.out⟩
end Go.Proofs.Ytbdjlmdejlklkaa
