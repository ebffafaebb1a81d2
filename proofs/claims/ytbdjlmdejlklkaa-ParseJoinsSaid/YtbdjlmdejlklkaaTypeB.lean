/-
  Package lex: Type. Conditions: at most a million tokens, whose text has at most 2^46 bytes.
-/
import Derived.Test.YtbdjlmdejlklkaaTypeA
import Derived.Test.YtbdjlmdejlklkaaShelf
set_option linter.unusedSimpArgs false
set_option linter.unusedVariables false
namespace Go.Proofs.Ytbdjlmdejlklkaa
open Go.RowKit Go.Shelf
attribute [local go_sem] Oper.semAt_some wide_fn wide_depth wide_fn_in wide_depth_in

def bc (l : List UInt8) : List Value := l.map fun b => .int .u8 b.toNat
theorem bc_append (a b : List UInt8) : bc (a ++ b) = bc a ++ bc b := by simp [bc]
theorem bc_length (a : List UInt8) : (bc a).length = a.length := by simp [bc]
theorem bc_str (s : ByteArray) : Lib.strCells s = bc s.data.toList := rfl

/-- What holds between two rounds of Type. -/
def TyI (R : Nat) (pre : List AT) (fp : List Nat) (W : World) : Prop :=
  ∃ v, fp = (R + 1) :: R :: v.ownBlock.toList ∧ Bld R R v (bc (typeG false pre)) W ∧ Blk W (R + 1) [.bool (withinG false pre)] 4 ∧ (∀ k, v.ownBlock = some k → R + 1 + 1 + 1 ≤ k) ∧ R + 1 + 1 + 1 ≤ W.heap.size
theorem tyI_local (R : Nat) : Local (TyI R) := by
  refine ⟨?_, ?_⟩
  · rintro pre fp W W' ⟨v, rfl, h1, h2, h3, h4⟩ hz hag
    exact ⟨v, rfl, h1.agree (fun x hx => hag x (by simp only [List.mem_cons] at hx ⊢; exact .inr hx)), (hag _ (by simp)).trans h2, h3, Nat.le_trans h4 hz⟩
  · rintro pre fp W ⟨v, rfl, h1, h2, h3, h4⟩ b hb
    rw [List.mem_cons] at hb
    rcases hb with rfl | hb
    · exact h2.lt
    · exact (h1.lt b hb).2
theorem typeG_len {pre all : List AT} (h : pre <+: all) : (typeG false pre).length ≤ (typeG false all).length := by
  obtain ⟨r, rfl⟩ := h
  rw [typeG_append]; simp

theorem tyI_step {R : Nat} {pre : List AT} {t : AT} {W W₂ W3 : World} {v : Value} {a : Act} {xs : List UInt8} {wi : Bool} (hz : W.heap.size ≤ W₂.heap.size) (hbase : R + 1 + 1 + 1 ≤ W.heap.size) (hv : ∀ k, v.ownBlock = some k → R + 1 + 1 + 1 ≤ k)
    (ht : typeG false (pre ++ [t]) = xs) (hw : withinG false (pre ++ [t]) = wi) (hB : Wrote R R v (bc xs) W₂ W3) (hb : Blk W3 (R + 1) [.bool (withinG false pre)] 4) :
    fpPost (TyI R) (fun _ _ _ _ => False) (pre ++ [t]) ((R + 1) :: R :: v.ownBlock.toList) W W₂ Exit.normal a (W3.setCell ⟨R + 1, 0, none⟩ (.bool wi)) := by
  obtain ⟨v', h1, h2, h3⟩ := hB
  have hv' : ∀ k, v'.ownBlock = some k → R + 1 + 1 + 1 ≤ k := by
    intro k hk
    rcases h3 with h | ⟨k', h, hk'⟩
    · exact hv k (h ▸ hk)
    · rw [h] at hk; cases hk; omega
  refine ⟨?_, (R + 1) :: R :: v'.ownBlock.toList, ?_, v', rfl, ?_, ?_, hv', ?_⟩
  · exact (h2.mono (fun x hx => .inl (by simp only [List.mem_cons] at hx ⊢; exact .inr hx))).setCell (.inl (by simp)) _
  · intro b hb
    simp only [List.mem_cons, Option.mem_toList] at hb ⊢
    rcases hb with hb | hb | hb
    · exact .inl (.inl hb)
    · exact .inl (.inr (.inl hb))
    · rcases h3 with h | ⟨k', h, hk'⟩
      · exact .inl (.inr (.inr (h ▸ hb)))
      · rw [h] at hb; cases hb; exact .inr (by omega)
  · rw [ht]
    refine h1.agree fun x hx => Below.heap_setCell _ _ _ _ ?_
    simp only [List.mem_cons, Option.mem_toList] at hx
    rcases hx with rfl | hx
    · show x ≠ x + 1; omega
    · have := hv' x hx; show x ≠ R + 1; omega
  · rw [hw]; exact Blk.set hb 0 _
  · have := h2.size; simp; omega

theorem wrote_trans {B b : Nat} {v v1 : Value} {bs2 : List Value} {w w1 w2 : World} (hF : Frm (b :: v.ownBlock.toList) w w1) (hL : v1.ownBlock = v.ownBlock ∨ ∃ k, v1.ownBlock = some k ∧ w.heap.size ≤ k)
    (h2 : Wrote B b v1 bs2 w1 w2) : Wrote B b v bs2 w w2 := by
  obtain ⟨v2, h1, hF2, hL2⟩ := h2
  refine ⟨v2, h1, hF.trans_new hF2 ?_, ?_⟩
  · intro x hx
    simp only [List.mem_cons, Option.mem_toList] at hx ⊢
    rcases hx with hx | hx
    · exact .inl (.inl hx)
    · rcases hL with h | ⟨k, h, hk⟩
      · exact .inl (.inr (h ▸ hx))
      · rw [h] at hx; cases hx; exact .inr hk
  · rcases hL2 with h | ⟨k, h, hk⟩
    · rw [h]; exact hL
    · exact .inr ⟨k, h, Nat.le_trans hF.size hk⟩
theorem below_putObj {B : Nat} {a w : World} (h : Below B a w) {D : Nat} (hD : B ≤ D) (o : Obj) : Below B a (w.putObj D o) :=
  ⟨h.os, h.tape, h.output, by simpa using h.size, fun k hk => (World.putObj_heap_other (by omega)).trans (h.block k hk)⟩
theorem TokRead.below {w w' : World} {sv : Value} {ts : List AT} (h : TokRead w sv ts) (hlt : ∀ k, sv.ownBlock = some k → k < w.heap.size) (hb : Below w.heap.size w w') : TokRead w' sv ts := by
  rcases h with h | ⟨b, off, cap, rfl, hc⟩
  · exact .inl h
  · have hb' := hlt b rfl
    refine .inr ⟨b, off, cap, rfl, fun j t ht => ?_⟩
    obtain ⟨q0, q1, q2⟩ := hc j t ht
    exact ⟨(hb.cell (p := ⟨b, off + j * 3, none⟩) hb').trans q0, (hb.cell (p := ⟨b, off + j * 3 + 1, none⟩) hb').trans q1, (hb.cell (p := ⟨b, off + j * 3 + 2, none⟩) hb').trans q2⟩

set_option maxRecDepth 100000 in
set_option maxHeartbeats 4000000 in
theorem type_in (n : Nat) (sa : Option Addr) (sn sc : Nat) (ts : List AT) (w : World) (hR : TokRead w (.slice sa sn sc) ts) (hlt : ∀ k, (Value.slice sa sn sc).ownBlock = some k → k < w.heap.size) (hlen : ts.length ≤ 1000000) (hbd : (typeG false ts).length ≤ 70368744177664) :
    CallsIn Fence.wide n Try.prog 18 #[.slice sa sn sc] w fun e w' => e = .returned (.string ⟨(typeG false ts).toArray⟩) ∧ Below w.heap.size w w' := by
  have hmix : (Try.prog).follows .mixedOrders = true := by kernel_rfl
  refine callsIn_of_wp_marks Try.func18 rfl trivial ?_ rfl
  simp only [Try.ntmps18, List.size_toArray, List.length_cons, List.length_nil, Nat.reduceAdd, Nat.reduceSub, Array.replicate_succ, Array.replicate_zero, List.push_toArray, List.append_toArray, List.nil_append, List.cons_append]
  have Hbd := Lib.hid hbd
  clear hbd
  gi_wp2_with (gi_at_call 37; refine (callsIn_wide.2 (each_any _ _ _ _)).mono ?_; rintro e w1 ⟨rfl, rfl⟩)
  refine wpIn_rangeFunc_fp (α := AT) (all := ts) (own := (w.heap.size + 1 + 1) :: (Value.slice sa sn sc).ownBlock.toList) (wr := []) rfl (enters_of Try.func53 (by kernel_rfl) rfl) (each1_seq _ _ _ ts _ ?c1 ?c2 hlen ?c3) (fun _ => rfl)
    (TyI w.heap.size) (fun _ _ _ _ => False) (tyI_local _) (fun _ => ⟨fun _ _ _ _ h => h.elim, fun _ _ _ h => h.elim⟩) [w.heap.size + 1, w.heap.size] ?start ?own
    (fun x W a₁ W₁ => a₁ = { tmps := #[.slice sa sn sc, undef, .string ⟨#[]⟩, .pointer (some ⟨w.heap.size, 0, none⟩), .pointer (some ⟨w.heap.size + 1, 0, none⟩), .pointer (some ⟨W.heap.size, 0, none⟩), .slice sa sn sc,
      .func (.func 53) #[] #[.pointer (some ⟨w.heap.size + 1 + 1, 0, none⟩)], x.val, undef, undef, undef, undef, undef, undef, undef, undef, undef, undef], defers := [] } ∧
      W₁ = W.alloc (.cells #[.int .u8 x.kind, .string x.text, .int .i64 x.pos] 69)) ?assign ?hAx ?body ?done ?stop
  case c1 => exact hR.below hlt (by go_grown)
  case c2 => exact Blk.newAt (by simp)
  case c3 => intro k hk; have := hlt k hk; simp; omega
  case start => exact ⟨.slice none 0 0, rfl, ((Bld.new _).agree (w' := (World.alloc (World.alloc (World.alloc w _) _) _)) (fun x hx => by
    simp only [Value.ownBlock, Option.toList_none, List.mem_cons, List.not_mem_nil, or_false] at hx
    subst hx
    rw [Below.heap_alloc _ _ _ (by simp; omega), Below.heap_alloc _ _ _ (by simp)])), (Blk.newAt (by simp)).alloc _, by simp [Value.ownBlock], by simp⟩
  case own =>
    intro b hb
    simp only [List.mem_cons, Option.mem_toList, List.not_mem_nil, or_false] at hb ⊢
    rcases hb with rfl | hb
    · exact ⟨by omega, by simp⟩
    · have := hlt b hb; exact ⟨by omega, by simp; omega⟩
  case hAx => rintro x W a₁ W₁ ⟨_, rfl⟩; exact (Frm.refl _ _).alloc _
  case assign =>
    intro l x W K hK
    obtain ⟨kd, tx, ps⟩ := x
    simp only [AT.val]
    have HK := Lib.hid hK
    clear hK
    gi_wp2
    exact HK.out _ _ ⟨rfl, rfl⟩
  case body =>
    rintro l pre ⟨kd, tx, ps⟩ W W₁ W₂ a₁ fp hI hpx ⟨rfl, rfl⟩ hl hz hlf hlW
    simp only [AT.val] at *
    have hT : Blk W₂ W.heap.size [.int .u8 kd, .string tx, .int .i64 ps] 69 := (Blk.new W #[.int .u8 kd, .string tx, .int .i64 ps] _).frm hl (by simp; omega)
    have hI2 : TyI w.heap.size pre fp W₂ := (tyI_local _).stable _ _ W _ hI (by have := hl.size; simp at this; omega) fun b hb => by
      have hb' := (tyI_local _).lt _ _ _ hI b hb
      exact (hl.block b (by simp; omega) (by rintro hm; simp at hm; subst hm; exact hlf hb)).trans (Below.heap_alloc _ _ _ hb')
    have hbase : w.heap.size + 1 + 1 + 1 ≤ W.heap.size := by obtain ⟨_, _, _, _, _, h⟩ := hI; exact h
    obtain ⟨v, rfl, hB, hwi, hvl, _⟩ := hI2
    have hvW : ∀ k, v.ownBlock = some k → k < W.heap.size := fun k hk => (tyI_local _).lt _ _ _ hI k (by simp [hk])
    have hWs : W.heap.size ≤ W₂.heap.size := by have := hl.size; simp at this; omega
    have hty := typeG_append false pre [⟨kd, tx, ps⟩]
    have hwn := withinG_append false pre [⟨kd, tx, ps⟩]
    have hle := Nat.le_trans (typeG_len hpx) Hbd.out
    have hlt2 := hB.lt
    have c0 := hT.cell 0 rfl
    have c1 := hT.cell 1 rfl
    have c2 := hT.cell 2 rfl
    have r1 := hwi.cell 0 rfl
    have f1 := hwi.frozen 0
    have HI := Lib.hid hI
    have Hl := Lib.hid hl
    have Hz := Lib.hid hz
    clear hI hl hz
    have hWR : w.heap.size ≤ W₂.heap.size := by omega
    have hnv : w.heap.size + 1 ∉ w.heap.size :: v.ownBlock.toList := by
      simp only [List.mem_cons, Option.mem_toList, not_or]
      exact ⟨by omega, fun h => by have := hvl _ h; omega⟩
    by_cases hk : kd = 4
    · subst hk
      have Ht : Hid (typeG false (pre ++ [⟨4, tx, ps⟩]) = typeG false pre ++ [10]) := Lib.hid (by rw [hty]; simp [typeG])
      have Hw : Hid (withinG false (pre ++ [⟨4, tx, ps⟩]) = false) := Lib.hid (by rw [hwn]; simp [withinG])
      have hln : (bc (typeG false pre)).length + 1 ≤ 140737488355328 := by rw [Ht.out] at hle; simp at hle; rw [bc_length]; omega
      clear hty hwn hle
      gi_wp2_with (gi_at_call 38; refine (CallsIn.inRound l (callsIn_wide.2 (wbyte_any _ _ v _ 10 _ hB hln hWR))).mono ?_; rintro e w3 ⟨rfl, hW3⟩; have hwi3 := hwi.frm hW3.choose_spec.2.1 hnv; have r3 := hwi3.cell 0 rfl; have f3 := hwi3.frozen 0)
      exact tyI_step hWs hbase hvl Ht.out Hw.out (by rw [bc_append]; exact hW3) hwi3
    · have hk4 : (kd == 4) = false := by simpa using hk
      have hw : withinG false (pre ++ [⟨kd, tx, ps⟩]) = true := by rw [hwn]; simpa [withinG] using hk
      have Hw := Lib.hid hw
      clear hw hwn
      cases hwi0 : withinG false pre with
      | false =>
        have Ht : Hid (typeG false (pre ++ [⟨kd, tx, ps⟩]) = typeG false pre ++ tx.data.toList) := Lib.hid (by rw [hty, hwi0]; simp [typeG, hk])
        have hln : (bc (typeG false pre)).length + tx.size ≤ 140737488355328 := by rw [Ht.out] at hle; simp at hle; rw [bc_length]; omega
        rw [hwi0] at r1
        have Hwi0 := Lib.hid hwi0
        clear hty hle hk hwi0
        gi_wp2_with (gi_at_call 39; refine (CallsIn.inRound l (callsIn_wide.2 (wstr_any _ _ v _ tx _ hB hln hWR))).mono ?_; rintro e w3 ⟨rfl, hW3⟩; have hwi3 := hwi.frm hW3.choose_spec.2.1 hnv; have r3 := hwi3.cell 0 rfl; have f3 := hwi3.frozen 0)
        exact tyI_step hWs hbase hvl Ht.out Hw.out (by rw [bc_append]; exact hW3) hwi3
      | true =>
        have Ht : Hid (typeG false (pre ++ [⟨kd, tx, ps⟩]) = (typeG false pre ++ [32]) ++ tx.data.toList) := Lib.hid (by rw [hty, hwi0]; simp [typeG, hk])
        have hln : (bc (typeG false pre)).length + 1 + tx.size ≤ 140737488355328 := by rw [Ht.out] at hle; simp at hle; rw [bc_length]; omega
        rw [hwi0] at r1
        have Hwi0 := Lib.hid hwi0
        clear hty hle hk hwi0
        gi_wp2_with (first
          | (gi_at_call 38; refine (CallsIn.inRound l (callsIn_wide.2 (wbyte_any _ _ v _ 32 _ hB (by omega) hWR))).mono ?_; rintro e w3 ⟨rfl, hW3⟩; have hwi3 := hwi.frm hW3.choose_spec.2.1 hnv; obtain ⟨v1, hB1, hF1, hL1⟩ := hW3; have hT3 := hT.frm hF1 (by simp only [List.mem_cons, Option.mem_toList, not_or]; exact ⟨by omega, fun h => by have := hvW _ h; omega⟩); have s0 := hT3.cell 0 rfl; have s1 := hT3.cell 1 rfl; have s2 := hT3.cell 2 rfl; have hz3 := hF1.size)
          | (gi_at_call 39; refine (CallsIn.inRound l (callsIn_wide.2 (wstr_any _ _ v1 _ tx _ hB1 (by rw [List.length_append, List.length_singleton]; omega) (by omega)))).mono ?_; rintro e w4 ⟨rfl, hW4⟩; have hW5 := wrote_trans hF1 hL1 hW4; have hwi4 := hwi.frm hW5.choose_spec.2.1 hnv; have r4 := hwi4.cell 0 rfl; have f4 := hwi4.frozen 0))
        exact tyI_step hWs hbase hvl Ht.out Hw.out (by rw [bc_append, bc_append]; exact hW5) hwi4
  case done =>
    intro D fp W hI hK hfr hD hDf
    obtain ⟨v, rfl, hB, hwi, hvl, hbase⟩ := hI
    have hbl : Below w.heap.size w W := by
      refine Below.trans (b := ((w.alloc _).alloc _).alloc _) (by go_grown) (hfr.below (by simp; omega) ?_)
      intro x hx
      simp only [List.nil_append, List.mem_cons, List.not_mem_nil, or_false] at hx
      omega
    have hs := Lib.IsBuilderF.of hB.is
    have hDb : D ≠ w.heap.size := by simp at hD; omega
    have hDl : w.heap.size ≤ D := by simp at hD; omega
    have hRW : w.heap.size ≤ W.heap.size := by omega
    gi_wp2_with (gi_at_call 40; go_must (refine (callsIn_wide.2 (Try.Builder_String_any_k w.heap.size w.heap.size (typeG false ts) W hs hRW)).mono ?_; rintro e w3 ⟨rfl, _, hb3, ho3⟩; have hK3 := ho3 D _ hK (fun h => hDb (Option.some.inj h)) (by intro c fz h; cases h)))
    refine ⟨by simp, .inl ⟨_, _, rfl, run_takeDeferred hK3, ?_⟩⟩
    refine ⟨_, results_tmp rfl _ _ _, rfl, ?_⟩
    exact below_putObj (hbl.trans hb3) hDl _
  case stop =>
    rintro D c pre fp W hpre h
    exact h.elim

/-- Type, for every slice of tokens. -/
theorem type_any (sa : Option Addr) (sn sc : Nat) (ts : List AT) (w : World) (hR : TokRead w (.slice sa sn sc) ts) (hlt : ∀ k, (Value.slice sa sn sc).ownBlock = some k → k < w.heap.size) (hlen : ts.length ≤ 1000000) (hbd : (typeG false ts).length ≤ 70368744177664) :
    Calls Try.prog 18 #[.slice sa sn sc] w fun e w' => e = .returned (.string ⟨(typeG false ts).toArray⟩) ∧ Below w.heap.size w w' :=
  (callsIn_wide (n := 9)).1 (type_in 9 sa sn sc ts w hR hlt hlen hbd)
end Go.Proofs.Ytbdjlmdejlklkaa
