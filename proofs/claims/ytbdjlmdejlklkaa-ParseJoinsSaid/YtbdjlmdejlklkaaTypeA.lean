/-
  Package lex: the iterator each, over any slice of tokens. Conditions: those of the theorem.
-/
import Derived.Test.YtbdjlmdejlklkaaLexK
import Derived.Test.YtbdjlmdejlklkaaBuild
import Derived.Handy
set_option linter.unusedSimpArgs false
set_option linter.unusedVariables false
namespace Go.Proofs.Ytbdjlmdejlklkaa
open Go.RowKit Go.Shelf
attribute [local go_sem] Oper.semAt_some wide_fn wide_depth wide_fn_in wide_depth_in

/-- A token as it may come in: whatever its kind and its place. -/
structure AT where
  kind : Int
  text : ByteArray
  pos : Int
def AT.val (t : AT) : Value := .agg #[.int .u8 t.kind, .string t.text, .int .i64 t.pos]
def AT.cells (t : AT) : List Value := [.int .u8 t.kind, .string t.text, .int .i64 t.pos]
def Tok.up (t : Tok) : AT := ⟨t.kind, t.text, t.pos⟩

/-- The slice value reads as these tokens. -/
def TokRead (w : World) (sv : Value) (ts : List AT) : Prop :=
  (ts = [] ∧ ∃ a c, sv = .slice a 0 c) ∨ ∃ b off cap, sv = .slice (some ⟨b, off, none⟩) ts.length cap ∧
    ∀ j t, ts[j]? = some t → w.cell? ⟨b, off + j * 3, none⟩ = some (.int .u8 t.kind) ∧ w.cell? ⟨b, off + j * 3 + 1, none⟩ = some (.string t.text) ∧ w.cell? ⟨b, off + j * 3 + 2, none⟩ = some (.int .i64 t.pos)

set_option maxRecDepth 100000 in
set_option maxHeartbeats 4000000 in
theorem each1_seq (n : Nat) (Bx : Nat) (sv : Value) (ts : List AT) (w0 : World) (hR0 : TokRead w0 sv ts) (hX0 : Blk w0 Bx [sv] 48) (hlen : ts.length ≤ 1000000) (hlt : ∀ k, sv.ownBlock = some k → k < w0.heap.size) :
    SeqFp n Try.prog 53 #[.pointer (some ⟨Bx, 0, none⟩)] (fun t : AT => #[t.val]) ts (Bx :: sv.ownBlock.toList) [] w0 := by
  intro l J Jx W fp0 hW hJ hJx hY h0 hown
  have hX := hX0.frm hW (by simp)
  have hmix : (Try.prog).follows .mixedOrders = true := by kernel_rfl
  have hx0 := hX.cell 0 rfl
  rcases hR0 with ⟨rfl, a, c, rfl⟩ | ⟨b, off, cap, rfl, hcs⟩
  · refine callsIn_of_wp Try.func53 rfl trivial ?_ rfl
    simp only [Try.ntmps53, List.size_toArray, List.length_cons, List.length_nil, Nat.reduceAdd, Nat.reduceSub, Array.replicate_succ, Array.replicate_zero, List.push_toArray, List.append_toArray, List.nil_append, List.cons_append]
    gi_wp2
    gi_loopw [7] (fun i wr => i = .int .i64 0 ∧ W = wr) (fun _ _ => 0)
    case atStart => exact ⟨rfl, rfl⟩
    case round =>
      obtain ⟨rfl, rfl⟩ := hrel
      gi_wp2
      go_end0
      exact ⟨⟨_, rfl⟩, Frm.refl _ _, fp0, .inl h0⟩
  · have hb := hlt b rfl
    have hcs' : ∀ j t, ts[j]? = some t → W.cell? ⟨b, off + j * 3, none⟩ = some (.int .u8 t.kind) ∧ W.cell? ⟨b, off + j * 3 + 1, none⟩ = some (.string t.text) ∧ W.cell? ⟨b, off + j * 3 + 2, none⟩ = some (.int .i64 t.pos) := fun j t ht => by
      have hb0 : W.heap[b]? = w0.heap[b]? := hW.block b hb (by simp)
      obtain ⟨q0, q1, q2⟩ := hcs j t ht
      exact ⟨(World.cell?_of_block (a := ⟨b, off + j * 3, none⟩) hb0).trans q0, (World.cell?_of_block (a := ⟨b, off + j * 3 + 1, none⟩) hb0).trans q1, (World.cell?_of_block (a := ⟨b, off + j * 3 + 2, none⟩) hb0).trans q2⟩
    have Hcs := Lib.hid hcs'
    clear hcs hcs'
    refine callsIn_of_wp Try.func53 rfl trivial ?_ rfl
    simp only [Try.ntmps53, List.size_toArray, List.length_cons, List.length_nil, Nat.reduceAdd, Nat.reduceSub, Array.replicate_succ, Array.replicate_zero, List.push_toArray, List.append_toArray, List.nil_append, List.cons_append]
    gi_wp2
    gi_loopw [7] (fun i wr => ∃ (k : Nat) (fp : List Nat), i = .int .i64 k ∧ k ≤ ts.length ∧ J (ts.take k) fp wr ∧ (∀ x ∈ fp, x ∈ fp0 ∨ W.heap.size ≤ x) ∧ Frm fp0 W wr) (fun i _ => ts.length - (intOf i).toNat)
    case atStart => exact ⟨0, fp0, rfl, Nat.zero_le _, h0, fun x h => .inl h, Frm.refl _ _⟩
    case round =>
      obtain ⟨k, fp, rfl, hk, hJk, hfp, hfr⟩ := hrel
      by_cases hkl : k < ts.length
      · obtain ⟨t, ht⟩ : ∃ t, ts[k]? = some t := ⟨_, List.getElem?_eq_getElem hkl⟩
        obtain ⟨q0, q1, q2⟩ := Hcs.out k t ht
        have hbW : W.heap.size > b := by have := hW.size; omega
        have hfb : wr.heap[b]? = W.heap[b]? := hfr.block b hbW (hown b (by simp [Value.ownBlock]))
        have c0 := (World.cell?_of_block (a := ⟨b, off + k * 3, none⟩) hfb).trans q0
        have c1 := (World.cell?_of_block (a := ⟨b, off + k * 3 + 1, none⟩) hfb).trans q1
        have c2 := (World.cell?_of_block (a := ⟨b, off + k * 3 + 2, none⟩) hfb).trans q2
        obtain ⟨kd, tx, ps⟩ := t
        simp only at c0 c1 c2
        have hpx : ts.take k ++ [⟨kd, tx, ps⟩] = ts.take (k + 1) := by
          rw [List.take_succ_eq_append_getElem hkl]; rw [List.getElem?_eq_getElem hkl] at ht; rw [Option.some.inj ht]
        have hJa : J (ts.take k) fp (wr.alloc (.cells #[.int .u8 kd, .string tx, .int .i64 ps] 69)) :=
          hJ.stable _ _ _ _ hJk (by simp) (fun x hx => Below.heap_alloc _ _ _ (hJ.lt _ _ _ hJk x hx))
        obtain ⟨fn, tmps, assign, body, hy, hR⟩ := hY (ts.take k) ⟨kd, tx, ps⟩ _ fp hJa (by rw [hpx]; exact List.take_prefix _ _)
        simp only [AT.val] at hy
        have Hpx := Lib.hid hpx
        have HJ := Lib.hid hJ
        clear ht q0 q1 q2 hfb hpx hJ hJx
        gi_wp2
        refine hR.mono ?_
        rintro e w3 ⟨fp', hf3, hfp3, (⟨rfl, hJ3⟩ | ⟨rfl, hJ3⟩)⟩
        all_goals
          have hfp' : ∀ x ∈ fp', x ∈ fp0 ∨ W.heap.size ≤ x := fun x hx => by
            rcases hfp3 x hx with h | h
            · exact hfp x h
            · have := hfr.size; simp at h; exact .inr (by omega)
          have hfr3 : Frm fp0 W w3 := (hfr.alloc _).trans_new hf3 hfp
        · gi_wp2
          go_roundw
          case rel => exact ⟨k + 1, fp', by go_num, by omega, by rw [← Hpx.out]; exact hJ3, hfp', hfr3⟩
          case measure => simp [intOf]; omega
        · gi_wp2
          refine bodyPost_ret (results_none rfl _ _ _) rfl ?_
          exact ⟨⟨_, rfl⟩, hfr3, fp', .inr ⟨_, by rw [Hpx.out]; exact List.take_prefix _ _, hJ3⟩⟩
      · obtain rfl : k = ts.length := by omega
        gi_wp2
        go_end0
        exact ⟨⟨_, rfl⟩, hfr, fp, .inl (by rw [List.take_length] at hJk; exact hJk)⟩

theorem each_any (a : Option Addr) (n c : Nat) (w : World) : Calls Try.prog 37 #[.slice a n c] w fun e w' =>
    e = .returned (.func (.func 53) #[] #[.pointer (some ⟨w.heap.size, 0, none⟩)]) ∧ w.alloc (.cells #[.slice a n c] 48) = w' := by
  go_enter Try.func37, Try.ntmps37
  go_wp2
  go_returns
  exact ⟨rfl, rfl⟩

/-- What Type writes: 'within': the line has a token. -/
def typeG : Bool → List AT → List UInt8
  | _, [] => []
  | wi, t :: r => if t.kind = 4 then 10 :: typeG false r else (if wi then [32] else []) ++ t.text.data.toList ++ typeG true r
def withinG : Bool → List AT → Bool
  | wi, [] => wi
  | _, t :: r => withinG (t.kind != 4) r
theorem typeG_append (wi : Bool) (a b : List AT) : typeG wi (a ++ b) = typeG wi a ++ typeG (withinG wi a) b := by
  induction a generalizing wi with
  | nil => rfl
  | cons t r ih =>
    simp only [List.cons_append, typeG, withinG]
    by_cases h : t.kind = 4
    · simp [h, ih]
    · rw [if_neg h, if_neg h, ih, show (t.kind != 4) = true from by simpa using h]; simp
theorem withinG_append (wi : Bool) (a b : List AT) : withinG wi (a ++ b) = withinG (withinG wi a) b := by
  induction a generalizing wi with
  | nil => rfl
  | cons t r ih => simp only [List.cons_append, withinG, ih]
end Go.Proofs.Ytbdjlmdejlklkaa
