/-
  WALK2. Package parse: run: what is deferred takes a fault for the answer. Conditions: what the reading function needs lies in memory.
-/
import Derived.Test.YtbdjlmdejlklkaaPzA
import Derived.Test.YtbdjlmdejlklkaaVdA
import Derived.Test.YtbdjlmdejlklkaaLexK
set_option linter.unusedSimpArgs false
set_option linter.unusedVariables false
namespace Go.Proofs.Ytbdjlmdejlklkaa
open Go.RowKit
set_option maxRecDepth 100000
/-! ### What is lexed -/
theorem nextT_posP {s : ByteArray} : ∀ {f k o t k' o'}, nextT s f k o = (some t, k', o') → k ≤ s.size → t.pos ≤ s.size
  | 0, k, o, t, k', o', h, hk => by simp [nextT] at h
  | f + 1, k, o, t, k', o', h, hk => by
    have h2 := passTo_le s k hk
    rw [nextT] at h
    split at h
    · simp only [Prod.mk.injEq, Option.some.injEq] at h
      obtain ⟨rfl, _, _⟩ := h
      exact h2
    · split at h
      · simp only [Prod.mk.injEq, Option.some.injEq] at h
        obtain ⟨rfl, _, _⟩ := h
        exact h2
      · split at h
        · simp at h
        · exact nextT_posP h (by omega)
theorem toksF_ok {s : ByteArray} : ∀ {f k o}, k ≤ s.size → ∀ t ∈ toksF s f k o, t.text.size ≤ s.size ∧ t.pos ≤ s.size ∧ 1 ≤ t.kind ∧ t.kind ≤ 4
  | 0, k, o, _, t, h => by simp [toksF] at h
  | f + 1, k, o, hk, t, h => by
    rw [toksF] at h
    split at h
    · rename_i t' k' o' hn
      rcases List.mem_cons.1 h with rfl | h
      · obtain ⟨h1, h2⟩ := nextT_ok hn
        exact ⟨h2, nextT_posP hn hk, by omega, by omega⟩
      · exact toksF_ok (nextT_le hn hk).1 t h
    · simp at h
def pxOf (s : ByteArray) (fx : Bool) : PX := ⟨toks s, s.size, fx⟩
theorem lexBad_sizeP {s : ByteArray} (h : lexBad s = none) : s.size ≤ 16384 := by
  unfold lexBad at h
  split at h
  · cases h
  · omega
theorem px_ok {s : ByteArray} (fx : Bool) (h : lexBad s = none) : (pxOf s fx).Ok := by
  have hs := lexBad_sizeP h
  have hl := toks_len s
  refine ⟨by show (toks s).length ≤ _; omega, by show s.size ≤ _; omega, fun i t hi => ?_⟩
  obtain ⟨h1, h2, _, h4⟩ := toksF_ok (Nat.zero_le _) t (List.mem_of_getElem? hi)
  exact ⟨by omega, by omega, h4⟩
theorem px_few {s : ByteArray} (fx : Bool) (h : lexBad s = none) : (pxOf s fx).ts.length ≤ 900000 := by
  have hs := lexBad_sizeP h
  have hl := toks_len s
  show (toks s).length ≤ _
  omega
theorem cellsOf_rows (l : List Tok) : cellsOf l = (rowsT l).flatten := by unfold cellsOf rowsT; rw [List.flatMap_def]
theorem bad_ne {l : List Tok} {t : Tok} (h : firstBad l = some t) : faultOf t ≠ 0 := by
  induction l with
  | nil => cases h
  | cons x r ih =>
    rw [firstBad] at h
    split at h
    · exact ih h
    · cases h; assumption
theorem lexBad_neP {s : ByteArray} {p : Nat} {f : Int} (h : lexBad s = some (p, f)) : f ≠ 0 := by
  unfold lexBad at h
  split at h
  · cases h; omega
  · obtain ⟨t, ht, he⟩ := Option.map_eq_some_iff.1 h
    cases he
    exact bad_ne ht
/-- Lex, with its tokens as a part. -/
theorem lex_own (s : ByteArray) {W w : World} {rs : List Res} (hs : s.size ≤ maxLen) (H : Own W none w rs) : Calls Try.prog 16 #[.string s] w fun e w' => ∃ (A : Option Addr) (n C p : Nat) (f : Int) (S : Nat → Prop) (rows : List (List Value)), e = .returned (.tuple #[.slice A n C, .int .i64 (p : Int), .int .i64 f]) ∧ Own W none w' (.held S A 3 rows :: rs) ∧ (∀ b, (Value.slice A n C).ownBlock = some b → S b) ∧
    (f = 0 ∧ p = 0 ∧ lexBad s = none ∧ n = (toks s).length ∧ rows = rowsT (toks s) ∨ f ≠ 0 ∧ lexBad s = some (p, f)) := by
  refine (lex_any s w hs).mono fun e w' h => ?_
  obtain ⟨hb, h | h⟩ := h
  · obtain ⟨p, f, h1, rfl⟩ := h
    exact ⟨none, 0, 0, p, f, fun _ => False, [], rfl, (H.grow hb).void _ (show ∀ (j : Nat) (cs : List Value), ([] : List (List Value))[j]? = some cs → _ from fun j cs h => by simp at h) (fun _ h => h), (fun b h => by cases h), .inr ⟨lexBad_neP h1, h1⟩⟩
  · obtain ⟨h1, sv, rfl, h2, _⟩ := h
    obtain ⟨A, C, rfl⟩ : ∃ A C, sv = .slice A (toks s).length C := by
      rcases h2.2 with ⟨rfl, h0⟩ | ⟨g, cap, cur, rfl, _⟩
      · exact ⟨none, 0, by rw [h0]⟩
      · exact ⟨_, _, rfl⟩
    have hr : (rowsT (toks s)).length = (toks s).length := by unfold rowsT; rw [List.length_map]
    have hH : Own W none w' (.rws 69 3 (.slice A (toks s).length C) (rowsT (toks s)) :: rs) := by
      refine H.add (.rws 69 3 (.slice A (toks s).length C) (rowsT (toks s))) hb ?_ fun b hbb => ?_
      · show w'.ownsRow 0 69 3 (.slice A (toks s).length C) (rowsT (toks s)).length (rowsT (toks s)).flatten
        rw [hr, ← cellsOf_rows]
        refine ⟨h2.1, ?_⟩
        rcases h2.2 with h | ⟨g, cap, cur, e1, _, e3⟩
        · exact .inl h
        · exact .inr ⟨g, cap, cur, e1, Nat.zero_le _, e3⟩
      · have hbb : (Value.slice A (toks s).length C).ownBlock = some b := hbb
        rcases h2.2 with ⟨e1, _⟩ | ⟨g, cap, cur, e1, e2, e3, _⟩
        · have e2 := congrArg Value.ownBlock e1
          rw [hbb] at e2
          cases e2
        · have e4 := congrArg Value.ownBlock e1
          rw [hbb] at e4
          cases e4
          exact ⟨e2, (Array.getElem?_eq_some_iff.1 e3).1⟩
    exact ⟨A, (toks s).length, C, 0, 0, fun b => (Value.slice A (toks s).length C).ownBlock = some b, _, rfl, hH.toHeld rowsT_len (by decide), (fun b h => h), .inl ⟨rfl, rfl, h1, rfl, rfl⟩⟩
/-! ### What is deferred -/
theorem prun1_idle {u4 u6 u7 : Value} {W w : World} {rs : List Res} (H : Own W none w rs) : CallsD Try.prog 41 #[u6, u7, u4] .returning w fun e m w' => m = .returning ∧ e = .returned (.tuple #[]) ∧ Own W none w' rs := by
  refine callsD_rec (args := [u6, u7, u4]) (v := .nilIface) Try.func41 rfl Try.ntmps41 rfl rfl (.inl ⟨rfl, rfl, rfl⟩) (fun a F => ?_)
  refine wp_block ?_
  refine cSeq (fun K1 hK1 => ?_)
  refine cReg ?_
  refine sBin F rfl rfl rfl rfl (bNilIf Try.underlying20) ?_;clear F a;intro a F
  refine sNil ?_
  refine hK1 _ _ ?_; clear hK1
  refine cIf F rfl (fun h9 => ?_) (fun h9 => ?_)
  ·
   refine cReg ?_
   refine sAs F rfl rfl rfl ?_;clear F a;intro a F
   refine sNil ?_
   first | refine bEnd Try.results41 F ?_ | (simp only [Exit.then, Exit.inBlock, if_true]; (repeat (first | rw [if_pos rfl] | rw [if_neg (by decide)])); refine bEnd Try.results41 F ?_)
   exact ⟨rfl, H⟩
  cases h9
theorem prun1_fault {p e : Nat} {b4 b6 b7 : Nat} {v6 v7 : Value} {W w : World} {rs : List Res} (H : Own W none w (.blk b6 [v6] 3 :: .blk b7 [v7] 34 :: rs)) : CallsD Try.prog 41 #[.pointer (some ⟨b6, 0, none⟩), .pointer (some ⟨b7, 0, none⟩), .pointer (some ⟨b4, 0, none⟩)] (.panicking (flt p e)) w
    fun q m w' => m = .panicking [{ v := .iface 94 (.agg #[.int .i64 (p : Int), .int .i64 (e : Int)]), recovered := true }] ∧ q = .returned (.tuple #[]) ∧ Own W none w' (.blk b6 [.int .i64 (p : Int)] 3 :: .blk b7 [.int .i64 (e : Int)] 34 :: rs) := by
  refine callsD_rec (args := [.pointer (some ⟨b6, 0, none⟩), .pointer (some ⟨b7, 0, none⟩), .pointer (some ⟨b4, 0, none⟩)]) (v := .iface 94 (.agg #[.int .i64 (p : Int), .int .i64 (e : Int)])) Try.func41 rfl Try.ntmps41 rfl rfl (.inr ⟨rfl, rfl⟩) (fun a F => ?_)
  refine wp_block ?_
  refine cSeq (fun K1 hK1 => ?_)
  refine cReg ?_
  refine sBin F rfl rfl rfl rfl (bNoIf Try.underlying20) ?_;clear F a;intro a F
  refine sNil ?_
  refine hK1 _ _ ?_; clear hK1
  refine cIf F rfl (fun h9 => ?_) (fun h9 => ?_)
  ·
   cases h9
  refine cSeq (fun K2 hK2 => ?_)
  refine cReg ?_
  refine sTa Try.underlying94 F rfl rfl rfl ?_;clear F a;intro a F
  refine sExt F rfl rfl rfl rfl ?_;clear F a;intro a F
  refine sExt F rfl rfl rfl rfl ?_;clear F a;intro a F
  refine sNil ?_
  refine hK2 _ _ ?_; clear hK2
  refine cIf F rfl (fun h11 => ?_) (fun h11 => ?_)
  ·
   refine cSeq (fun K3 hK3 => ?_)
   refine cReg ?_
   refine sAl H Try.zeroValue94 F rfl rfl ?_
   clear F a H; intro b4 a w F H
   refine sSr H 0 ?si F rfl rfl rfl ?s1 rfl rfl ?_
   case si => exact info_size Try.sizeOf94
   case s1 => first | rfl | (repeat (first | exact one_nil | (apply one_cons; · first | rfl | assumption | exact one_bif rfl rfl)))
   clear H; intro w H
   refine sNil ?_
   refine hK3 _ _ ?_; clear hK3
   refine cRegRO (by kernel_rfl) (H.sel [0] rfl rfl) ?_
   replace H := H.drew
   refine eTakeF (k := 0) (i := 0) rfl (by kernel_rfl) F rfl rfl rfl (fun w => rFa (f := 0) (k := 0) Try.underlying94 rfl Try.sizeOf3 rfl rfl F rfl) (H.sel [0] rfl rfl) (fun _ _ _ h => h) ?_;clear F a;intro a F
   refine eTake (k := 1) (i := 1) rfl (by kernel_rfl) F rfl rfl rfl rfl (fun w H => rLd Try.isAgg3 F rfl (H.cell 0 rfl rfl)) (H.sel [0] rfl rfl) (fun _ _ _ h => h) ?_;clear F a;intro a F
   refine eTakeF (k := 2) (i := 2) rfl (by kernel_rfl) F rfl rfl rfl (fun w => rFa (f := 1) (k := 1) Try.underlying94 rfl Try.sizeOf34 rfl rfl F rfl) (H.sel [0] rfl rfl) (fun _ _ _ h => h) ?_;clear F a;intro a F
   refine eTake (k := 3) (i := 3) rfl (by kernel_rfl) F rfl rfl rfl rfl (fun w H => rLd Try.isAgg34 F rfl (H.cell 0 rfl rfl)) (H.sel [0] rfl rfl) (fun _ _ _ h => h) ?_;clear F a;intro a F
   refine eOne (k := 4) (i := 4) rfl (by kernel_rfl) F rfl (oSt H 1 Try.sizeOf3 F rfl rfl rfl rfl rfl ?_)
   clear H; intro w H
   refine eKeep (H.sel [0] rfl rfl) ?_
   refine eOne (k := 5) (i := 5) rfl (by kernel_rfl) F rfl (oSt H 2 Try.sizeOf34 F rfl rfl rfl rfl rfl ?_)
   clear H; intro w H
   refine ePartO (by kernel_rfl) H ?_
   refine eNil (k := 6) (by kernel_rfl) ?_
   first | refine bEnd Try.results41 F ?_ | (simp only [Exit.then, Exit.inBlock, if_true]; (repeat (first | rw [if_pos rfl] | rw [if_neg (by decide)])); refine bEnd Try.results41 F ?_)
   exact ⟨rfl, H.tail⟩
  cases h11
end Go.Proofs.Ytbdjlmdejlklkaa
