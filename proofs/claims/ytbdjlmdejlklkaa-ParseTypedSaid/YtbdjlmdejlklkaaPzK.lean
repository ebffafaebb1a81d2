/-
  WALK2. Chapter 05: what ParseTyped needs: sizes of a parsed program, begins, a typed source is parsed alike. Conditions: none.
-/
import Derived.Test.YtbdjlmdejlklkaaPzI
import Derived.Test.YtbdjlmdejlklkaaKtF
import Derived.Test.YtbdjlmdejlklkaaBackP
set_option linter.unusedSimpArgs false
set_option linter.unusedVariables false
namespace Go.Proofs.Ytbdjlmdejlklkaa
open Go.RowKit
set_option maxRecDepth 100000
/-! ### A program's name -/
section
variable {c : PX}
theorem Rs.All.any {α : Type} {r : Rs α} : r.All fun _ _ => True := fun _ _ _ => trivial
theorem init_name : ∀ (f : Nat) (q : QL) (s : PS), (initL c f q s).All fun v _ => v.name = q.name
  | 0, q, s => .no
  | f + 1, q, s => by
    unfold initL
    cases idxOf (c.word s.pos) s.names 0 with
    | some _ => exact .no
    | none =>
      refine Rs.All.any.bind fun _ s1 _ _ => Rs.All.any.bind fun _ s2 _ _ => Rs.All.any.bind fun v s3 _ _ => ?_
      exact .ite (fun _ => .ok rfl) (fun _ => (init_name f _ s3).imp fun q' t h => h)
theorem line_name (q : QL) (s : PS) : (lineL c q s).All fun v _ => v.name = q.name ∨ ∃ i, v.name = c.word i := by
  have hask : ∀ k, (askL c k q s).All fun v _ => v.name = q.name ∨ ∃ i, v.name = c.word i := fun k => by
    unfold askL failP
    exact .ite (fun _ => Rs.All.any.bind fun _ _ _ _ => .ok (.inl rfl)) (fun _ => .no)
  unfold lineL
  refine .ite (fun _ => ?_) (fun _ => .ite (fun _ => .ite (fun _ => (init_name _ q _).imp fun _ _ h => .inl h) (fun _ => .no)) (fun _ => .ite (fun _ => ?_) (fun _ => .ite (fun _ => hask 1) (fun _ => .ite (fun _ => hask 2) (fun _ => .ite (fun _ => hask 3) (fun _ => ?_))))))
  · unfold testL failP
    exact .ite (fun _ => .ite (fun _ => .no) (fun _ => .ok (.inr ⟨_, rfl⟩))) (fun _ => .no)
  · unfold threadL failP
    exact .ite (fun _ => .ite (fun _ => .no) (fun _ => .ok (.inl rfl))) (fun _ => .no)
  · unfold addL failP
    exact .ite (fun _ => .ite (fun _ => .ite (fun _ => .no) (fun _ => Rs.All.any.bind fun _ _ _ _ => .ok (.inl rfl))) (fun _ => .no)) (fun _ => .no)
theorem lines_name : ∀ (f : Nat) (q : QL) (s : PS), (linesL c f q s).All fun v _ => v.name = q.name ∨ ∃ i, v.name = c.word i
  | 0, q, s => .no
  | f + 1, q, s => by
    unfold linesL
    refine .ite (fun _ => .ok (.inl rfl)) (fun _ => (line_name q s).bind fun q' t _ h1 => Rs.All.any.bind fun _ u _ _ => (lines_name f q' u).imp fun v _ h2 => ?_)
    rcases h2 with h2 | h2
    · rw [h2]; exact h1
    · exact .inr h2
theorem prog_name {p : Prg} {t : PS} (h : progP c = .ok p t) : p.name = ByteArray.empty ∨ ∃ i, p.name = c.word i := by
  have : (progP c).All fun p _ => p.name = ByteArray.empty ∨ ∃ i, p.name = c.word i := by
    unfold progP failP
    exact (lines_name _ _ _).bind fun q s _ hq => .ite (fun _ => .no) (fun _ => .ite (fun _ => .no) (fun _ => .ok hq))
  exact this p t h
end
/-- A program's sizes. -/
structure PSz (p : Prg) : Prop where
  name : p.name.size ≤ maxLen
  locs : p.locs.length ≤ 1000
  locsS : ∀ s ∈ p.locs, s.size ≤ maxLen
  init : p.init.length ≤ 1000
  thr : p.threads.length ≤ 1000
  ins : ∀ t ∈ p.threads, t.length ≤ 1000
theorem psz_zero : PSz zPrg := ⟨by decide, by decide, fun s h => absurd h List.not_mem_nil, by decide, by decide, fun s h => absurd h List.not_mem_nil⟩
theorem psz_of {s : ByteArray} {p : Prg} (h : parseT s = .inr p) : PSz p := by
  obtain ⟨hl, t, ht⟩ := runR_inr h
  have fit := progP_fit ht
  refine ⟨?_, by have := fit.nm.few; omega, fun x hx => by have := name_size (fit.nm.ok x hx); unfold maxLen; omega, by have := fit.ini; have := fit.nm.few; omega, by have := fit.thr; omega, fun l hl => by have := (fit.ins l hl).1; omega⟩
  rcases prog_name ht with h | ⟨i, h⟩
  · rw [h]; decide
  · rw [h]
    unfold PX.word
    split
    · unfold PX.text
      split
      next t hi => have := ((px_ok false hl).text i t hi).1; unfold maxLen; omega
      · decide
    · decide
theorem progIn_of {p : Prg} {m : PgM} {w : World} (hw : ProgW p m w) (hz : PSz p) : ProgIn w (pcells p m) p m.LA m.LC m.IA m.IC m.TA m.TC m.h (ccells p.cond m.CA m.CC) where
  cs := rfl
  name := hz.name
  locs := hw.locs.rows
  locsN := by have := hz.locs; omega
  locsC := hw.capL
  locsS := hz.locsS
  init := hw.init.rows
  initN := by have := hz.init; omega
  threads := fun j t hj => by
    obtain ⟨A, C, h1, h2⟩ := hw.thr j t hj
    obtain ⟨b, off, h3, _, h4⟩ := hw.hdr j _ h1
    exact ⟨b, off, A, C, h3, by have := h4 0 _ rfl; rwa [Nat.add_zero] at this, RowsIn.rows h2, by have := hz.ins t (List.mem_of_getElem? hj); omega⟩
  threadsN := by have := hz.thr; omega
  cond := hw.cond.at
theorem progIn_zero (w : World) : ProgIn w zPC zPrg none 0 none 0 none 0 1 [b8 0, b8 0, b8 0, b8 0, .slice none 0 0] :=
  ⟨rfl, by decide, (fun j cs h => by simp [zPrg] at h), by decide, Nat.le_refl _, (fun s h => absurd h List.not_mem_nil), (fun j cs h => by simp [zPrg] at h), by decide, (fun j t h => by simp [zPrg] at h), by decide, ⟨none, 0, rfl, Nat.zero_le _, fun j kid h => by simp at h⟩⟩
theorem sameP_any {w0 : World} {p q : Prg} {cs1 cs2 : List Value} {LA IA TA : Option Addr} {LC IC TC h : Nat} {ccs : List Value} {LA2 IA2 TA2 : Option Addr} {LC2 IC2 TC2 h2 : Nat} {ccs2 : List Value} (hp : ProgIn w0 cs1 p LA LC IA IC TA TC h ccs) (hq : ProgIn w0 cs2 q LA2 LC2 IA2 IC2 TA2 TC2 h2 ccs2) (e : p = q) :
    Calls Try.prog 17 #[.agg cs1.toArray, .agg cs2.toArray] w0 fun e w' => e = .returned (.bool true) ∧ Below w0.heap.size w0 w' := by
  subst e
  exact sameProg_any cs1 cs2 p LA LC IA IC TA TC h ccs LA2 LC2 IA2 IC2 TA2 TC2 h2 ccs2 w0 hp hq
/-! ### A typed source -/
theorem typed_same (s : ByteArray) (fx : Bool) : SameX (pxOf s fx) (pxOf (typed s) fx) := sameX_of (typed_kt s).symm
/-- A typed source is parsed alike: the same program, or the same error, at a token or at the end. -/
theorem typed_parse {s : ByteArray} (hl : lexBad s = none) (hs : s.size ≤ 5000) : (∃ p, parseT s = .inr p ∧ parseT (typed s) = .inr p) ∨
    ∃ pl pl2 er, parseT s = .inl (pl, er) ∧ parseT (typed s) = .inl (pl2, er) ∧ ((∃ (i : Nat) (t : Tok), (toks s)[i]? = some t ∧ t.pos = pl) ∨ pl = s.size) := by
  have hsim := prog_sim (typed_same s false)
  have hl2 := typed_none hs hl
  unfold parseT
  cases h1 : progP (pxOf s false) with
  | ok p t =>
    cases h2 : progP (pxOf (typed s) false) with
    | ok q u =>
      rw [h1, h2] at hsim
      obtain ⟨rfl, rfl⟩ := hsim
      exact .inl ⟨p, runR_ok hl rfl, runR_ok hl2 rfl⟩
    | no a b => rw [h1, h2] at hsim; exact hsim.elim
  | no pl er =>
    cases h2 : progP (pxOf (typed s) false) with
    | ok q u => rw [h1, h2] at hsim; exact hsim.elim
    | no pl2 er2 =>
      rw [h1, h2] at hsim
      obtain ⟨⟨rfl, _⟩, i, hi, _⟩ := hsim
      refine .inr ⟨pl, pl2, er, runR_no hl rfl, runR_no hl2 rfl, ?_⟩
      unfold PX.place at hi
      split at hi
      next t ht => exact .inl ⟨i, t, ht, hi.symm⟩
      · exact .inr hi
/-! ### begins -/
theorem begins_any {W w0 : World} {rs : List Res} (ts : List Tok) (A : Option Addr) (C pl sz : Nat) {S : Nat → Prop} (hn : ts.length ≤ 1000000) (hp : (∃ (i : Nat) (t : Tok), ts[i]? = some t ∧ t.pos = pl) ∨ pl = sz) (H : Own W none w0 (.held S A 3 (rowsT ts) :: rs)) :
    Calls Try.prog 19 #[.slice A ts.length C, .int .i64 (pl : Int), .int .i64 (sz : Int)] w0 fun e w' => e = .returned (.bool true) ∧ Own W none w' (.held S A 3 (rowsT ts) :: rs) := by
  refine enterF Try.func19 rfl Try.ntmps19 rfl (fun a F => ?_)
  refine cSeq (fun K1 hK1 => ?_)
  refine cReg ?_
  refine sAs F rfl rfl rfl ?_;clear F a;intro a F
  refine sNil ?_
  refine hK1 _ _ ?_; clear hK1
  refine cSeq (fun K2 hK2 => ?_)
  refine cSeq (fun K3 hK3 => ?_)
  refine cReg ?_
  refine sAs F rfl rfl rfl ?_;clear F a;intro a F
  refine sNil ?_
  refine hK3 _ _ ?_; clear hK3
  refine wp_block ?_
  refine cLoopR [0, 1, 2] (fun m ups w => ∃ i : Nat, m = ts.length - i ∧ ups = [(7, .int .i64 ((i : Nat) : Int))] ∧ i ≤ ts.length ∧ (∀ (j : Nat) (t : Tok), j < i → ts[j]? = some t → t.pos ≠ pl) ∧ Own W none w (.held S A 3 (rowsT ts) :: rs)) F (ts.length) [(7, .int .i64 ((0 : Nat) : Int))] (by repeat (first | exact SubR.nil | (apply SubR.cons; · rfl))) ?_ ?_ ?_
  · exact ⟨0, rfl, rfl, Nat.zero_le _, (fun j t h => absurd h (Nat.not_lt_zero _)), H⟩
  · repeat (first | exact trivial | refine Le.cons rfl ?_)
  clear F
  clear H
  intro m ups a w hI F
  obtain ⟨i, rfl, rfl, hi, hne, H⟩ := hI
  refine cSeq (fun K4 hK4 => ?_)
  refine cSeq (fun K5 hK5 => ?_)
  refine cReg ?_
  refine sMv F rfl rfl rfl ?_;clear F a;intro a F
  refine sMv F rfl rfl rfl ?_;clear F a;intro a F
  refine sLen Try.underlying48 F rfl rfl rfl ?_;clear F a;intro a F
  refine sBin F rfl rfl rfl rfl bLss ?_;clear F a;intro a F
  refine sNil ?_
  refine hK5 _ _ ?_; clear hK5
  refine cIf F rfl (fun h11 => ?_) (fun h11 => ?_)
  ·
   replace h11 := of_decide_eq_true h11
   obtain ⟨x, hx⟩ : ∃ x, ts[i]? = some x := ⟨_, List.getElem?_eq_getElem (by omega)⟩
   obtain ⟨tb, to, rfl, _⟩ := H.held 0 rfl i _ (rowsT_get hx)
   refine wp_skip ?_
   refine hK4 _ _ ?_; clear hK4
   refine cSeq (fun K6 hK6 => ?_)
   refine wp_block ?_
   refine cSeq (fun K7 hK7 => ?_)
   refine cReg ?_
   refine sMv F rfl rfl rfl ?_;clear F a;intro a F
   refine sMv F rfl rfl rfl ?_;clear F a;intro a F
   refine sIx Try.underlying48 Try.sizeOf69 F rfl rfl rfl rfl ?_ ?_
   focus (first | omega | decide | (simp; omega))
   clear F a; intro a F
   refine sFa (f := 2) Try.underlying69 rfl Try.sizeOf3 rfl rfl F rfl rfl rfl ?_;clear F a;intro a F
   refine sLd Try.isAgg3 F rfl rfl rfl ((heldRow H 0 rfl (rowsT_get hx)) 2 _ rfl) ?_;clear F a;intro a F
   refine sMv F rfl rfl rfl ?_;clear F a;intro a F
   refine sBin F rfl rfl rfl rfl bEql ?_;clear F a;intro a F
   refine sNil ?_
   refine hK7 _ _ ?_; clear hK7
   refine cIf F rfl (fun h20 => ?_) (fun h20 => ?_)
   ·
    replace h20 := beqT h20
    refine cSeq (fun K8 hK8 => ?_)
    refine cReg ?_
    refine sAs F rfl rfl rfl ?_;clear F a;intro a F
    refine sNil ?_
    refine hK8 _ _ ?_; clear hK8
    refine wp_ret ?_
    simp only [Exit.inBlock, Exit.then]
    refine bRet Try.results19 F rfl ?_
    first
    | exact ⟨rfl, H⟩
    | (have he : pl = sz := by
        rcases hp with ⟨j, t, hj, ht⟩ | hp
        · exact absurd ht (hne j t (by rw [hil]; exact (List.getElem?_eq_some_iff.1 hj).1) hj)
        · exact hp
       exact ⟨retB (by rw [he]; exact beq_self_eq_true _), H⟩)
   replace h20 := beqF h20
   have hxp : x.pos ≠ pl := by omega
   refine wp_skip ?_
   refine hK6 _ _ ?_; clear hK6
   refine cReg ?_
   refine sMv F rfl rfl rfl ?_;clear F a;intro a F
   refine sBin F rfl rfl rfl rfl (bAddN (j := 1) ?_) ?_
   focus omega
   clear F a; intro a F
   refine sAs F rfl rfl rfl ?_;clear F a;intro a F
   refine sNil ?_
   exact ⟨_, by omega, _, ⟨i + 1, rfl, rfl, by omega, (fun j t hj ht => by rcases Nat.lt_or_ge j i with h | h; exact hne j t h ht; obtain rfl : j = i := (by omega); rw [hx] at ht; cases ht; exact hxp), H⟩, F.to (by repeat (first | exact trivial | refine Le.cons rfl ?_))⟩
  replace h11 := of_decide_eq_false h11
  have hil : i = ts.length := by omega
  refine wp_exit ?_
  refine hK2 _ _ ?_; clear hK2
  refine cSeq (fun K9 hK9 => ?_)
  refine cReg ?_
  refine sMv F rfl rfl rfl ?_;clear F a;intro a F
  refine sMv F rfl rfl rfl ?_;clear F a;intro a F
  refine sBin F rfl rfl rfl rfl bEql ?_;clear F a;intro a F
  refine sAs F rfl rfl rfl ?_;clear F a;intro a F
  refine sNil ?_
  refine hK9 _ _ ?_; clear hK9
  refine wp_ret ?_
  refine bRet Try.results19 F rfl ?_
  first
  | exact ⟨rfl, H⟩
  | (have he : pl = sz := by
      rcases hp with ⟨j, t, hj, ht⟩ | hp
      · exact absurd ht (hne j t (by rw [hil]; exact (List.getElem?_eq_some_iff.1 hj).1) hj)
      · exact hp
     exact ⟨retB (by rw [he]; exact beq_self_eq_true _), H⟩)
end Go.Proofs.Ytbdjlmdejlklkaa
