/-
  A range over a function whose iterator keeps state in memory: a law for the caller, by footprints (lists of blocks). Conditions: those of the law.
-/
import Derived.Test.YtckpkgnnbnfoeaaBase
import Derived.RangeFuncNested
import Derived.RangeFuncBound
import Derived.RangeFuncCalls
import Derived.RangeFuncLeaves
import Derived.Shelf.Abstract
import Derived.Shelf.RegionOpen
import Derived.OwnWalkIn
import Derived.TacticsInMore
import Derived.LoopNIn
import Derived.LoopIn
namespace Go.Proofs.Ytckpkgnnbnfoeaa
open Go.RowKit Go.Shelf

/-- Of what was there, only blocks in fp have changed. -/
structure Frm (fp : List Nat) (w w' : World) : Prop where
  os : w'.os = w.os
  tape : w'.tape = w.tape
  output : w'.output = w.output
  size : w.heap.size ≤ w'.heap.size
  block : ∀ b, b < w.heap.size → b ∉ fp → w'.heap[b]? = w.heap[b]?

theorem Frm.refl (fp : List Nat) (w : World) : Frm fp w w := ⟨rfl, rfl, rfl, Nat.le_refl _, fun _ _ _ => rfl⟩
theorem Frm.mono {fp fp' : List Nat} {w w' : World} (h : Frm fp w w') (hs : ∀ b ∈ fp, b ∈ fp' ∨ w.heap.size ≤ b) : Frm fp' w w' :=
  ⟨h.os, h.tape, h.output, h.size, fun b hb hn => h.block b hb fun hm => by rcases hs b hm with h1 | h1; exact hn h1; omega⟩
theorem Frm.trans {fp : List Nat} {a b c : World} (h : Frm fp a b) (k : Frm fp b c) : Frm fp a c :=
  ⟨k.os.trans h.os, k.tape.trans h.tape, k.output.trans h.output, Nat.le_trans h.size k.size, fun i hi hn => (k.block i (Nat.lt_of_lt_of_le hi h.size) hn).trans (h.block i hi hn)⟩
theorem Frm.trans_new {fp fq : List Nat} {a b c : World} (h : Frm fp a b) (k : Frm fq b c) (hq : ∀ x ∈ fq, x ∈ fp ∨ a.heap.size ≤ x) : Frm fp a c :=
  ⟨k.os.trans h.os, k.tape.trans h.tape, k.output.trans h.output, Nat.le_trans h.size k.size, fun i hi hn => (k.block i (Nat.lt_of_lt_of_le hi h.size) (fun hm => by rcases hq i hm with h1 | h1; exact hn h1; omega)).trans (h.block i hi hn)⟩
theorem Frm.of_grown {w w' : World} {row : Option Nat} (h : w.grownBy w' row) (fp : List Nat) (hr : ∀ k, row = some k → k ∈ fp) : Frm fp w w' :=
  ⟨h.os, h.tape, h.output, h.size, fun b hb hn => h.block b hb fun e => hn (hr b e.symm)⟩
theorem Frm.of_below {w w' : World} (h : Below w.heap.size w w') (fp : List Nat) : Frm fp w w' := ⟨h.os, h.tape, h.output, h.size, fun b hb _ => h.block b hb⟩
theorem Frm.below {w w' : World} {B : Nat} {fp : List Nat} (h : Frm fp w w') (hB : B ≤ w.heap.size) (hf : ∀ b ∈ fp, B ≤ b) : Below B w w' :=
  ⟨h.os, h.tape, h.output, h.size, fun b hb => h.block b (by omega) fun hm => by have := hf b hm; omega⟩
theorem Frm.drewN {fp : List Nat} {a w : World} (h : Frm fp a w) (n : Nat) : Frm fp a (w.drewN n) := ⟨h.os, h.tape, h.output, h.size, h.block⟩
theorem Frm.drew {fp : List Nat} {a w : World} (h : Frm fp a w) : Frm fp a w.drew := ⟨h.os, h.tape, h.output, h.size, h.block⟩
theorem Frm.alloc {fp : List Nat} {a w : World} (h : Frm fp a w) (o : Obj) : Frm fp a (w.alloc o) :=
  ⟨h.os, h.tape, h.output, Nat.le_trans h.size (by simp), fun i hi hne => (Below.heap_alloc w o i (Nat.lt_of_lt_of_le hi h.size)).trans (h.block i hi hne)⟩
theorem Frm.setCell {fp : List Nat} {a w : World} (h : Frm fp a w) {p : Addr} (hp : p.block ∈ fp ∨ a.heap.size ≤ p.block) (u : Value) : Frm fp a (w.setCell p u) :=
  ⟨h.os, h.tape, h.output, by simpa [World.setCell] using h.size, fun i hi hne => (Below.heap_setCell w p u i (by
    rintro rfl
    rcases hp with hp | hp
    · exact hne hp
    · omega)).trans (h.block i hi hne)⟩
theorem Frm.putObj {fp : List Nat} {a w : World} (h : Frm fp a w) {r : Nat} (hp : r ∈ fp ∨ a.heap.size ≤ r) (o : Obj) : Frm fp a (w.putObj r o) :=
  ⟨h.os, h.tape, h.output, by simpa using h.size, fun i hi hne => (World.putObj_heap_other (by
    rintro rfl
    rcases hp with hp | hp
    · exact hne hp
    · omega)).trans (h.block i hi hne)⟩
theorem Blk.frm {w w' : World} {b : Nat} {cs : List Value} {t : TypeId} {fp : List Nat} (h : Blk w b cs t) (hf : Frm fp w w') (hn : b ∉ fp) : Blk w' b cs t :=
  (hf.block b h.lt hn).trans h

theorem wide_fn (f : FuncId) : Fence.wide.fn f = True := rfl
theorem wide_depth : Fence.wide.depth = none := rfl
theorem wide_fn_in (l : Nat) (f : FuncId) : (Fence.wide.inRound l).fn f = True := rfl
theorem wide_depth_in (l : Nat) : (Fence.wide.inRound l).depth = none := rfl

section
variable {α : Type}
/-- What a caller's facts owe: they hang on the blocks of their footprint alone, which are there. -/
structure Local (J : List α → List Nat → World → Prop) : Prop where
  stable : ∀ pre fp W W', J pre fp W → W.heap.size ≤ W'.heap.size → (∀ b ∈ fp, W'.heap[b]? = W.heap[b]?) → J pre fp W'
  lt : ∀ pre fp W, J pre fp W → ∀ b ∈ fp, b < W.heap.size

/-- The contract of an iterator: it yields 'all' in order, unless a round says no more; it leans on the blocks in own, and writes only those in wr. -/
def SeqFp (n : Nat) (P : Program) (gf : Nat) (lb : Array Value) (encs : α → Array Value) (all : List α) (own wr : List Nat) (w0 : World) : Prop :=
  ∀ (l : Nat) (J Jx : List α → List Nat → World → Prop) (W : World) (fp : List Nat), Frm [] w0 W → Local J → Local Jx →
    (∀ pre x W1 fp1, J pre fp1 W1 → pre ++ [x] <+: all → YieldAt Fence.wide (n - 1) P l (encs x) W1 fun e W' => ∃ fp', Frm fp1 W1 W' ∧ (∀ b ∈ fp', b ∈ fp1 ∨ W1.heap.size ≤ b) ∧
      ((e = .returned (.bool true) ∧ J (pre ++ [x]) fp' W') ∨ (e = .returned (.bool false) ∧ Jx (pre ++ [x]) fp' W'))) →
    J [] fp W → (∀ b ∈ own, b ∉ fp) →
    CallsIn Fence.wide n P gf (#[.func (.yield l) #[] #[]] ++ lb) W fun e W' => (∃ v, e = .returned v) ∧ Frm (wr ++ fp) W W' ∧ ∃ fp', (J all fp' W' ∨ ∃ pre, pre <+: all ∧ Jx pre fp' W')

/-- How the body of a round may be left. -/
def fpPost (I : List α → List Nat → World → Prop) (Ix : Code → List α → List Nat → World → Prop) (xs : List α) (fp : List Nat) (W W2 : World) : Exit → Act → World → Prop
  | .normal, _, W3 => Frm fp W2 W3 ∧ ∃ fp', (∀ b ∈ fp', b ∈ fp ∨ W.heap.size ≤ b) ∧ I xs fp' W3
  | .ret, _, W3 => Frm fp W2 W3 ∧ ∃ fp', (∀ b ∈ fp', b ∈ fp ∨ W.heap.size ≤ b) ∧ Ix .ret xs fp' W3
  | .exit id, _, W3 => Frm fp W2 W3 ∧ ∃ fp', (∀ b ∈ fp', b ∈ fp ∨ W.heap.size ≤ b) ∧ Ix (.exit id) xs fp' W3
  | .goto t, _, W3 => Frm fp W2 W3 ∧ ∃ fp', (∀ b ∈ fp', b ∈ fp ∨ W.heap.size ≤ b) ∧ Ix (.goto t) xs fp' W3
  | .panic _, _, _ => False
  | .outgrown, _, _ => False

theorem wpIn_rangeFunc_fp {P : Program} {n : Nat} {g : Operand} {ps : Array Tmp} {assign body : Code} {Q : Exit → Act → World → Prop} {a : Act} {w : World}
    {gf : Nat} {lb : Array Value} (hg : a.eval g = .func (.func gf) #[] lb) (eg : ∀ args w, (callFunc gf args).run P w = .ok (.enter gf args) w)
    {encs : α → Array Value} {all : List α} {own wr : List Nat} (hseq : SeqFp (n - 1) P gf lb encs all own wr w) (hps : ∀ x, (encs x).size = ps.size)
    (I : List α → List Nat → World → Prop) (Ix : Code → List α → List Nat → World → Prop) (hI : Local I) (hIx : ∀ c, Local (Ix c)) (fp0 : List Nat) (h0 : I [] fp0 w) (hown : ∀ b ∈ own, b ∉ fp0 ∧ b < w.heap.size)
    (Ax : α → World → Act → World → Prop)
    (hassign : ∀ (l : Nat) (x : α) (W : World) (K : Act → World → Prop), (∀ a₁ W₁, Ax x W a₁ W₁ → K a₁ W₁) →
      assign.wpIn (Fence.wide.inRound l) (n - 1 - 1) P (Exit.then K (fun _ _ _ => False)) { tmps := (ps.zip (encs x)).foldl (fun t (p, v) => t.setIfInBounds p v) a.tmps, defers := [] } W)
    (hAx : ∀ x W a₁ W₁, Ax x W a₁ W₁ → Frm [] W W₁)
    (hbody : ∀ (l : Nat) (pre : List α) (x : α) (W W₁ W₂ : World) (a₁ : Act) (fp : List Nat), I pre fp W → pre ++ [x] <+: all → Ax x W a₁ W₁ → Frm [l] W₁ W₂ → W₂.heap.size = W₁.heap.size → l ∉ fp → l < W.heap.size →
      body.wpIn (Fence.wide.inRound l) (n - 1 - 1) P (fpPost I Ix (pre ++ [x]) fp W W₂) a₁ W₂)
    (hdone : ∀ (D : Nat) (fp : List Nat) (W : World), I all fp W → W.heap[D]? = some (.deferred (some [])) → Frm (wr ++ fp0) w W → w.heap.size ≤ D → D ∉ fp → Q .normal { a with defers := { target := .collected D, args := #[] } :: a.defers } W)
    (hstop : ∀ (D : Nat) (c : Code) (pre : List α) (fp : List Nat) (W : World), pre <+: all → Ix c pre fp W → W.heap[D]? = some (.deferred (some [])) → Frm (wr ++ fp0) w W → w.heap.size ≤ D → D ∉ fp →
      c.wpIn Fence.wide n P Q { a with defers := { target := .collected D, args := #[] } :: a.defers } W) :
    (Code.rangeFunc g ps assign body).wpIn Fence.wide n P Q a w := by
  refine wpIn_rangeFunc ?_
  intro fn hfn
  rw [show Fence.wide.round = none from rfl]
  obtain ⟨rec, hrec⟩ : ∃ rec : LoopState → Option Code → Loop, rec = fun st pe => { state := st, pending := pe, fn, tmps := a.tmps, params := ps, assign, body, defers := w.heap.size } := ⟨_, rfl⟩
  obtain ⟨W1, hW1⟩ : ∃ W1, (w.alloc (.deferred (some []))).alloc (.loop (rec .ready none)) = W1 := ⟨_, rfl⟩
  obtain ⟨D, hD⟩ : ∃ D, D = w.heap.size := ⟨_, rfl⟩
  obtain ⟨L, hL⟩ : ∃ L, L = w.heap.size + 1 := ⟨_, rfl⟩
  have hL1 : W1.heap[L]? = some (.loop (rec .ready none)) := by
    rw [← hW1, hL]; have := World.alloc_heap_new (w.alloc (.deferred (some []))) (.loop (rec .ready none)); rwa [World.size_alloc] at this
  have hK1 : W1.heap[D]? = some (.deferred (some [])) := by
    rw [← hW1, hD]; exact (Below.heap_alloc _ _ _ (by simp)).trans (World.alloc_heap_new w _)
  have hf1 : Frm [] w W1 := by rw [← hW1]; exact ((Frm.refl _ _).alloc _).alloc _
  have hlt0 := hI.lt _ _ _ h0
  have hI1 : I [] fp0 W1 := hI.stable _ _ _ _ h0 hf1.size fun b hb => hf1.block b (hlt0 b hb) (by simp)
  refine ⟨w.heap.size + 1, [{ target := .collected w.heap.size, args := #[] }], W1, { target := .fn (.func gf) lb, args := #[.func (.yield (w.heap.size + 1)) #[] #[]] }, W1, gf,
    #[.func (.yield (w.heap.size + 1)) #[] #[]] ++ lb, W1, ?_, ?_, ?_, ?_, fun h => by simp [Fence.wide] at h, ?_⟩
  · rw [← hW1, hrec]; exact run_enterLoop_outer _ _ _ _ _
  · simp only [resolve, hg]
    simp [go_sem]
  · intro f' hf'; trivial
  · simp [invoke, go_sem, eg]
  · rw [← hL, ← hD]
    -- the caller's facts with the two of book-keeping
    have hloc : ∀ (K : List α → List Nat → World → Prop) (st : LoopState) (pe : Option Code), Local K →
        Local (fun pre fp W => ∃ fq, fp = L :: D :: fq ∧ L ∉ fq ∧ D ∉ fq ∧ K pre fq W ∧ W.heap[L]? = some (.loop (rec st pe)) ∧ W.heap[D]? = some (.deferred (some []))) := by
      intro K st pe hK
      refine ⟨?_, ?_⟩
      · rintro pre fp W W' ⟨fq, rfl, h1, h2, h3, h4, h5⟩ hz hag
        exact ⟨fq, rfl, h1, h2, hK.stable _ _ _ _ h3 hz (fun b hb => hag b (by simp [hb])), (hag L (by simp)).trans h4, (hag D (by simp)).trans h5⟩
      · rintro pre fp W ⟨fq, rfl, h1, h2, h3, h4, h5⟩ b hb
        simp only [List.mem_cons] at hb
        rcases hb with rfl | rfl | hb
        · exact (Array.getElem?_eq_some_iff.1 h4).1
        · exact (Array.getElem?_eq_some_iff.1 h5).1
        · exact hK.lt _ _ _ h3 b hb
    have hLf : L ∉ fp0 := fun h => by have := hlt0 _ h; omega
    have hDf : D ∉ fp0 := fun h => by have := hlt0 _ h; omega
    refine (hseq L
      (fun pre fp W => ∃ fq, fp = L :: D :: fq ∧ L ∉ fq ∧ D ∉ fq ∧ I pre fq W ∧ W.heap[L]? = some (.loop (rec .ready none)) ∧ W.heap[D]? = some (.deferred (some [])))
      (fun pre fp W => ∃ c fq, fp = L :: D :: fq ∧ L ∉ fq ∧ D ∉ fq ∧ Ix c pre fq W ∧ W.heap[L]? = some (.loop (rec .done (some c))) ∧ W.heap[D]? = some (.deferred (some [])))
      W1 (L :: D :: fp0) hf1 (hloc I _ _ hI) ?_ ?_ ⟨fp0, rfl, hLf, hDf, hI1, hL1, hK1⟩ ?_).mono ?_
    · refine ⟨?_, ?_⟩
      · rintro pre fp W W' ⟨c, h⟩ hz hag
        exact ⟨c, (hloc (Ix c) .done (some c) (hIx c)).stable pre fp W W' h hz hag⟩
      · rintro pre fp W ⟨c, h⟩ b hb
        exact (hloc (Ix c) .done (some c) (hIx c)).lt pre fp W h b hb
    · -- one round
      rintro pre x W fp1 ⟨fq, rfl, hLq, hDq, hi, hl, hk⟩ hpx
      have hlt : L < W.heap.size := (Array.getElem?_eq_some_iff.1 hl).1
      have hltD : D < W.heap.size := (Array.getElem?_eq_some_iff.1 hk).1
      have hDL : D ≠ L := by omega
      have hy := run_yield (P := P) (args := encs x) hl (by rw [hrec]; exact hps x)
      rw [hrec] at hy
      refine ⟨fn, _, assign, body, hy, roundIn_of_wpIn hfn (hassign _ x W _ fun a₁ W₁ hax => ?_)⟩
      have hf := hAx _ _ _ _ hax
      have hl1 : W₁.heap[L]? = some (.loop (rec .ready none)) := (hf.block L hlt (by simp)).trans hl
      have hk1 : W₁.heap[D]? = some (.deferred (some [])) := (hf.block D hltD (by simp)).trans hk
      have hlt1 : L < W₁.heap.size := (Array.getElem?_eq_some_iff.1 hl1).1
      refine ⟨_, run_beginRound hl1 (by rw [hrec]), ?_⟩
      have hl2 : (W₁.putObj L (.loop { rec .ready none with state := .busy })).heap[L]? = some (.loop { rec .ready none with state := .busy }) := World.putObj_heap_same hlt1
      have hk2 : (W₁.putObj L (.loop { rec .ready none with state := .busy })).heap[D]? = some (.deferred (some [])) := (World.putObj_heap_other hDL).trans hk1
      have hf2 : Frm [L] W₁ (W₁.putObj L (.loop { rec .ready none with state := .busy })) := (Frm.refl _ _).putObj (.inl (by simp)) _
      refine wpIn_mono (hbody _ pre x W W₁ _ a₁ fq hi hpx hax hf2 (by simp) hLq hlt) ?_
      have hlt2 : L < (W₁.putObj L (.loop { rec .ready none with state := .busy })).heap.size := by simpa using hlt1
      have hltD2 : D < (W₁.putObj L (.loop { rec .ready none with state := .busy })).heap.size := by have := hf.size; simp; omega
      have fin : ∀ (jump : Option Code) (W3 : World), Frm fq (W₁.putObj L (.loop { rec .ready none with state := .busy })) W3 →
          (Instr.endRound L jump).run P W3 = .ok (.bool jump.isNone) (W3.putObj L (.loop (rec (if jump.isNone then .ready else .done) jump))) ∧
          (W3.putObj L (.loop (rec (if jump.isNone then .ready else .done) jump))).heap[L]? = some (.loop (rec (if jump.isNone then .ready else .done) jump)) ∧
          (W3.putObj L (.loop (rec (if jump.isNone then .ready else .done) jump))).heap[D]? = some (.deferred (some [])) ∧ L < W3.heap.size ∧
          Frm (L :: D :: fq) W (W3.putObj L (.loop (rec (if jump.isNone then .ready else .done) jump))) := fun jump W3 hk3 => by
        have hl3 := (hk3.block L hlt2 hLq).trans hl2
        have := run_endRound (P := P) jump hl3
        have hlt3 := (Array.getElem?_eq_some_iff.1 hl3).1
        rw [hrec] at this ⊢
        refine ⟨this, World.putObj_heap_same hlt3, (World.putObj_heap_other hDL).trans ((hk3.block D hltD2 hDq).trans hk2), hlt3, ?_⟩
        refine Frm.putObj ?_ (.inl (by simp)) _
        refine ((hf.mono (by simp)).trans (Frm.putObj (Frm.refl _ _) (.inl (by simp)) _)).trans (hk3.mono (fun b hb => .inl (by simp [hb])))
      have put : ∀ (K : List α → List Nat → World → Prop), Local K → ∀ (xs : List α) (fp' : List Nat) (W3 : World) (o : Obj), K xs fp' W3 → L ∉ fp' → K xs fp' (W3.putObj L o) := fun K hK xs fp' W3 o h hn =>
        hK.stable _ _ _ _ h (by simp) (fun b hb => World.putObj_heap_other (fun e => hn (e ▸ hb)))
      have hnot : ∀ fp' : List Nat, (∀ b ∈ fp', b ∈ fq ∨ W.heap.size ≤ b) → L ∉ fp' ∧ D ∉ fp' := fun fp' h =>
        ⟨fun hm => by rcases h _ hm with h1 | h1; exact hLq h1; omega, fun hm => by rcases h _ hm with h1 | h1; exact hDq h1; omega⟩
      have hin : ∀ fp' : List Nat, (∀ b ∈ fp', b ∈ fq ∨ W.heap.size ≤ b) → ∀ b ∈ L :: D :: fp', b ∈ L :: D :: fq ∨ W.heap.size ≤ b := fun fp' h b hb => by
        simp only [List.mem_cons] at hb ⊢
        rcases hb with rfl | rfl | hb
        · simp
        · simp
        · rcases h b hb with h1 | h1
          · simp [h1]
          · exact .inr h1
      rintro e a3 W3 hp
      cases e with
      | normal =>
        obtain ⟨hk3, fp', hfp, hi3⟩ := hp
        obtain ⟨hr, hl4, hk4, _, hfr⟩ := fin none W3 hk3
        obtain ⟨n1, n2⟩ := hnot _ hfp
        exact ⟨_, _, hr, L :: D :: fp', hfr, hin _ hfp, .inl ⟨rfl, fp', rfl, n1, n2, put I hI _ _ _ _ hi3 n1, hl4, hk4⟩⟩
      | ret =>
        obtain ⟨hk3, fp', hfp, hi3⟩ := hp
        obtain ⟨hr, hl4, hk4, _, hfr⟩ := fin (some .ret) W3 hk3
        obtain ⟨n1, n2⟩ := hnot _ hfp
        exact ⟨_, _, hr, L :: D :: fp', hfr, hin _ hfp, .inr ⟨rfl, .ret, fp', rfl, n1, n2, put _ (hIx _) _ _ _ _ hi3 n1, hl4, hk4⟩⟩
      | exit id =>
        obtain ⟨hk3, fp', hfp, hi3⟩ := hp
        obtain ⟨hr, hl4, hk4, _, hfr⟩ := fin (some (.exit id)) W3 hk3
        obtain ⟨n1, n2⟩ := hnot _ hfp
        exact ⟨_, _, hr, L :: D :: fp', hfr, hin _ hfp, .inr ⟨rfl, .exit id, fp', rfl, n1, n2, put _ (hIx _) _ _ _ _ hi3 n1, hl4, hk4⟩⟩
      | goto t =>
        obtain ⟨hk3, fp', hfp, hi3⟩ := hp
        obtain ⟨hr, hl4, hk4, _, hfr⟩ := fin (some (.goto t)) W3 hk3
        obtain ⟨n1, n2⟩ := hnot _ hfp
        exact ⟨_, _, hr, L :: D :: fp', hfr, hin _ hfp, .inr ⟨rfl, .goto t, fp', rfl, n1, n2, put _ (hIx _) _ _ _ _ hi3 n1, hl4, hk4⟩⟩
      | panic ch => exact hp.elim
      | outgrown => exact hp.elim
    · intro b hb
      obtain ⟨h1, h2⟩ := hown b hb
      simp only [List.mem_cons, not_or]
      exact ⟨by omega, by omega, h1⟩
    · -- behind the iterator
      have hall : ∀ W2 : World, Frm (wr ++ (L :: D :: fp0)) W1 W2 → Frm (wr ++ fp0) w W2 := fun W2 hfr =>
        ⟨hfr.os.trans hf1.os, hfr.tape.trans hf1.tape, hfr.output.trans hf1.output, Nat.le_trans hf1.size hfr.size, fun b hb hn => by
          simp only [List.mem_append, not_or] at hn
          refine (hfr.block b (by have := hf1.size; omega) ?_).trans (hf1.block b hb (by simp))
          simp only [List.mem_append, List.mem_cons, not_or]
          exact ⟨hn.1, by omega, by omega, hn.2⟩⟩
      rintro e W2 ⟨⟨v, rfl⟩, hfr, fp', (⟨fq, rfl, hLq, hDq, hi, hl, hk⟩ | ⟨pre, hpre, c, fq, rfl, hLq, hDq, hi, hl, hk⟩)⟩
      · refine ⟨none, _, by have := run_endLoop (P := P) hl (by rw [hrec]; simp); rw [hrec] at this; exact this, ?_⟩
        rw [hD] at hk hDq ⊢
        refine hdone _ fq _ (hI.stable _ _ _ _ hi (by simp) (fun b hb => World.putObj_heap_other (fun e => hLq (e ▸ hb)))) ((World.putObj_heap_other (by omega)).trans hk) ?_ (Nat.le_refl _) hDq
        exact (hall _ hfr).putObj (.inr (by omega)) _
      · refine ⟨some c, _, by have := run_endLoop (P := P) hl (by rw [hrec]; simp); rw [hrec] at this; exact this, ?_⟩
        rw [hD] at hk hDq ⊢
        exact hstop _ c pre fq _ hpre ((hIx c).stable _ _ _ _ hi (by simp) (fun b hb => World.putObj_heap_other (fun e => hLq (e ▸ hb)))) ((World.putObj_heap_other (by omega)).trans hk) ((hall _ hfr).putObj (.inr (by omega)) _) (Nat.le_refl _) hDq
end
end Go.Proofs.Ytckpkgnnbnfoeaa
