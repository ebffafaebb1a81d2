/-
  Small laws that a seat without package check lacks. Conditions: none.
 
  Plain Lean: instructions, and when an instruction and a thread are valid. Nothing of the program. Conditions: none.
 
  Plain Lean: conditions and when one is valid; how one lies in memory. Conditions: none.
 
  slices.Index and slices.Contains of strings. Conditions: the slice holds the strings.
 
  Plain Lean: programs, and how one lies in memory. Conditions: none.
-/
import Derived.Test.YtbdjlmdejlklkaaVcK
set_option linter.unusedSimpArgs false
set_option linter.unusedVariables false
namespace Go.Proofs.Ytbdjlmdejlklkaa
theorem retB {a b : Bool} (h : a = b) : Ending.returned (.bool a) = .returned (.bool b) := by rw [h]
end Go.Proofs.Ytbdjlmdejlklkaa

namespace Go.Proofs.Ytbdjlmdejlklkaa

/-- An instruction's fields. -/
structure Ins where
  op : UInt8
  dst : UInt8
  loc : UInt8
  aR : Bool
  aN : UInt8
  bR : Bool
  bN : UInt8
  fn : UInt8
  mode : UInt8
  skip : UInt8
deriving DecidableEq
def Ins.cells (x : Ins) : List Value := [b8 x.op, b8 x.dst, b8 x.loc, .bool x.aR, b8 x.aN, .bool x.bR, b8 x.bN, b8 x.fn, b8 x.mode, b8 x.skip]
/-- The bits of the fields that an operation needs. -/
def needOf (op : UInt8) : UInt8 := if op = 1 then 35 else if op = 2 then 38 else if op = 3 then 29 else if op = 4 then 7 else if op = 5 then 7 else if op = 6 then 15 else if op = 7 then 32 else if op = 8 then 92 else 0
def hasB (op f : UInt8) : Bool := (needOf op &&& f) != 0
def Ins.needed (x : Ins) : Ins where
  op := x.op
  dst := bif hasB x.op 1 then x.dst else 0
  loc := bif hasB x.op 2 then x.loc else 0
  aR := bif hasB x.op 4 then x.aR else false
  aN := bif hasB x.op 4 then x.aN else 0
  bR := bif hasB x.op 8 then x.bR else false
  bN := bif hasB x.op 8 then x.bN else 0
  fn := bif hasB x.op 16 then x.fn else 0
  mode := bif hasB x.op 32 then x.mode else 0
  skip := bif hasB x.op 64 then x.skip else 0
def argOk (r : Bool) (n : UInt8) : Bool := !r || decide (n < 8)
def modeOk (op mode : UInt8) : Bool := if op = 1 then mode == 0 || mode == 1 else if op = 2 then mode == 0 || mode == 2 else if op = 7 then mode == 3 || mode == 4 || mode == 5 else true
def fnOk (op fn : UInt8) : Bool := if op = 3 then fn == 1 || fn == 2 || fn == 3 else if op = 8 then fn == 4 || fn == 5 || fn == 6 else true
/-- The k-th condition of an instruction's validity. -/
def condK (x : Ins) (locs after : Int) : Nat → Bool
  | 0 => decide (1 ≤ x.op) && decide (x.op ≤ 8)
  | 1 => x == x.needed
  | 2 => decide (x.dst < 8)
  | 3 => !hasB x.op 2 || decide ((x.loc.toNat : Int) < locs)
  | 4 => argOk x.aR x.aN && argOk x.bR x.bN
  | 5 => modeOk x.op x.mode
  | 6 => fnOk x.op x.fn
  | 7 => !hasB x.op 64 || (decide (1 ≤ x.skip) && decide ((x.skip.toNat : Int) ≤ after))
  | _ => true
def insOk (x : Ins) (locs after : Int) : Bool := (List.range 8).all (condK x locs after)
/-- A thread's instructions, from number i of n on. -/
def insesOk (locs : Int) (n : Nat) : Nat → List Ins → Bool
  | _, [] => true
  | i, x :: r => insOk x locs ((n : Int) - 1 - i) && insesOk locs n (i + 1) r
def threadOk (locs : Int) (l : List Ins) : Bool := decide (l.length ≤ 12) && insesOk locs l.length 0 l
end Go.Proofs.Ytbdjlmdejlklkaa

namespace Go.Proofs.Ytbdjlmdejlklkaa
open Go.RowKit

/-- A condition. -/
inductive Cnd where
  | mk (kind thread n val : UInt8) (kids : List Cnd)
def Cnd.kids : Cnd → List Cnd | .mk _ _ _ _ l => l
/-- A condition is valid and its depth is at most d. -/
def condOk (threads locs : Int) : Nat → Cnd → Bool
  | 0, _ => false
  | d + 1, .mk k t n v kids =>
    if k = 0 then (t == 0 && n == 0 && v == 0) && kids.length == 0
    else if k = 1 then decide ((t.toNat : Int) < threads) && decide (n < 8) && kids.length == 0
    else if k = 2 then decide ((n.toNat : Int) < locs) && t == 0 && kids.length == 0
    else if k = 3 ∨ k = 4 then (t == 0 && n == 0 && v == 0) && decide (2 ≤ kids.length) && kids.all (condOk threads locs d)
    else if k = 5 then (t == 0 && n == 0 && v == 0) && kids.length == 1 && kids.all (condOk threads locs d)
    else false
/-- The cells are a condition's, h deep at most. -/
def CondAt (w : World) : Nat → List Value → Cnd → Prop
  | 0, _, _ => False
  | h + 1, cs, .mk k t n v kids => ∃ A C, cs = [b8 k, b8 t, b8 n, b8 v, .slice A kids.length C] ∧ kids.length ≤ 9223372036854775807 ∧
      ∀ j kid, kids[j]? = some kid → ∃ b off cs', A = some ⟨b, off, none⟩ ∧ w.rangeAt b (off + j * 5) cs' ∧ CondAt w h cs' kid
theorem CondAt.grown {w w' : World} {row : Option Nat} (hg : w.grownBy w' row) (hr : row = none) : ∀ (h : Nat) (cs : List Value) (c : Cnd), CondAt w h cs c → CondAt w' h cs c
  | 0, _, _, hc => hc
  | h + 1, cs, .mk k t n v kids, hc => by
    obtain ⟨A, C, h1, h2, h3⟩ := hc
    refine ⟨A, C, h1, h2, fun j kid hj => ?_⟩
    obtain ⟨b, off, cs', h4, h5, h6⟩ := h3 j kid hj
    exact ⟨b, off, cs', h4, fun i u hu => hg.cell (h5 i u hu) (by subst hr; simp), CondAt.grown hg hr h cs' kid h6⟩
theorem condOk_kids {threads locs : Int} {d : Nat} {k t n v : UInt8} {kids : List Cnd} (h : (k = 3 ∨ k = 4) ∧ 2 ≤ kids.length ∨ k = 5 ∧ kids.length = 1) (hb : (t == 0 && n == 0 && v == 0) = true) :
    condOk threads locs (d + 1) (.mk k t n v kids) = kids.all (condOk threads locs d) := by
  rcases h with ⟨rfl | rfl, h⟩ | ⟨rfl, h⟩ <;> simp [condOk, h, hb] <;> simp_all
theorem len_beq0 (n : Nat) : ((n : Int) == 0) = (n == 0) := by rw [Bool.eq_iff_iff]; simp
theorem all_drop {α : Type} (p : α → Bool) {l : List α} {j : Nat} {x : α} (hx : l[j]? = some x) : (l.drop j).all p = (p x && (l.drop (j + 1)).all p) := by
  obtain ⟨hj, rfl⟩ := List.getElem?_eq_some_iff.1 hx
  rw [List.drop_eq_getElem_cons hj]
  rfl
end Go.Proofs.Ytbdjlmdejlklkaa

namespace Go.Proofs.Ytbdjlmdejlklkaa
open Go.RowKit

/-- The strings of a slice. -/
def StrsAt (w : World) (A : Option Addr) (l : List ByteArray) : Prop := RowsAt w A 1 (l.map fun s => [.string s])
theorem StrsAt.get {w : World} {A : Option Addr} {l : List ByteArray} (h : StrsAt w A l) {j : Nat} {s : ByteArray} (hj : l[j]? = some s) : ∃ b off, A = some ⟨b, off, none⟩ ∧ w.cell? ⟨b, off + j * 1, none⟩ = some (.string s) := by
  obtain ⟨b, off, h1, h2⟩ := h j [.string s] (by rw [List.getElem?_map, hj]; rfl)
  exact ⟨b, off, h1, by have := h2 0 _ rfl; rwa [Nat.add_zero] at this⟩
/-- The first place, or none. -/
def idxOf (s : ByteArray) : List ByteArray → Nat → Option Nat
  | [], _ => none
  | x :: r, k => if s.toList == x.toList then some k else idxOf s r (k + 1)
theorem idxOf_at {s x : ByteArray} {l : List ByteArray} {j : Nat} (hx : l[j]? = some x) : idxOf s (l.drop j) j = if s.toList == x.toList then some j else idxOf s (l.drop (j + 1)) (j + 1) := by
  obtain ⟨hj, rfl⟩ := List.getElem?_eq_some_iff.1 hx
  rw [List.drop_eq_getElem_cons hj]
  rfl
def idxI (o : Option Nat) : Int := match o with | some k => k | none => -1
theorem index_any (A : Option Addr) (C : Nat) (l : List ByteArray) (s : ByteArray) (w0 : World) (hA : StrsAt w0 A l) (hl : l.length ≤ 9223372036854775807) :
    Calls Try.prog 83 #[.slice A l.length C, .string s] w0 fun e w' => e = .returned (.int .i64 (idxI (idxOf s l 0))) ∧ Below w0.heap.size w0 w' := by
  have H := Own.start w0 none
  refine enterF Try.func83 rfl Try.ntmps83 rfl (fun a F => ?_)
  refine cSeq (fun K1 hK1 => ?_)
  refine cReg ?_
  refine sAs F rfl rfl rfl ?_;clear F a;intro a F
  refine sNil ?_
  refine hK1 _ _ ?_; clear hK1
  refine cSeq (fun K2 hK2 => ?_)
  refine cSeq (fun K3 hK3 => ?_)
  refine cReg ?_
  refine sMv F rfl rfl rfl ?_;clear F a;intro a F
  refine sLen Try.underlying29 F rfl rfl rfl ?_;clear F a;intro a F
  refine sMv F rfl rfl rfl ?_;clear F a;intro a F
  refine sNil ?_
  refine hK3 _ _ ?_; clear hK3
  refine wp_block ?_
  refine cLoopR [0, 1, 7] (fun m ups w => ∃ j : Nat, m = l.length - j ∧ ups = [(8, .int .i64 (j : Int))] ∧ j ≤ l.length ∧ idxOf s l 0 = idxOf s (l.drop j) j ∧ Own w0 none w []) F (l.length) [(8, .int .i64 ((0 : Nat) : Int))] (by repeat (first | exact SubR.nil | (apply SubR.cons; · rfl))) ?_ ?_ ?_
  · exact ⟨0, rfl, rfl, Nat.zero_le _, rfl, H⟩
  · repeat (first | exact trivial | refine Le.cons rfl ?_)
  clear F
  clear H
  intro m ups a w hI F
  obtain ⟨j, rfl, rfl, hj, ht, H⟩ := hI
  refine cSeq (fun K4 hK4 => ?_)
  refine cReg ?_
  refine sBin F rfl rfl rfl rfl bLss ?_;clear F a;intro a F
  refine sNil ?_
  refine hK4 _ _ ?_; clear hK4
  refine cSeq (fun K5 hK5 => ?_)
  refine cIf F rfl (fun h9 => ?_) (fun h9 => ?_)
  ·
   replace h9 := of_decide_eq_true h9
   have hjl : j < l.length := by omega
   obtain ⟨x, hx⟩ : ∃ x, l[j]? = some x := ⟨_, List.getElem?_eq_getElem hjl⟩
   obtain ⟨b, off, rfl, hc⟩ := hA.get hx
   refine wp_skip ?_
   refine hK5 _ _ ?_; clear hK5
   refine cSeq (fun K6 hK6 => ?_)
   refine wp_block ?_
   refine cSeq (fun K7 hK7 => ?_)
   refine cReg ?_
   refine sMv F rfl rfl rfl ?_;clear F a;intro a F
   refine sAs F rfl rfl rfl ?_;clear F a;intro a F
   refine sNil ?_
   refine hK7 _ _ ?_; clear hK7
   refine cSeq (fun K8 hK8 => ?_)
   refine cReg ?_
   refine sMv F rfl rfl rfl ?_;clear F a;intro a F
   refine sMv F rfl rfl rfl ?_;clear F a;intro a F
   refine sMv F rfl rfl rfl ?_;clear F a;intro a F
   refine sIx Try.underlying29 Try.sizeOf9 F rfl rfl rfl rfl ?_ ?_
   focus (first | omega | decide | (simp; omega))
   clear F a; intro a F
   refine sLd Try.isAgg9 F rfl rfl rfl (H.arg hc) ?_;clear F a;intro a F
   refine sBin F rfl rfl rfl rfl bStrEq ?_;clear F a;intro a F
   refine sNil ?_
   refine hK8 _ _ ?_; clear hK8
   refine cIf F rfl (fun h16 => ?_) (fun h16 => ?_)
   ·
    replace h16 := beqT h16
    refine cSeq (fun K9 hK9 => ?_)
    refine cReg ?_
    refine sMv F rfl rfl rfl ?_;clear F a;intro a F
    refine sAs F rfl rfl rfl ?_;clear F a;intro a F
    refine sNil ?_
    refine hK9 _ _ ?_; clear hK9
    refine wp_ret ?_
    simp only [Exit.inBlock, Exit.then]
    refine bRet Try.results83 F rfl ?_
    first
      | exact ⟨by rw [ht, idxOf_at hx, if_pos (by simpa using h16)]; rfl, H.below⟩
      | exact ⟨by rw [ht, List.drop_eq_nil_of_le (by omega)]; rfl, H.below⟩
   replace h16 := beqF h16
   refine wp_skip ?_
   refine hK6 _ _ ?_; clear hK6
   refine cReg ?_
   refine sBin F rfl rfl rfl rfl (bAddN (j := 1) ?_) ?_
   focus omega
   clear F a; intro a F
   refine sMv F rfl rfl rfl ?_;clear F a;intro a F
   refine sNil ?_
   exact ⟨l.length - (j + 1), by omega, _, ⟨j + 1, rfl, rfl, by omega, by rw [ht, idxOf_at hx, if_neg (by simpa using h16)], H⟩, F.to (by repeat (first | exact trivial | refine Le.cons rfl ?_))⟩
  replace h9 := of_decide_eq_false h9
  refine wp_exit ?_
  refine hK2 _ _ ?_; clear hK2
  refine cSeq (fun K10 hK10 => ?_)
  refine cReg ?_
  refine sAs F rfl rfl rfl ?_;clear F a;intro a F
  refine sNil ?_
  refine hK10 _ _ ?_; clear hK10
  refine wp_ret ?_
  refine bRet Try.results83 F rfl ?_
  first
    | exact ⟨by rw [ht, idxOf_at hx, if_pos (by simpa using h16)]; rfl, H.below⟩
    | exact ⟨by rw [ht, List.drop_eq_nil_of_le (by omega)]; rfl, H.below⟩
theorem contains_any (A : Option Addr) (C : Nat) (l : List ByteArray) (s : ByteArray) (w0 : World) (hA : StrsAt w0 A l) (hl : l.length ≤ 9223372036854775807) :
    Calls Try.prog 70 #[.slice A l.length C, .string s] w0 fun e w' => e = .returned (.bool (idxOf s l 0).isSome) ∧ Below w0.heap.size w0 w' := by
  have H := Own.start w0 none
  refine enterF Try.func70 rfl Try.ntmps70 rfl (fun a F => ?_)
  refine cSeq (fun K1 hK1 => ?_)
  refine cReg ?_
  refine sAs F rfl rfl rfl ?_;clear F a;intro a F
  refine sNil ?_
  refine hK1 _ _ ?_; clear hK1
  refine cSeq (fun K2 hK2 => ?_)
  refine cReg ?_
  refine sMv F rfl rfl rfl ?_;clear F a;intro a F
  refine sMv F rfl rfl rfl ?_;clear F a;intro a F
  refine sCall Try.call83 F rfl rfl rfl (index_any A C l s _ hA hl) ?_
  rintro e w ⟨rfl, hb⟩
  replace H := H.grow hb; clear hb
  refine ⟨_, rfl, ?_⟩
  clear F a; intro a F
  refine sBin F rfl rfl rfl rfl bGeq ?_;clear F a;intro a F
  refine sAs F rfl rfl rfl ?_;clear F a;intro a F
  refine sNil ?_
  refine hK2 _ _ ?_; clear hK2
  refine wp_ret ?_
  refine bRet Try.results70 F rfl ?_
  exact ⟨retB (by cases idxOf s l 0 <;> simp [idxI]), H.below⟩
end Go.Proofs.Ytbdjlmdejlklkaa

namespace Go.Proofs.Ytbdjlmdejlklkaa
open Go.RowKit

/-- A program. -/
structure Prg where
  name : ByteArray
  locs : List ByteArray
  init : List UInt8
  threads : List (List Ins)
  ask : UInt8
  cond : Cnd
/-- The threads of a slice. -/
def ThreadsAt (w : World) (A : Option Addr) (l : List (List Ins)) : Prop := ∀ (j : Nat) (t : List Ins), l[j]? = some t → ∃ b off B C, A = some ⟨b, off, none⟩ ∧ w.cell? ⟨b, off + j * 1, none⟩ = some (.slice B t.length C) ∧ RowsAt w B 10 (t.map Ins.cells) ∧ t.length ≤ 9223372036854775807
/-- The cells are a program's. -/
structure ProgIn (w : World) (cs : List Value) (p : Prg) (LA : Option Addr) (LC : Nat) (IA : Option Addr) (IC : Nat) (TA : Option Addr) (TC h : Nat) (ccs : List Value) : Prop where
  cs : cs = [.string p.name, .slice LA p.locs.length LC, .slice IA p.init.length IC, .slice TA p.threads.length TC, b8 p.ask] ++ ccs
  name : p.name.size ≤ maxLen
  locs : StrsAt w LA p.locs
  locsN : p.locs.length ≤ 9223372036854775807
  locsC : p.locs.length ≤ LC
  locsS : ∀ s ∈ p.locs, s.size ≤ maxLen
  init : RowsAt w IA 1 (p.init.map fun x => [b8 x])
  initN : p.init.length ≤ 9223372036854775807
  threads : ThreadsAt w TA p.threads
  threadsN : p.threads.length ≤ 9223372036854775807
  cond : CondAt w h ccs p.cond
def ProgAt (w : World) (cs : List Value) (p : Prg) : Prop := ∃ LA LC IA IC TA TC h ccs, ProgIn w cs p LA LC IA IC TA TC h ccs
theorem RowsAt.own {w0 w : World} {rs : List Res} {A : Option Addr} {sz : Nat} {rows : List (List Value)} (h : RowsAt w0 A sz rows) (H : Own w0 none w rs) : RowsAt w A sz rows := fun j cs hj => by
  obtain ⟨b, off, h1, h2⟩ := h j cs hj
  exact ⟨b, off, h1, H.argR h2⟩
theorem ThreadsAt.own {w0 w : World} {rs : List Res} {A : Option Addr} {l : List (List Ins)} (h : ThreadsAt w0 A l) (H : Own w0 none w rs) : ThreadsAt w A l := fun j t hj => by
  obtain ⟨b, off, B, C, h1, h2, h3, h4⟩ := h j t hj
  exact ⟨b, off, B, C, h1, H.arg h2, h3.own H, h4⟩
theorem ProgIn.own {w0 w : World} {rs : List Res} {cs : List Value} {p : Prg} {LA IA TA : Option Addr} {LC IC TC h : Nat} {ccs : List Value} (hp : ProgIn w0 cs p LA LC IA IC TA TC h ccs) (H : Own w0 none w rs) : ProgIn w cs p LA LC IA IC TA TC h ccs :=
  ⟨hp.cs, hp.name, RowsAt.own hp.locs H, hp.locsN, hp.locsC, hp.locsS, RowsAt.own hp.init H, hp.initN, hp.threads.own H, hp.threadsN, CondAt.grown H.grown rfl _ _ _ hp.cond⟩
theorem ProgAt.own {w0 w : World} {rs : List Res} {cs : List Value} {p : Prg} (h : ProgAt w0 cs p) (H : Own w0 none w rs) : ProgAt w cs p := by
  obtain ⟨LA, LC, IA, IC, TA, TC, h, ccs, hp⟩ := h
  exact ⟨LA, LC, IA, IC, TA, TC, h, ccs, hp.own H⟩
theorem condAt_len {w : World} : ∀ {h : Nat} {cs : List Value} {c : Cnd}, CondAt w h cs c → cs.length = 5
  | 0, _, _, h => h.elim
  | _ + 1, cs, .mk _ _ _ _ _, h => by obtain ⟨A, C, rfl, _⟩ := h; rfl
theorem len5 : ∀ {l : List Value}, l.length = 5 → ∃ a b c d e, l = [a, b, c, d, e]
  | [a, b, c, d, e], _ => ⟨a, b, c, d, e, rfl⟩
theorem ProgAt.len10 {w : World} {cs : List Value} {p : Prg} (h : ProgAt w cs p) : ∃ d1 d2 d3 d4 d5 d6 d7 d8 d9 d10, cs = [d1, d2, d3, d4, d5, d6, d7, d8, d9, d10] := by
  obtain ⟨LA, LC, IA, IC, TA, TC, h, ccs, hp⟩ := h
  obtain ⟨c1, c2, c3, c4, c5, rfl⟩ := len5 (condAt_len hp.cond)
  have hcs := hp.cs
  subst hcs
  exact ⟨_, _, _, _, _, _, _, _, _, _, rfl⟩
/-- The k-th of a program's demands, but those that read names. -/
def threadsShort (p : Prg) : Bool := decide (1 ≤ p.threads.length) && decide (p.threads.length ≤ 4) && p.threads.all (fun l => decide (l.length ≤ 12))
def threadsOk (p : Prg) : Bool := p.threads.all (threadOk p.locs.length)
def askOk (p : Prg) : Bool := p.ask == 1 || p.ask == 2 || p.ask == 3
end Go.Proofs.Ytbdjlmdejlklkaa
