/-
  WALK2. Package parse: what Parse answers, its cells written out; how they are read. Conditions: none but the source's length.
-/
import Derived.Test.YtbdjlmdejlklkaaPzF
set_option linter.unusedSimpArgs false
set_option linter.unusedVariables false
namespace Go.Proofs.Ytbdjlmdejlklkaa
open Go.RowKit
set_option maxRecDepth 100000
def Cnd.ki : Cnd → UInt8 | .mk k _ _ _ _ => k
def Cnd.th : Cnd → UInt8 | .mk _ t _ _ _ => t
def Cnd.nn : Cnd → UInt8 | .mk _ _ n _ _ => n
def Cnd.va : Cnd → UInt8 | .mk _ _ _ v _ => v
def Cnd.ks : Cnd → List Cnd | .mk _ _ _ _ l => l
def ccells (c : Cnd) (A : Option Addr) (C : Nat) : List Value := [b8 c.ki, b8 c.th, b8 c.nn, b8 c.va, .slice A c.ks.length C]
/-- Where a program lies. -/
structure PgM where
  LA : Option Addr
  LC : Nat
  IA : Option Addr
  IC : Nat
  TA : Option Addr
  TC : Nat
  CA : Option Addr
  CC : Nat
  hr : List (List Value)
  S : Nat → Prop
  h : Nat
def pcells (p : Prg) (m : PgM) : List Value :=
  [.string p.name, .slice m.LA p.locs.length m.LC, .slice m.IA p.init.length m.IC, .slice m.TA p.threads.length m.TC, b8 p.ask, b8 p.cond.ki, b8 p.cond.th, b8 p.cond.nn, b8 p.cond.va, .slice m.CA p.cond.ks.length m.CC]
theorem treeCells {S : Nat → Prop} {w : World} {h : Nat} {cs : List Value} {c : Cnd} (hc : TreeIn S w h cs c) : ∃ A C, cs = ccells c A C := by
  cases h with
  | zero => exact hc.elim
  | succ h =>
    obtain ⟨k, t, n, v, kids⟩ := c
    obtain ⟨A, C, rfl, _⟩ := hc
    exact ⟨A, C, rfl⟩
theorem tree_kid {S : Nat → Prop} {w : World} {h : Nat} {c : Cnd} {A : Option Addr} {C : Nat} (hc : TreeIn S w h (ccells c A C) c) {j : Nat} {kid : Cnd} (hj : c.ks[j]? = some kid) : ∃ b off A' C', A = some ⟨b, off, none⟩ ∧ w.rangeAt b (off + j * 5) (ccells kid A' C') ∧ TreeIn S w (h - 1) (ccells kid A' C') kid := by
  cases h with
  | zero => exact hc.elim
  | succ h =>
    obtain ⟨k, t, n, v, kids⟩ := c
    obtain ⟨A2, C2, he, _, h3⟩ := hc
    have e : A = A2 := by have := congrArg (fun l : List Value => l.getLast?) he; simp [ccells, Cnd.ks] at this; exact this.1
    subst e
    obtain ⟨b, off, cs', h4, _, h6, h7⟩ := h3 j kid hj
    obtain ⟨A', C', rfl⟩ := treeCells h7
    exact ⟨b, off, A', C', h4, h6, h7⟩
theorem kid_kind {S : Nat → Prop} {w : World} {h : Nat} {c : Cnd} {b o C : Nat} (hc : TreeIn S w h (ccells c (some ⟨b, o, none⟩) C) c) {j : Nat} {kid : Cnd} (hj : c.ks[j]? = some kid) : w.cell? ⟨b, o + j * 5, none⟩ = some (b8 kid.ki) := by
  obtain ⟨b', o', _, _, h1, h2, _⟩ := tree_kid hc hj
  cases h1
  exact h2 0 _ rfl
/-- What is known of a program's memory. -/
structure ProgW (p : Prg) (m : PgM) (w : World) : Prop where
  locs : RowsIn m.S w m.LA 1 (strC p.locs)
  init : RowsIn m.S w m.IA 1 (iniC p.init)
  hdr : RowsIn m.S w m.TA 1 m.hr
  thr : ThrIn m.S w m.hr p.threads
  cond : TreeIn m.S w m.h (ccells p.cond m.CA m.CC) p.cond
  capL : p.locs.length ≤ m.LC
  capI : p.init.length ≤ m.IC
  capT : p.threads.length ≤ m.TC
theorem ProgW.loc {p : Prg} {m : PgM} {w w' : World} (hs : ∀ b, m.S b → w'.heap[b]? = w.heap[b]?) (h : ProgW p m w) : ProgW p m w' :=
  ⟨h.locs.loc hs (fun _ h => h), h.init.loc hs (fun _ h => h), h.hdr.loc hs (fun _ h => h), h.thr.loc hs (fun _ h => h), h.cond.loc hs (fun _ h => h), h.capL, h.capI, h.capT⟩
def Res.prw (p : Prg) (m : PgM) : Res := ⟨m.S, ProgW p m, fun _ _ hb hp => hp.loc hb⟩
theorem Own.prw {W w : World} {rs : List Res} (H : Own W Option.none w rs) (i : Nat) {p : Prg} {m : PgM} (hi : rs[i]? = some (.prw p m)) : ProgW p m w := H.pred i _ hi
section
variable {p : Prg} {m : PgM} {w : World}
theorem RowsIn.at1 {S : Nat → Prop} {b o j : Nat} {v : Value} {rows : List (List Value)} (h : RowsIn S w (some ⟨b, o, none⟩) 1 rows) (hj : rows[j]? = some [v]) : w.cell? ⟨b, o + j * 1, none⟩ = some v := by
  obtain ⟨b', o', h1, _, h3⟩ := h j _ hj
  cases h1
  exact h3 0 v rfl
theorem RowsIn.row {S : Nat → Prop} {b o j sz : Nat} {cs : List Value} {rows : List (List Value)} (h : RowsIn S w (some ⟨b, o, none⟩) sz rows) (hj : rows[j]? = some cs) : w.rangeAt b (o + j * sz) cs := by
  obtain ⟨b', o', h1, _, h3⟩ := h j _ hj
  cases h1
  exact h3
theorem RowsIn.addr {S : Nat → Prop} {A : Option Addr} {j sz : Nat} {cs : List Value} {rows : List (List Value)} (h : RowsIn S w A sz rows) (hj : rows[j]? = some cs) : ∃ b o, A = some ⟨b, o, none⟩ := by
  obtain ⟨b', o', h1, _, _⟩ := h j _ hj
  exact ⟨b', o', h1⟩
theorem strC_at {l : List ByteArray} {j : Nat} {x : ByteArray} (h : l[j]? = some x) : (strC l)[j]? = some [.string x] := by unfold strC; rw [List.getElem?_map, h]; rfl
theorem iniC_at {l : List UInt8} {j : Nat} {x : UInt8} (h : l[j]? = some x) : (iniC l)[j]? = some [b8 x] := by unfold iniC; rw [List.getElem?_map, h]; rfl
theorem insC_at {l : List Ins} {j : Nat} {x : Ins} (h : l[j]? = some x) : (insC l)[j]? = some x.cells := by unfold insC; rw [List.getElem?_map, h]; rfl
theorem ThrIn.hd {S : Nat → Prop} {hr : List (List Value)} {ths : List (List Ins)} (h : ThrIn S w hr ths) {j : Nat} {l : List Ins} (hj : ths[j]? = some l) : ∃ A C, hr[j]? = some [.slice A l.length C] := by
  obtain ⟨A, C, h1, _⟩ := h j l hj
  exact ⟨A, C, h1⟩
theorem ThrIn.rows {S : Nat → Prop} {hr : List (List Value)} {ths : List (List Ins)} (h : ThrIn S w hr ths) {j : Nat} {l : List Ins} (hj : ths[j]? = some l) {A : Option Addr} {n C : Nat} (hA : hr[j]? = some [.slice A n C]) : RowsIn S w A 10 (insC l) := by
  obtain ⟨A', C', h1, h2⟩ := h j l hj
  rw [hA] at h1
  cases h1
  exact h2
end
theorem pparse2_any {W w0 : World} {rs : List Res} (s : ByteArray) (hs : s.size ≤ maxLen) (H : Own W none w0 rs) :
    Calls Try.prog 11 #[.string s] w0 fun e w' => ∃ (p : Prg) (pl : Nat) (er : Int) (m : PgM), e = .returned (.tuple #[.agg (pcells p m).toArray, .int .i64 (pl : Int), .int .i64 er]) ∧ m.h ≤ 2000000 ∧ Own W none w' (.prw p m :: rs) ∧ ParsedAs zPrg (parseT s) p pl er := by
  refine (pparse_any s hs H).mono fun e w' hq => ?_
  obtain ⟨p, pl, er, x1, x2, x3, x4, x5, x6, x7, x8, x9, x10, S, h, rfl, hh, _, H, hp⟩ := hq
  obtain ⟨LA, LC, IA, IC, TA, TC, hrows, ccs, h1, h2, h3, h4, h5, h6, h7, h8, h9⟩ : ProgS S h [x1, x2, x3, x4, x5, x6, x7, x8, x9, x10] p w' := H.pred 0 _ rfl
  obtain ⟨CA, CC, rfl⟩ := treeCells h6
  let m : PgM := ⟨LA, LC, IA, IC, TA, TC, CA, CC, hrows, S, h⟩
  have e : [x1, x2, x3, x4, x5, x6, x7, x8, x9, x10] = pcells p m := h1
  exact ⟨p, pl, er, m, by rw [← e], hh, H.seen (.prw p m) ⟨h2, h3, h4, h5, h6, h7, h8, h9⟩ (fun _ hb => hb), hp⟩
theorem pparse_in {s : ByteArray} {p q : Prg} {pl : Nat} {er : Int} (h : ParsedAs zPrg (parseT s) p pl er) (hq : parseT s = .inr q) : p = q ∧ pl = 0 ∧ er = 0 := by
  rcases h with ⟨h1, _⟩ | ⟨h1, h2, h3⟩
  · rw [hq] at h1; cases h1
  · rw [hq] at h1; cases h1; exact ⟨rfl, h2, h3⟩
theorem pparse_out {s : ByteArray} {p : Prg} {pl : Nat} {er : Int} {pf : Nat × Int} (h : ParsedAs zPrg (parseT s) p pl er) (hq : parseT s = .inl pf) : p = zPrg ∧ pl = pf.1 ∧ er = pf.2 ∧ er ≠ 0 := by
  rcases h with ⟨h1, h2, h3⟩ | ⟨h1, _⟩
  · rw [hq] at h1; cases h1; exact ⟨h3, rfl, rfl, h2⟩
  · rw [hq] at h1; cases h1
end Go.Proofs.Ytbdjlmdejlklkaa
