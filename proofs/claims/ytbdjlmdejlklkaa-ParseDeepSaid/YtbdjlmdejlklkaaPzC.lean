/-
  WALK2. Package parse: run. Conditions: what the reading function needs lies in memory.
-/
import Derived.Test.YtbdjlmdejlklkaaPzB
set_option linter.unusedSimpArgs false
set_option linter.unusedVariables false
namespace Go.Proofs.Ytbdjlmdejlklkaa
open Go.RowKit
set_option maxRecDepth 100000
/-- The rest of a parser's cells, at its start. -/
def zX : List Value := [.string ⟨#[]⟩, .slice none 0 0, .slice none 0 0, .slice none 0 0, b8 0, b8 0, b8 0, b8 0, b8 0, .slice none 0 0, .int .i64 (0 : Int), .int .i64 (0 : Int)]
/-- A parser's cells as run takes them. -/
def parserV (fx : Bool) (B : Option Addr) (n D : Nat) : List Value := .slice none 0 0 :: .int .i64 (0 : Int) :: .int .i64 (0 : Int) :: .slice B n D :: .bool fx :: zX
/-- What a reading function does: it answers by R; G says what it leaves in memory. -/
def ReadOk {α : Type} (W : World) (rs : List Res) (c : PX) (names : List ByteArray) (B : Option Addr) (D : Nat) (f : Value) (R : Rs α) (G : α → List Res → Prop) : Prop :=
  ∀ {A : Option Addr} {C bp : Nat} {S : Nat → Prop} {w : World} {b6 b7 : Nat}, Own W none w (.blk bp (parC c A C ⟨0, names⟩ B D zX) 59 :: .held S A 3 (rowsT c.ts) :: .blk b6 [.int .i64 (0 : Int)] 3 :: .blk b7 [.int .i64 (0 : Int)] 34 :: rs) →
    CallsF Try.prog f [.pointer (some ⟨bp, 0, none⟩)] w (fun e w' => Ans W (.blk b6 [.int .i64 (0 : Int)] 3 :: .blk b7 [.int .i64 (0 : Int)] 34 :: rs) R (fun v _ e w' => e = .returned (.tuple #[]) ∧ ∃ qs, G v qs ∧ Own W none w' (.blk b6 [.int .i64 (0 : Int)] 3 :: .blk b7 [.int .i64 (0 : Int)] 34 :: qs)) e w')
/-- The answer: a value, or an error's place and number. -/
def RunR {α : Type} (s : ByteArray) (R : Rs α) : (Nat × Int) ⊕ α := match lexBad s with
  | some pf => .inl pf
  | none => match R with
    | .ok v _ => .inr v
    | .no p e => .inl (p, (e : Int))
def RunPost {α : Type} (W : World) (rs : List Res) (G : α → List Res → Prop) (e : Ending) (w' : World) : (Nat × Int) ⊕ α → Prop
  | .inl pf => e = .returned (.tuple #[.int .i64 (pf.1 : Int), .int .i64 pf.2]) ∧ Own W none w' rs
  | .inr v => e = .returned (.tuple #[.int .i64 (0 : Int), .int .i64 (0 : Int)]) ∧ ∃ qs, G v qs ∧ Own W none w' qs
theorem runR_bad {α : Type} {s : ByteArray} {R : Rs α} {p : Nat} {f : Int} (h : lexBad s = some (p, f)) : RunR s R = .inl (p, f) := by unfold RunR; rw [h]
theorem runR_no {α : Type} {s : ByteArray} {R : Rs α} {p e : Nat} (h : lexBad s = none) (hr : R = .no p e) : RunR s R = .inl (p, (e : Int)) := by unfold RunR; rw [h, hr]
theorem runR_ok {α : Type} {s : ByteArray} {R : Rs α} {v : α} {t : PS} (h : lexBad s = none) (hr : R = .ok v t) : RunR s R = .inr v := by unfold RunR; rw [h, hr]
set_option maxHeartbeats 4000000 in
theorem prun_any {α : Type} {W w0 : World} {rs : List Res} (s : ByteArray) (hs : s.size ≤ maxLen) (fx : Bool) (names : List ByteArray) (B : Option Addr) (D : Nat) (f : Value) (R : Rs α) (G : α → List Res → Prop)
    (hread : lexBad s = none → ReadOk W rs (pxOf s fx) names B D f R G) (H : Own W none w0 rs) :
    Calls Try.prog 20 #[.string s, .agg (parserV fx B names.length D).toArray, f] w0 fun e w' => RunPost W rs G e w' (RunR s R) := by
  refine enterD Try.func20 rfl Try.ntmps20 rfl (fun a F => ?_)
  refine cSeq (fun K1 hK1 => ?_)
  refine cReg ?_
  refine sBx H F rfl rfl rfl ?_
  clear F a H; intro b4 a w F H
  refine sAl H Try.zeroValue3 F rfl rfl ?_
  clear F a H; intro b6 a w F H
  refine sAl H Try.zeroValue34 F rfl rfl ?_
  clear F a H; intro b7 a w F H
  refine sNil ?_
  refine hK1 _ _ ?_; clear hK1
  refine cSeq (fun K2 hK2 => ?_)
  refine cReg ?_
  refine sMv F rfl rfl rfl ?_;clear F a;intro a F
  refine sCall Try.call16 F rfl rfl rfl (lex_own s hs H) ?_
  rintro e w ⟨A, n, C, p, er, S, rows, rfl, H, hl⟩
  refine ⟨_, rfl, ?_⟩
  clear F a; intro a F
  refine sMv F rfl rfl rfl ?_;clear F a;intro a F
  refine sExt F rfl rfl rfl rfl ?_;clear F a;intro a F
  refine sExt F rfl rfl rfl rfl ?_;clear F a;intro a F
  refine sExt F rfl rfl rfl rfl ?_;clear F a;intro a F
  refine sAs F rfl rfl rfl ?_;clear F a;intro a F
  refine sSt H 2 Try.sizeOf3 F rfl rfl rfl rfl rfl rfl ?_
  clear H; intro w H
  refine sSt H 1 Try.sizeOf34 F rfl rfl rfl rfl rfl rfl ?_
  clear H; intro w H
  refine sNil ?_
  refine hK2 _ _ ?_; clear hK2
  refine cSeq (fun K3 hK3 => ?_)
  refine cSeq (fun K4 hK4 => ?_)
  refine cReg ?_
  refine sLd Try.isAgg34 F rfl rfl rfl (H.cell 1 rfl rfl) ?_;clear F a;intro a F
  refine sBin F rfl rfl rfl rfl bNeq ?_;clear F a;intro a F
  refine sNil ?_
  refine hK4 _ _ ?_; clear hK4
  refine cIf F rfl (fun h16 => ?_) (fun h16 => ?_)
  ·
   replace h16 := bneT h16
   obtain hlb : lexBad s = some (p, er) := by
     rcases hl with ⟨h, _⟩ | ⟨_, h⟩
     · exact absurd h h16
     · exact h
   refine cSeq (fun K5 hK5 => ?_)
   refine regN ?_
   refine cRegRO (by kernel_rfl) H ?_
   replace H := H.drew
   refine eTake (k := 0) (i := 0) rfl (by kernel_rfl) F rfl rfl rfl rfl (fun w H => rLd Try.isAgg3 F rfl (H.cell 2 rfl rfl)) H (fun _ _ _ h => h) ?_;clear F a;intro a F
   refine eTake (k := 1) (i := 1) rfl (by kernel_rfl) F rfl rfl rfl rfl (fun w H => rLd Try.isAgg34 F rfl (H.cell 1 rfl rfl)) H (fun _ _ _ h => h) ?_;clear F a;intro a F
   refine eOne (k := 2) (i := 2) rfl (by kernel_rfl) F rfl (oSt H 2 Try.sizeOf3 F rfl rfl rfl rfl rfl ?_)
   clear H; intro w H
   refine eKeep H ?_
   refine eOne (k := 3) (i := 3) rfl (by kernel_rfl) F rfl (oSt H 1 Try.sizeOf34 F rfl rfl rfl rfl rfl ?_)
   clear H; intro w H
   refine ePartO (by kernel_rfl) H ?_
   refine eNil (k := 4) (by kernel_rfl) ?_
   refine hK5 _ _ ?_; clear hK5
   refine wp_ret ?_
   simp only [Exit.then]
   refine postD (bodyPost_ret (results_two Try.results20 (F.get 6 _ rfl) (F.get 7 _ rfl) Try.isAgg3 Try.isAgg34 (H.cell 2 rfl rfl) (H.cell 1 rfl rfl)) F.nod ?_)
   rw [runR_bad hlb]; exact ⟨rfl, H.tail.tail.tail.tail⟩
  replace h16 := bneF h16
  obtain ⟨rfl, rfl, hlb, rfl, rfl⟩ : er = 0 ∧ p = 0 ∧ lexBad s = none ∧ n = (toks s).length ∧ rows = rowsT (toks s) := by
       rcases hl with h | ⟨h, _⟩
       · exact h
       · exact absurd h16 h
  refine wp_skip ?_
  refine hK3 _ _ ?_; clear hK3
  refine cSeq (fun K6 hK6 => ?_)
  refine cReg ?_
  refine sMv F rfl rfl rfl ?_;clear F a;intro a F
  refine sMv F rfl rfl rfl ?_;clear F a;intro a F
  refine sLenS Try.underlying9 F rfl rfl rfl ?_;clear F a;intro a F
  refine sBd (places := [(0, 1), (1, 1), (2, 1)]) Try.zeroValue57 Try.underlying57 (by kernel_rfl) F rfl rfl rfl rfl ?_;clear F a;intro a F
  refine sFa (f := 0) (k := 0) Try.underlying59 rfl Try.sizeOf57 rfl rfl F rfl rfl rfl ?_;clear F a;intro a F
  refine sSr H 3 ?si F rfl rfl rfl ?s1 rfl rfl ?_
  case si => exact info_size Try.sizeOf57
  case s1 => first | rfl | (repeat (first | exact one_nil | (apply one_cons; · first | rfl | assumption | exact one_bif rfl rfl)))
  clear H; intro w H
  refine sNil ?_
  refine hK6 _ _ ?_; clear hK6
  refine cSeq (fun K7 hK7 => ?_)
  refine cReg ?_
  refine sFn F rfl rfl rfl rfl ?_;clear F a;intro a F
  refine sDef F rfl rfl ?_;clear F a;intro a F
  refine sNil ?_
  refine hK7 _ _ ?_; clear hK7
  refine cSeq (fun K8 hK8 => ?_)
  refine cReg ?_
  refine dMv F rfl rfl rfl ?_;clear F a;intro a F
  refine dCallVP F rfl rfl rfl rfl (hread hlb (H.selT 4 [3, 0, 2, 1] rfl rfl)) ?_
  rintro e w hq9
  rcases hq9.cases with ⟨p9, e9, hn9, rfl, H⟩ | ⟨v9, t9, hr9, rfl, qs, hG, H⟩
  · refine .inl ⟨_, rfl, ?_⟩
    show Leaves _ _ a.tmps _ a.defers (.panicking (flt p9 e9)) w
    rw [F.dfr]
    refine leaves_cons (f := 41) (by intro h; cases h) (Try.call41 _ _) ?_
    refine (prun1_fault H).mono ?_
    rintro q m w ⟨rfl, rfl, H⟩
    refine ⟨_, results_two Try.results20 (F.get 6 _ rfl) (F.get 7 _ rfl) Try.isAgg3 Try.isAgg34 (H.cell 0 rfl rfl) (H.cell 1 rfl rfl), ?_⟩
    rw [runR_no hlb hn9]
    exact ⟨rfl, H.tail.tail⟩
  refine .inr ⟨_, rfl, ?_⟩
  clear F a; intro a F
  refine sNil ?_
  refine hK8 _ _ ?_; clear hK8
  refine cSeq (fun K9 hK9 => ?_)
  refine cReg ?_
  refine dSt H 0 Try.sizeOf3 F rfl rfl rfl rfl rfl rfl ?_
  clear H; intro w H
  refine dSt H 1 Try.sizeOf34 F rfl rfl rfl rfl rfl rfl ?_
  clear H; intro w H
  refine sNil ?_
  refine hK9 _ _ ?_; clear hK9
  refine wp_ret ?_
  show Leaves _ _ a.tmps _ a.defers .returning w
  rw [F.dfr]
  refine leaves_cons (f := 41) (by intro h; cases h) (Try.call41 _ _) ?_
  refine (prun1_idle H).mono ?_
  rintro q m w ⟨rfl, rfl, H⟩
  refine ⟨_, results_two Try.results20 (F.get 6 _ rfl) (F.get 7 _ rfl) Try.isAgg3 Try.isAgg34 (H.cell 0 rfl rfl) (H.cell 1 rfl rfl), ?_⟩
  rw [runR_ok hlb hr9]
  exact ⟨rfl, qs, hG, H.tail.tail⟩
end Go.Proofs.Ytbdjlmdejlklkaa
