/-
  WALK2. Package parse: Parse. Conditions: none but the source's length.
-/
import Derived.Test.YtbdjlmdejlklkaaPzD
set_option linter.unusedSimpArgs false
set_option linter.unusedVariables false
namespace Go.Proofs.Ytbdjlmdejlklkaa
open Go.RowKit
set_option maxRecDepth 100000
/-- What a source is parsed to: an error's place and number, or a program. -/
def parseT (s : ByteArray) : (Nat × Int) ⊕ Prg := RunR s (progP (pxOf s false))
/-- An answer beside what it is: the zero value at an error. -/
def ParsedAs {α : Type} (z : α) (r : (Nat × Int) ⊕ α) (p : α) (pl : Nat) (er : Int) : Prop := r = .inl (pl, er) ∧ er ≠ 0 ∧ p = z ∨ r = .inr p ∧ pl = 0 ∧ er = 0
theorem runPost_of {α : Type} {W w' : World} {rs : List Res} {G : α → List Res → Prop} {e : Ending} {r : (Nat × Int) ⊕ α} (h : RunPost W rs G e w' r) (hne : ∀ pf, r = .inl pf → pf.2 ≠ 0) :
    ∃ (pl : Nat) (er : Int), e = .returned (.tuple #[.int .i64 (pl : Int), .int .i64 er]) ∧ (er ≠ 0 ∧ r = .inl (pl, er) ∧ Own W none w' rs ∨ er = 0 ∧ pl = 0 ∧ ∃ v qs, r = .inr v ∧ G v qs ∧ Own W none w' qs) := by
  cases r with
  | inl pf => exact ⟨pf.1, pf.2, h.1, .inl ⟨hne pf rfl, rfl, h.2⟩⟩
  | inr v => obtain ⟨h1, qs, h2, h3⟩ := h; exact ⟨0, 0, h1, .inr ⟨rfl, rfl, v, qs, rfl, h2, h3⟩⟩
theorem runR_ne {α : Type} {s : ByteArray} {R : Rs α} (h : ∀ p e, R = .no p e → e ≠ 0) : ∀ pf, RunR s R = .inl pf → pf.2 ≠ 0 := fun pf hp => by
  unfold RunR at hp
  split at hp
  next q hq => cases hp; exact lexBad_neP (p := pf.1) (f := pf.2) hq
  next =>
    split at hp
    · cases hp
    next p e =>
      cases hp
      have := h _ _ rfl
      show (e : Int) ≠ 0
      omega
def ProgG (bw br : Nat) (rs : List Res) (p : Prg) (qs : List Res) : Prop := ∃ (S' : Nat → Prop) (h : Nat) (x1 x2 x3 x4 x5 x6 x7 x8 x9 x10 : Value), h ≤ 2000000 ∧ [x1, x2, x3, x4, x5, x6, x7, x8, x9, x10].all (fun x => x.oneCell') = true ∧
  qs = .blk bw [x1, x2, x3, x4, x5, x6, x7, x8, x9, x10] 33 :: .blk br zPC 33 :: .prog S' h [x1, x2, x3, x4, x5, x6, x7, x8, x9, x10] p :: rs
theorem parse_read {W : World} {rs : List Res} (s : ByteArray) (bw br : Nat) (hl : lexBad s = none) : ReadOk W (.blk bw zPC 33 :: .blk br zPC 33 :: rs) (pxOf s false) [] none 0 (.func (.func 21) #[] #[.pointer (some ⟨bw, 0, none⟩)]) (progP (pxOf s false)) (ProgG bw br rs) := by
  intro A C bp S w b6 b7 H
  refine ⟨_, [], [.pointer (some ⟨bw, 0, none⟩)], rfl, Try.call21, (pparse1_any (px_ok false hl) (px_few false hl) rfl H).mono fun e w' h => h.imp id fun v t _ hk => ?_⟩
  obtain ⟨rfl, S', h, x1, x2, x3, x4, x5, x6, x7, x8, x9, x10, hh, hx, H⟩ := hk
  exact ⟨rfl, _, ⟨S', h, x1, x2, x3, x4, x5, x6, x7, x8, x9, x10, hh, hx, rfl⟩, H.selT 5 [0, 1, 2, 4, 3] rfl rfl⟩
theorem pparse_any {W w0 : World} {rs : List Res} (s : ByteArray) (hs : s.size ≤ maxLen) (H : Own W none w0 rs) :
    Calls Try.prog 11 #[.string s] w0 fun e w' => ∃ (p : Prg) (pl : Nat) (er : Int) (x1 x2 x3 x4 x5 x6 x7 x8 x9 x10 : Value) (S : Nat → Prop) (h : Nat), e = .returned (.tuple #[.agg #[x1, x2, x3, x4, x5, x6, x7, x8, x9, x10], .int .i64 (pl : Int), .int .i64 er]) ∧ h ≤ 2000000 ∧ [x1, x2, x3, x4, x5, x6, x7, x8, x9, x10].all (fun x => x.oneCell') = true ∧
      Own W none w' (.prog S h [x1, x2, x3, x4, x5, x6, x7, x8, x9, x10] p :: rs) ∧ ParsedAs zPrg (parseT s) p pl er := by
  refine enterF Try.func11 rfl Try.ntmps11 rfl (fun a F => ?_)
  refine cSeq (fun K1 hK1 => ?_)
  refine cReg ?_
  refine sAl H Try.zeroValue33 F rfl rfl ?_
  clear F a H; intro b2 a w F H
  refine sAs F rfl rfl rfl ?_;clear F a;intro a F
  refine sAs F rfl rfl rfl ?_;clear F a;intro a F
  refine sNil ?_
  refine hK1 _ _ ?_; clear hK1
  refine cSeq (fun K2 hK2 => ?_)
  refine cReg ?_
  refine sAl H Try.zeroValue33 F rfl rfl ?_
  clear F a H; intro b5 a w F H
  refine sNil ?_
  refine hK2 _ _ ?_; clear hK2
  refine cSeq (fun K3 hK3 => ?_)
  refine cReg ?_
  refine sMv F rfl rfl rfl ?_;clear F a;intro a F
  refine sBd (places := [(0, 3), (3, 1), (4, 1), (5, 10), (15, 1), (16, 1)]) Try.zeroValue59 Try.underlying59 (by kernel_rfl) F rfl rfl rfl rfl ?_;clear F a;intro a F
  refine sFn F rfl rfl rfl rfl ?_;clear F a;intro a F
  refine sCall Try.call20 F rfl rfl rfl (prun_any s hs false [] none 0 _ (progP (pxOf s false)) (ProgG b5 b2 rs) (parse_read s b5 b2) H) ?_
  rintro e w hq
  obtain ⟨pl, er, rfl, hx⟩ := runPost_of hq (runR_ne fun _ _ => prog_ne)
  refine ⟨_, rfl, ?_⟩
  clear F a; intro a F
  refine sMv F rfl rfl rfl ?_;clear F a;intro a F
  refine sExt F rfl rfl rfl rfl ?_;clear F a;intro a F
  refine sExt F rfl rfl rfl rfl ?_;clear F a;intro a F
  refine sAs F rfl rfl rfl ?_;clear F a;intro a F
  refine sAs F rfl rfl rfl ?_;clear F a;intro a F
  refine sNil ?_
  refine hK3 _ _ ?_; clear hK3
  refine cSeq (fun K4 hK4 => ?_)
  refine cSeq (fun K5 hK5 => ?_)
  refine cReg ?_
  refine sMv F rfl rfl rfl ?_;clear F a;intro a F
  refine sBin F rfl rfl rfl rfl bNeq ?_;clear F a;intro a F
  refine sNil ?_
  refine hK5 _ _ ?_; clear hK5
  refine cIf F rfl (fun h14 => ?_) (fun h14 => ?_)
  ·
   replace h14 := bneT h14
   obtain ⟨_, hr, H⟩ : er ≠ 0 ∧ RunR s (progP (pxOf s false)) = .inl (pl, er) ∧ Own W none w (.blk b5 zPC 33 :: .blk b2 zPC 33 :: rs) := by
     rcases hx with hx | ⟨h, _⟩
     · exact hx
     · exact absurd h h14
   refine cSeq (fun K6 hK6 => ?_)
   refine cReg ?_
   refine sBd (places := [(0, 1), (1, 1), (2, 1), (3, 1), (4, 1), (5, 5)]) Try.zeroValue33 Try.underlying33 (by kernel_rfl) F rfl rfl rfl rfl ?_;clear F a;intro a F
   refine sMv F rfl rfl rfl ?_;clear F a;intro a F
   refine sMv F rfl rfl rfl ?_;clear F a;intro a F
   refine sSr H 1 ?si F rfl rfl rfl ?s1 rfl rfl ?_
   case si => exact info_size Try.sizeOf33
   case s1 => first | rfl | (repeat (first | exact one_nil | (apply one_cons; · first | rfl | assumption | exact one_bif rfl rfl)))
   clear H; intro w H
   refine sAs F rfl rfl rfl ?_;clear F a;intro a F
   refine sAs F rfl rfl rfl ?_;clear F a;intro a F
   refine sNil ?_
   refine hK6 _ _ ?_; clear hK6
   refine wp_ret ?_
   simp only [Exit.then]
   refine bRetC2 Try.results11 F rfl rfl rfl Try.underlying33 rfl H 1 rfl Try.sizeOf33 rfl ?_
   first
   | exact ⟨zPrg, pl, er, _, _, _, _, _, _, _, _, _, _, _, 1, rfl, by decide, rfl, own_zprog H.tail.tail, .inl ⟨hr, h14, rfl⟩⟩
   | exact ⟨v, 0, 0, _, _, _, _, _, _, _, _, _, _, S9, h9, rfl, hh9, hx9, H.tail.tail, .inr ⟨hr, rfl, rfl⟩⟩
  replace h14 := bneF h14
  obtain ⟨rfl, rfl, v, qs, hr, ⟨S9, h9, x1, x2, x3, x4, x5, x6, x7, x8, x9, x10, hh9, hx9, rfl⟩, H⟩ : er = 0 ∧ pl = 0 ∧ ∃ v qs, RunR s (progP (pxOf s false)) = .inr v ∧ ProgG b5 b2 rs v qs ∧ Own W none w qs := by
    rcases hx with ⟨h, _⟩ | hx
    · exact absurd h14 h
    · exact hx
  obtain ⟨o1, o2, o3, o4, o5, o6, o7, o8, o9, o10⟩ := ten_all hx9
  refine wp_skip ?_
  refine hK4 _ _ ?_; clear hK4
  refine cSeq (fun K7 hK7 => ?_)
  refine cReg ?_
  refine sLr Try.underlying33 rfl ?si F rfl rfl rfl (H.whole 0 rfl) ?_
  case si => exact info_size Try.sizeOf33
  clear F a; intro a F
  refine sSr H 1 ?si F rfl rfl rfl ?s1 rfl rfl ?_
  case si => exact info_size Try.sizeOf33
  case s1 => first | rfl | (repeat (first | exact one_nil | (apply one_cons; · first | rfl | assumption | exact one_bif rfl rfl)))
  clear H; intro w H
  refine sAs F rfl rfl rfl ?_;clear F a;intro a F
  refine sAs F rfl rfl rfl ?_;clear F a;intro a F
  refine sNil ?_
  refine hK7 _ _ ?_; clear hK7
  refine wp_ret ?_
  refine bRetC2 Try.results11 F rfl rfl rfl Try.underlying33 rfl H 1 rfl Try.sizeOf33 rfl ?_
  first
  | exact ⟨zPrg, pl, er, _, _, _, _, _, _, _, _, _, _, _, 1, rfl, by decide, rfl, own_zprog H.tail.tail, .inl ⟨hr, h14, rfl⟩⟩
  | exact ⟨v, 0, 0, _, _, _, _, _, _, _, _, _, _, S9, h9, rfl, hh9, hx9, H.tail.tail, .inr ⟨hr, rfl, rfl⟩⟩
end Go.Proofs.Ytbdjlmdejlklkaa
