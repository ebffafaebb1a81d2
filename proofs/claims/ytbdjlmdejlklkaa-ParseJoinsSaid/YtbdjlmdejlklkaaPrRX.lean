/-
  WALK2. Package parse: the line test. Conditions: the parser, its tokens and names lie in memory.
 
  WALK2. Package parse: the line of the query. Conditions: the parser, its tokens and names lie in memory.
 
  WALK2. Package parse: an instruction, by the function that start answers. Conditions: the parser, its tokens and names lie in memory.
-/
import Derived.Test.YtbdjlmdejlklkaaPrN
import Derived.Test.YtbdjlmdejlklkaaPrO
set_option linter.unusedSimpArgs false
set_option linter.unusedVariables false
namespace Go.Proofs.Ytbdjlmdejlklkaa
open Go.RowKit
set_option maxRecDepth 100000
theorem eq_nat {a b : Nat} : (((a : Int) == (b : Int)) = true ↔ a = b) ∧ (((a : Int) == (b : Int)) = false ↔ a ≠ b) := by
  refine ⟨?_, ?_⟩
  · rw [beq_iff_eq]; omega
  · rw [beq_eq_false_iff_ne]; omega
theorem no_text {w : ByteArray} : (!(w.toList == (⟨#[]⟩ : ByteArray).toList)) = !decide (w.toList = []) := by
  rw [show (⟨#[]⟩ : ByteArray).toList = [] from lit_toList []]
  cases w.toList <;> rfl
theorem ptest_any {W w0 : World} {rs : List Res} {c : PX} (hc : c.Ok) {A : Option Addr} {C bp : Nat} {S : Nat → Prop} {s : PS} {B : Option Addr} {D : Nat} (q : QL) {L I T K a1 a2 a3 a4 a5 qy : Value} (hp : s.pos ≤ 999000) (H : Own W none w0 (.blk bp (parC c A C s B D [.string q.name, L, I, T, K, a1, a2, a3, a4, a5, .int .i64 (q.wh : Int), qy]) 59 :: .held S A 3 (rowsT c.ts) :: .nms W c.fixed B D s.names :: rs)) :
    Calls Try.prog 55 #[.pointer (some ⟨bp, 0, none⟩)] w0 fun e w' => Ans W rs (testL c q s) (fun v t e w' => e = .returned (.tuple #[]) ∧ v = { q with name := v.name, wh := v.wh } ∧ Own W none w' (.blk bp (parC c A C t B D [.string v.name, L, I, T, K, a1, a2, a3, a4, a5, .int .i64 (v.wh : Int), qy]) 59 :: .held S A 3 (rowsT c.ts) :: .nms W c.fixed B D t.names :: rs)) e w' := by
  refine enterF Try.func55 rfl Try.ntmps55 rfl (fun a F => ?_)
  refine cSeq (fun K1 hK1 => ?_)
  refine cReg ?_
  refine sMv F rfl rfl rfl ?_;clear F a;intro a F
  refine sMv F rfl rfl rfl ?_;clear F a;intro a F
  refine sNc F rfl rfl rfl ?_;clear F a;intro a F
  refine sFa (f := 4) (k := 15) Try.underlying59 rfl Try.sizeOf3 rfl rfl F rfl rfl rfl ?_;clear F a;intro a F
  refine sLd Try.isAgg3 F rfl rfl rfl (H.cell 0 rfl rfl) ?_;clear F a;intro a F
  refine sBin F rfl rfl rfl rfl bEql ?_;clear F a;intro a F
  refine sCallP Try.call60 F rfl rfl rfl (pneed_any _ hc (s := s) (by (try simp only [PS.next]); omega) H) ?_
  rintro e w hq9
  rcases hq9.cases with ⟨p9, e9, hn8, rfl, H⟩ | ⟨v8, t8, hr8, rfl, H⟩
  ·
   refine .inl ⟨_, rfl, ?_⟩
   exact And.intro F.nod (Ans.no (by obtain ⟨h1, rfl, rfl⟩ := need_no hn8; unfold testL; rw [if_neg ((eq_nat (b := 0)).2.1 h1)]; rfl) H.tail)
  obtain ⟨hk, rfl⟩ := need_ok hr8; have hw : q.wh = 0 := (eq_nat (b := 0)).1.1 hk
  refine .inr ⟨_, rfl, ?_⟩
  clear F a; intro a F
  refine sNil ?_
  refine hK1 _ _ ?_; clear hK1
  refine cSeq (fun K2 hK2 => ?_)
  refine cReg ?_
  refine sMv F rfl rfl rfl ?_;clear F a;intro a F
  refine sNc F rfl rfl rfl ?_;clear F a;intro a F
  refine sFa (f := 0) (k := 0) Try.underlying59 rfl Try.sizeOf57 rfl rfl F rfl rfl rfl ?_;clear F a;intro a F
  refine sCall Try.call48 F rfl rfl rfl (pstep_any hc (by (try simp only [PS.next]); omega) H) ?_
  rintro e w ⟨rfl, H⟩
  refine ⟨_, rfl, ?_⟩
  clear F a; intro a F
  refine sNil ?_
  refine hK2 _ _ ?_; clear hK2
  refine cSeq (fun K3 hK3 => ?_)
  refine cReg ?_
  refine sMv F rfl rfl rfl ?_;clear F a;intro a F
  refine sMv F rfl rfl rfl ?_;clear F a;intro a F
  refine sNc F rfl rfl rfl ?_;clear F a;intro a F
  refine sFa (f := 0) (k := 0) Try.underlying59 rfl Try.sizeOf57 rfl rfl F rfl rfl rfl ?_;clear F a;intro a F
  refine sCall Try.call43 F rfl rfl rfl (pword_any hc (by (try simp only [PS.next]); omega) H) ?_
  rintro e w ⟨rfl, H⟩
  refine ⟨_, rfl, ?_⟩
  clear F a; intro a F
  refine sBin F rfl rfl rfl rfl bStrNe ?_;clear F a;intro a F
  refine sCallP Try.call60 F rfl rfl rfl (pneed_any _ hc (s := s.next) (by (try simp only [PS.next]); omega) H) ?_
  rintro e w hq9
  rcases hq9.cases with ⟨p9, e9, hn19, rfl, H⟩ | ⟨v19, t19, hr19, rfl, H⟩
  ·
   refine .inl ⟨_, rfl, ?_⟩
   exact And.intro F.nod (Ans.no (by obtain ⟨h1, rfl, rfl⟩ := need_no hn19; rw [no_text] at h1; unfold testL; rw [if_pos hw, if_pos (by simpa using h1)]; rfl) H.tail)
  obtain ⟨hk2, rfl⟩ := need_ok hr19; rw [no_text] at hk2; have hne : ¬ (c.word s.next.pos).toList = [] := by simpa using hk2
  refine .inr ⟨_, rfl, ?_⟩
  clear F a; intro a F
  refine sNil ?_
  refine hK3 _ _ ?_; clear hK3
  refine cSeq (fun K4 hK4 => ?_)
  refine cReg ?_
  refine sMv F rfl rfl rfl ?_;clear F a;intro a F
  refine sMv F rfl rfl rfl ?_;clear F a;intro a F
  refine sNc F rfl rfl rfl ?_;clear F a;intro a F
  refine sFa (f := 0) (k := 0) Try.underlying59 rfl Try.sizeOf57 rfl rfl F rfl rfl rfl ?_;clear F a;intro a F
  refine sCall Try.call43 F rfl rfl rfl (pword_any hc (by (try simp only [PS.next]); omega) H) ?_
  rintro e w ⟨rfl, H⟩
  refine ⟨_, rfl, ?_⟩
  clear F a; intro a F
  refine sNc F rfl rfl rfl ?_;clear F a;intro a F
  refine sFa (f := 3) (k := 5) Try.underlying59 rfl Try.sizeOf33 rfl rfl F rfl rfl rfl ?_;clear F a;intro a F
  refine sFa (f := 0) (k := 5) Try.underlying33 rfl Try.sizeOf9 rfl rfl F rfl rfl rfl ?_;clear F a;intro a F
  refine sSt H 0 Try.sizeOf9 F rfl rfl rfl rfl rfl rfl ?_
  clear H; intro w H
  refine sNil ?_
  refine hK4 _ _ ?_; clear hK4
  refine cSeq (fun K5 hK5 => ?_)
  refine cReg ?_
  refine sMv F rfl rfl rfl ?_;clear F a;intro a F
  refine sNc F rfl rfl rfl ?_;clear F a;intro a F
  refine sFa (f := 0) (k := 0) Try.underlying59 rfl Try.sizeOf57 rfl rfl F rfl rfl rfl ?_;clear F a;intro a F
  refine sCall Try.call48 F rfl rfl rfl (pstep_any (s := s.next) hc (by (try simp only [PS.next]); omega) H) ?_
  rintro e w ⟨rfl, H⟩
  refine ⟨_, rfl, ?_⟩
  clear F a; intro a F
  refine sNil ?_
  refine hK5 _ _ ?_; clear hK5
  refine cReg ?_
  refine sMv F rfl rfl rfl ?_;clear F a;intro a F
  refine sNc F rfl rfl rfl ?_;clear F a;intro a F
  refine sFa (f := 4) (k := 15) Try.underlying59 rfl Try.sizeOf3 rfl rfl F rfl rfl rfl ?_;clear F a;intro a F
  refine sSt H 0 Try.sizeOf3 F rfl rfl rfl rfl rfl rfl ?_
  clear H; intro w H
  refine sNil ?_
  first | refine bEnd Try.results55 F ?_ | (simp only [Exit.then, Exit.inBlock, if_true]; (repeat (first | rw [if_pos rfl] | rw [if_neg (by decide)])); refine bEnd Try.results55 F ?_)
  exact Ans.ok (v := { q with name := c.word s.next.pos, wh := 1 }) (by unfold testL; rw [if_pos hw, if_neg hne]) ⟨rfl, rfl, H⟩
end Go.Proofs.Ytbdjlmdejlklkaa

namespace Go.Proofs.Ytbdjlmdejlklkaa
open Go.RowKit
set_option maxRecDepth 100000
/-- The query's word. -/
def AskW (c : PX) (i : Nat) (k : UInt8) : Prop := k = 1 ∧ c.kw i [115, 111, 109, 101] = true ∨ k = 2 ∧ c.kw i [110, 111, 110, 101] = true ∨ k = 3 ∧ c.kw i [97, 108, 108] = true
theorem kw_text {c : PX} {i : Nat} {l : List UInt8} (h : c.kw i l = true) : (c.word i).toList = l := eq_of_beq h
set_option maxHeartbeats 4000000 in
theorem pask_any (k : UInt8) {W w0 : World} {rs : List Res} {c : PX} (hc : c.Ok) (hm : c.ts.length ≤ 900000) {A : Option Addr} {C bp : Nat} {S : Nat → Prop} {s : PS} {B : Option Addr} {D : Nat} (q : QL) {L I K aq a1 a2 a3 a4 a5 qy : Value} (hp : s.pos < c.ts.length) (hnl : s.names.length ≤ c.lim) (H : Own W none w0 (.blk bp (parC c A C s B D [.string q.name, L, I, K, aq, a1, a2, a3, a4, a5, .int .i64 (q.wh : Int), qy]) 59 :: .held S A 3 (rowsT c.ts) :: .nms W c.fixed B D s.names :: rs)) (hk : AskW c s.pos k) :
    Calls Try.prog 58 #[.pointer (some ⟨bp, 0, none⟩)] w0 fun e w' => Ans W rs (askL c k q s) (fun v t e w' => e = .returned (.tuple #[]) ∧ v = { q with ask := v.ask, cond := v.cond, wh := v.wh, query := v.query } ∧ ∃ T h b1 b2 b3 b4 b5 B D, h ≤ 2000000 ∧ Own W none w' (.tree T h [b1, b2, b3, b4, b5] v.cond :: .blk bp (parC c A C t B D [.string v.name, L, I, K, b8 v.ask, b1, b2, b3, b4, b5, .int .i64 (v.wh : Int), .int .i64 (v.query : Int)]) 59 :: .held S A 3 (rowsT c.ts) :: .nms W c.fixed B D t.names :: rs)) e w' := by
  refine enterF Try.func58 rfl Try.ntmps58 rfl (fun a F => ?_)
  refine cSeq (fun K1 hK1 => ?_)
  refine cReg ?_
  refine sMv F rfl rfl rfl ?_;clear F a;intro a F
  refine sMv F rfl rfl rfl ?_;clear F a;intro a F
  refine sNc F rfl rfl rfl ?_;clear F a;intro a F
  refine sFa (f := 4) (k := 15) Try.underlying59 rfl Try.sizeOf3 rfl rfl F rfl rfl rfl ?_;clear F a;intro a F
  refine sLd Try.isAgg3 F rfl rfl rfl (H.cell 0 rfl rfl) ?_;clear F a;intro a F
  refine sBin F rfl rfl rfl rfl bEql ?_;clear F a;intro a F
  refine sCallP Try.call60 F rfl rfl rfl (pneed_any _ hc (s := s) (by (try simp only [PS.next]); omega) H) ?_
  rintro e w hq9
  rcases hq9.cases with ⟨p9, e9, hn8, rfl, H⟩ | ⟨v8, t8, hr8, rfl, H⟩
  ·
   refine .inl ⟨_, rfl, ?_⟩
   exact And.intro F.nod (Ans.no (by obtain ⟨h1, rfl, rfl⟩ := need_no hn8; unfold askL; rw [if_neg ((eq_nat (b := 3)).2.1 h1)]; rfl) H.tail)
  obtain ⟨hk0, rfl⟩ := need_ok hr8; have hw : q.wh = 3 := (eq_nat (b := 3)).1.1 hk0
  refine .inr ⟨_, rfl, ?_⟩
  clear F a; intro a F
  refine sNil ?_
  refine hK1 _ _ ?_; clear hK1
  refine cSeq (fun K2 hK2 => ?_)
  refine cReg ?_
  refine sMv F rfl rfl rfl ?_;clear F a;intro a F
  refine sMv F rfl rfl rfl ?_;clear F a;intro a F
  refine sNc F rfl rfl rfl ?_;clear F a;intro a F
  refine sFa (f := 0) (k := 0) Try.underlying59 rfl Try.sizeOf57 rfl rfl F rfl rfl rfl ?_;clear F a;intro a F
  refine sCall Try.call27 F rfl rfl rfl (pplace_any hc (by (try simp only [PS.next]); omega) H) ?_
  rintro e w ⟨rfl, H⟩
  refine ⟨_, rfl, ?_⟩
  clear F a; intro a F
  refine sNc F rfl rfl rfl ?_;clear F a;intro a F
  refine sFa (f := 5) (k := 16) Try.underlying59 rfl Try.sizeOf3 rfl rfl F rfl rfl rfl ?_;clear F a;intro a F
  refine sSt H 0 Try.sizeOf3 F rfl rfl rfl rfl rfl rfl ?_
  clear H; intro w H
  refine sNil ?_
  refine hK2 _ _ ?_; clear hK2
  refine cSeq (fun K3 hK3 => ?_)
  refine cSeq (fun K4 hK4 => ?_)
  refine cReg ?_
  refine sMv F rfl rfl rfl ?_;clear F a;intro a F
  refine sNc F rfl rfl rfl ?_;clear F a;intro a F
  refine sFa (f := 0) (k := 0) Try.underlying59 rfl Try.sizeOf57 rfl rfl F rfl rfl rfl ?_;clear F a;intro a F
  refine sCall Try.call43 F rfl rfl rfl (pword_any (s := s) hc (by (try simp only [PS.next]); omega) H) ?_
  rintro e w ⟨rfl, H⟩
  refine ⟨_, rfl, ?_⟩
  clear F a; intro a F
  refine sNil ?_
  refine hK4 _ _ ?_; clear hK4
  refine wp_block ?_
  refine cSeq (fun K5 hK5 => ?_)
  refine cReg ?_
  refine sBin F rfl rfl rfl rfl bStrEq ?_;clear F a;intro a F
  refine sAs F rfl rfl rfl ?_;clear F a;intro a F
  refine sNil ?_
  refine hK5 _ _ ?_; clear hK5
  refine cIf F rfl (fun h20 => ?_) (fun h20 => ?_)
  ·
   replace h20 := beqT h20
   have h20 := h20.trans (lit_toList [115, 111, 109, 101])
   obtain rfl : k = 1 := by
     rcases hk with ⟨h, _⟩ | ⟨_, h⟩ | ⟨_, h⟩
     · exact h
     · rw [kw_text h] at h20; exact absurd h20 (by decide)
     · rw [kw_text h] at h20; exact absurd h20 (by decide)
   refine cReg ?_
   refine sMv F rfl rfl rfl ?_;clear F a;intro a F
   refine sNc F rfl rfl rfl ?_;clear F a;intro a F
   refine sFa (f := 3) (k := 5) Try.underlying59 rfl Try.sizeOf33 rfl rfl F rfl rfl rfl ?_;clear F a;intro a F
   refine sFa (f := 4) (k := 9) Try.underlying33 rfl Try.sizeOf5 rfl rfl F rfl rfl rfl ?_;clear F a;intro a F
   refine sSt H 0 Try.sizeOf5 F rfl rfl rfl rfl rfl rfl ?_
   clear H; intro w H
   refine sNil ?_
   refine hK3 _ _ ?_; clear hK3
   refine cSeq (fun K6 hK6 => ?_)
   refine cReg ?_
   refine sMv F rfl rfl rfl ?_;clear F a;intro a F
   refine sNc F rfl rfl rfl ?_;clear F a;intro a F
   refine sFa (f := 0) (k := 0) Try.underlying59 rfl Try.sizeOf57 rfl rfl F rfl rfl rfl ?_;clear F a;intro a F
   refine sCall Try.call48 F rfl rfl rfl (pstep_any (s := s) hc (by (try simp only [PS.next]); omega) H) ?_
   rintro e w ⟨rfl, H⟩
   refine ⟨_, rfl, ?_⟩
   clear F a; intro a F
   refine sNil ?_
   refine hK6 _ _ ?_; clear hK6
   refine cSeq (fun K7 hK7 => ?_)
   refine cReg ?_
   refine sMv F rfl rfl rfl ?_;clear F a;intro a F
   refine sMv F rfl rfl rfl ?_;clear F a;intro a F
   refine sCallP Try.call28 F rfl rfl rfl (pcond_any (s := s.next) (n := c.ts.length + 1) hc hm hp hnl (by show c.ts.length < s.pos + 1 + (c.ts.length + 1); omega) H) ?_
   rintro e w hq9
   rcases hq9.cases with ⟨p9, e9, hn44, rfl, H⟩ | ⟨v44, t44, hr44, cs44, T44, rfl, B44, D44, H⟩
   ·
    refine .inl ⟨_, rfl, ?_⟩
    exact And.intro F.nod (Ans.no (by unfold askL; rw [if_pos hw, hn44]; rfl) H)
   obtain ⟨k0, t0, n0, v0, A0, m0, C0, rfl⟩ := condShape (H.pred 0 _ rfl : TreeIn T44 _ _ cs44 v44).at
   refine .inr ⟨_, rfl, ?_⟩
   clear F a; intro a F
   refine sNc F rfl rfl rfl ?_;clear F a;intro a F
   refine sFa (f := 3) (k := 5) Try.underlying59 rfl Try.sizeOf33 rfl rfl F rfl rfl rfl ?_;clear F a;intro a F
   refine sFa (f := 5) (k := 10) Try.underlying33 rfl Try.sizeOf24 rfl rfl F rfl rfl rfl ?_;clear F a;intro a F
   refine sSr H 1 ?si F rfl rfl rfl ?s1 rfl rfl ?_
   case si => exact info_size Try.sizeOf24
   case s1 => first | rfl | (repeat (first | exact one_nil | (apply one_cons; · first | rfl | assumption | exact one_bif rfl rfl)))
   clear H; intro w H
   refine sNil ?_
   refine hK7 _ _ ?_; clear hK7
   refine cReg ?_
   refine sMv F rfl rfl rfl ?_;clear F a;intro a F
   refine sNc F rfl rfl rfl ?_;clear F a;intro a F
   refine sFa (f := 4) (k := 15) Try.underlying59 rfl Try.sizeOf3 rfl rfl F rfl rfl rfl ?_;clear F a;intro a F
   refine sSt H 1 Try.sizeOf3 F rfl rfl rfl rfl rfl rfl ?_
   clear H; intro w H
   refine sNil ?_
   first | refine bEnd Try.results58 F ?_ | (simp only [Exit.then, Exit.inBlock, if_true]; (repeat (first | rw [if_pos rfl] | rw [if_neg (by decide)])); refine bEnd Try.results58 F ?_)
   first | exact Ans.ok (v := { q with ask := 1, cond := v44, wh := 4, query := c.place s.pos }) (by unfold askL; rw [if_pos hw, hr44]; rfl) ⟨rfl, rfl, _, _, _, _, _, _, _, _, _, by omega, H⟩ | exact Ans.ok (v := { q with ask := 2, cond := v44, wh := 4, query := c.place s.pos }) (by unfold askL; rw [if_pos hw, hr44]; rfl) ⟨rfl, rfl, _, _, _, _, _, _, _, _, _, by omega, H⟩ | exact Ans.ok (v := { q with ask := 3, cond := v44, wh := 4, query := c.place s.pos }) (by unfold askL; rw [if_pos hw, hr44]; rfl) ⟨rfl, rfl, _, _, _, _, _, _, _, _, _, by omega, H⟩
  replace h20 := beqF h20
  refine cSeq (fun K8 hK8 => ?_)
  refine cReg ?_
  refine sBin F rfl rfl rfl rfl bStrEq ?_;clear F a;intro a F
  refine sAs F rfl rfl rfl ?_;clear F a;intro a F
  refine sNil ?_
  refine hK8 _ _ ?_; clear hK8
  refine cIf F rfl (fun h26 => ?_) (fun h26 => ?_)
  ·
   replace h26 := beqT h26
   have h26 := h26.trans (lit_toList [110, 111, 110, 101])
   obtain rfl : k = 2 := by
     rcases hk with ⟨_, h⟩ | ⟨h, _⟩ | ⟨_, h⟩
     · rw [kw_text h] at h26; exact absurd h26 (by decide)
     · exact h
     · rw [kw_text h] at h26; exact absurd h26 (by decide)
   refine cReg ?_
   refine sMv F rfl rfl rfl ?_;clear F a;intro a F
   refine sNc F rfl rfl rfl ?_;clear F a;intro a F
   refine sFa (f := 3) (k := 5) Try.underlying59 rfl Try.sizeOf33 rfl rfl F rfl rfl rfl ?_;clear F a;intro a F
   refine sFa (f := 4) (k := 9) Try.underlying33 rfl Try.sizeOf5 rfl rfl F rfl rfl rfl ?_;clear F a;intro a F
   refine sSt H 0 Try.sizeOf5 F rfl rfl rfl rfl rfl rfl ?_
   clear H; intro w H
   refine sNil ?_
   refine hK3 _ _ ?_; clear hK3
   refine cSeq (fun K9 hK9 => ?_)
   refine cReg ?_
   refine sMv F rfl rfl rfl ?_;clear F a;intro a F
   refine sNc F rfl rfl rfl ?_;clear F a;intro a F
   refine sFa (f := 0) (k := 0) Try.underlying59 rfl Try.sizeOf57 rfl rfl F rfl rfl rfl ?_;clear F a;intro a F
   refine sCall Try.call48 F rfl rfl rfl (pstep_any (s := s) hc (by (try simp only [PS.next]); omega) H) ?_
   rintro e w ⟨rfl, H⟩
   refine ⟨_, rfl, ?_⟩
   clear F a; intro a F
   refine sNil ?_
   refine hK9 _ _ ?_; clear hK9
   refine cSeq (fun K10 hK10 => ?_)
   refine cReg ?_
   refine sMv F rfl rfl rfl ?_;clear F a;intro a F
   refine sMv F rfl rfl rfl ?_;clear F a;intro a F
   refine sCallP Try.call28 F rfl rfl rfl (pcond_any (s := s.next) (n := c.ts.length + 1) hc hm hp hnl (by show c.ts.length < s.pos + 1 + (c.ts.length + 1); omega) H) ?_
   rintro e w hq9
   rcases hq9.cases with ⟨p9, e9, hn44, rfl, H⟩ | ⟨v44, t44, hr44, cs44, T44, rfl, B44, D44, H⟩
   ·
    refine .inl ⟨_, rfl, ?_⟩
    exact And.intro F.nod (Ans.no (by unfold askL; rw [if_pos hw, hn44]; rfl) H)
   obtain ⟨k0, t0, n0, v0, A0, m0, C0, rfl⟩ := condShape (H.pred 0 _ rfl : TreeIn T44 _ _ cs44 v44).at
   refine .inr ⟨_, rfl, ?_⟩
   clear F a; intro a F
   refine sNc F rfl rfl rfl ?_;clear F a;intro a F
   refine sFa (f := 3) (k := 5) Try.underlying59 rfl Try.sizeOf33 rfl rfl F rfl rfl rfl ?_;clear F a;intro a F
   refine sFa (f := 5) (k := 10) Try.underlying33 rfl Try.sizeOf24 rfl rfl F rfl rfl rfl ?_;clear F a;intro a F
   refine sSr H 1 ?si F rfl rfl rfl ?s1 rfl rfl ?_
   case si => exact info_size Try.sizeOf24
   case s1 => first | rfl | (repeat (first | exact one_nil | (apply one_cons; · first | rfl | assumption | exact one_bif rfl rfl)))
   clear H; intro w H
   refine sNil ?_
   refine hK10 _ _ ?_; clear hK10
   refine cReg ?_
   refine sMv F rfl rfl rfl ?_;clear F a;intro a F
   refine sNc F rfl rfl rfl ?_;clear F a;intro a F
   refine sFa (f := 4) (k := 15) Try.underlying59 rfl Try.sizeOf3 rfl rfl F rfl rfl rfl ?_;clear F a;intro a F
   refine sSt H 1 Try.sizeOf3 F rfl rfl rfl rfl rfl rfl ?_
   clear H; intro w H
   refine sNil ?_
   first | refine bEnd Try.results58 F ?_ | (simp only [Exit.then, Exit.inBlock, if_true]; (repeat (first | rw [if_pos rfl] | rw [if_neg (by decide)])); refine bEnd Try.results58 F ?_)
   first | exact Ans.ok (v := { q with ask := 1, cond := v44, wh := 4, query := c.place s.pos }) (by unfold askL; rw [if_pos hw, hr44]; rfl) ⟨rfl, rfl, _, _, _, _, _, _, _, _, _, by omega, H⟩ | exact Ans.ok (v := { q with ask := 2, cond := v44, wh := 4, query := c.place s.pos }) (by unfold askL; rw [if_pos hw, hr44]; rfl) ⟨rfl, rfl, _, _, _, _, _, _, _, _, _, by omega, H⟩ | exact Ans.ok (v := { q with ask := 3, cond := v44, wh := 4, query := c.place s.pos }) (by unfold askL; rw [if_pos hw, hr44]; rfl) ⟨rfl, rfl, _, _, _, _, _, _, _, _, _, by omega, H⟩
  replace h26 := beqF h26
  refine cSeq (fun K11 hK11 => ?_)
  refine cReg ?_
  refine sBin F rfl rfl rfl rfl bStrEq ?_;clear F a;intro a F
  refine sAs F rfl rfl rfl ?_;clear F a;intro a F
  refine sNil ?_
  refine hK11 _ _ ?_; clear hK11
  refine cIf F rfl (fun h32 => ?_) (fun h32 => ?_)
  ·
   replace h32 := beqT h32
   have h32 := h32.trans (lit_toList [97, 108, 108])
   obtain rfl : k = 3 := by
     rcases hk with ⟨_, h⟩ | ⟨_, h⟩ | ⟨h, _⟩
     · rw [kw_text h] at h32; exact absurd h32 (by decide)
     · rw [kw_text h] at h32; exact absurd h32 (by decide)
     · exact h
   refine cReg ?_
   refine sMv F rfl rfl rfl ?_;clear F a;intro a F
   refine sNc F rfl rfl rfl ?_;clear F a;intro a F
   refine sFa (f := 3) (k := 5) Try.underlying59 rfl Try.sizeOf33 rfl rfl F rfl rfl rfl ?_;clear F a;intro a F
   refine sFa (f := 4) (k := 9) Try.underlying33 rfl Try.sizeOf5 rfl rfl F rfl rfl rfl ?_;clear F a;intro a F
   refine sSt H 0 Try.sizeOf5 F rfl rfl rfl rfl rfl rfl ?_
   clear H; intro w H
   refine sNil ?_
   refine hK3 _ _ ?_; clear hK3
   refine cSeq (fun K12 hK12 => ?_)
   refine cReg ?_
   refine sMv F rfl rfl rfl ?_;clear F a;intro a F
   refine sNc F rfl rfl rfl ?_;clear F a;intro a F
   refine sFa (f := 0) (k := 0) Try.underlying59 rfl Try.sizeOf57 rfl rfl F rfl rfl rfl ?_;clear F a;intro a F
   refine sCall Try.call48 F rfl rfl rfl (pstep_any (s := s) hc (by (try simp only [PS.next]); omega) H) ?_
   rintro e w ⟨rfl, H⟩
   refine ⟨_, rfl, ?_⟩
   clear F a; intro a F
   refine sNil ?_
   refine hK12 _ _ ?_; clear hK12
   refine cSeq (fun K13 hK13 => ?_)
   refine cReg ?_
   refine sMv F rfl rfl rfl ?_;clear F a;intro a F
   refine sMv F rfl rfl rfl ?_;clear F a;intro a F
   refine sCallP Try.call28 F rfl rfl rfl (pcond_any (s := s.next) (n := c.ts.length + 1) hc hm hp hnl (by show c.ts.length < s.pos + 1 + (c.ts.length + 1); omega) H) ?_
   rintro e w hq9
   rcases hq9.cases with ⟨p9, e9, hn44, rfl, H⟩ | ⟨v44, t44, hr44, cs44, T44, rfl, B44, D44, H⟩
   ·
    refine .inl ⟨_, rfl, ?_⟩
    exact And.intro F.nod (Ans.no (by unfold askL; rw [if_pos hw, hn44]; rfl) H)
   obtain ⟨k0, t0, n0, v0, A0, m0, C0, rfl⟩ := condShape (H.pred 0 _ rfl : TreeIn T44 _ _ cs44 v44).at
   refine .inr ⟨_, rfl, ?_⟩
   clear F a; intro a F
   refine sNc F rfl rfl rfl ?_;clear F a;intro a F
   refine sFa (f := 3) (k := 5) Try.underlying59 rfl Try.sizeOf33 rfl rfl F rfl rfl rfl ?_;clear F a;intro a F
   refine sFa (f := 5) (k := 10) Try.underlying33 rfl Try.sizeOf24 rfl rfl F rfl rfl rfl ?_;clear F a;intro a F
   refine sSr H 1 ?si F rfl rfl rfl ?s1 rfl rfl ?_
   case si => exact info_size Try.sizeOf24
   case s1 => first | rfl | (repeat (first | exact one_nil | (apply one_cons; · first | rfl | assumption | exact one_bif rfl rfl)))
   clear H; intro w H
   refine sNil ?_
   refine hK13 _ _ ?_; clear hK13
   refine cReg ?_
   refine sMv F rfl rfl rfl ?_;clear F a;intro a F
   refine sNc F rfl rfl rfl ?_;clear F a;intro a F
   refine sFa (f := 4) (k := 15) Try.underlying59 rfl Try.sizeOf3 rfl rfl F rfl rfl rfl ?_;clear F a;intro a F
   refine sSt H 1 Try.sizeOf3 F rfl rfl rfl rfl rfl rfl ?_
   clear H; intro w H
   refine sNil ?_
   first | refine bEnd Try.results58 F ?_ | (simp only [Exit.then, Exit.inBlock, if_true]; (repeat (first | rw [if_pos rfl] | rw [if_neg (by decide)])); refine bEnd Try.results58 F ?_)
   first | exact Ans.ok (v := { q with ask := 1, cond := v44, wh := 4, query := c.place s.pos }) (by unfold askL; rw [if_pos hw, hr44]; rfl) ⟨rfl, rfl, _, _, _, _, _, _, _, _, _, by omega, H⟩ | exact Ans.ok (v := { q with ask := 2, cond := v44, wh := 4, query := c.place s.pos }) (by unfold askL; rw [if_pos hw, hr44]; rfl) ⟨rfl, rfl, _, _, _, _, _, _, _, _, _, by omega, H⟩ | exact Ans.ok (v := { q with ask := 3, cond := v44, wh := 4, query := c.place s.pos }) (by unfold askL; rw [if_pos hw, hr44]; rfl) ⟨rfl, rfl, _, _, _, _, _, _, _, _, _, by omega, H⟩
  replace h32 := beqF h32
  rcases hk with ⟨_, h⟩ | ⟨_, h⟩ | ⟨_, h⟩
  · exact (h20 ((kw_text h).trans (lit_toList [115, 111, 109, 101]).symm)).elim
  · exact (h26 ((kw_text h).trans (lit_toList [110, 111, 110, 101]).symm)).elim
  · exact (h32 ((kw_text h).trans (lit_toList [97, 108, 108]).symm)).elim
end Go.Proofs.Ytbdjlmdejlklkaa

namespace Go.Proofs.Ytbdjlmdejlklkaa
open Go.RowKit
set_option maxRecDepth 100000
theorem pins_any (k : Nat) {W w0 : World} {rs : List Res} {c : PX} (hc : c.Ok) {A : Option Addr} {C bp : Nat} {S : Nat → Prop} {s : PS} {B : Option Addr} {D : Nat} {X : List Value} (hp : s.pos ≤ 998000) (hnl : s.names.length ≤ c.lim) (H : Own W none w0 (.blk bp (parC c A C s B D X) 59 :: .held S A 3 (rowsT c.ts) :: .nms W c.fixed B D s.names :: rs)) :
    CallsF Try.prog (insF k) [.pointer (some ⟨bp, 0, none⟩)] w0 (fun e w' => Ans W rs (insP c k s) (fun v t e w' => e = .returned (.agg v.cells.toArray) ∧ ∃ B D, Own W none w' (.blk bp (parC c A C t B D X) 59 :: .held S A 3 (rowsT c.ts) :: .nms W c.fixed B D t.names :: rs)) e w') := by
  unfold insF insP
  by_cases h0 : k = 0
  · rw [if_pos h0, if_pos h0]
    exact ⟨_, [], [], rfl, Try.call84, pfence_any hc (by omega) hnl H⟩
  rw [if_neg h0, if_neg h0]
  by_cases h1 : k = 1
  · rw [if_pos h1, if_pos h1]
    exact ⟨_, [], [], rfl, Try.call85, pskip_any hc (by omega) hnl H⟩
  rw [if_neg h1, if_neg h1]
  by_cases h2 : k = 2
  · rw [if_pos h2, if_pos h2]
    exact ⟨_, [], [], rfl, Try.call76, passign_any hc (by omega) hnl H⟩
  rw [if_neg h2, if_neg h2]
  exact ⟨_, [], [], rfl, Try.call77, pstore_any hc (by omega) hnl H⟩
end Go.Proofs.Ytbdjlmdejlklkaa
