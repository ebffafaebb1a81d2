/-
  WALK2. Package parse: Cond. Conditions: the names lie in memory, at most 1000.
-/
import Derived.Test.YtbdjlmdejlklkaaPzE
set_option linter.unusedSimpArgs false
set_option linter.unusedVariables false
namespace Go.Proofs.Ytbdjlmdejlklkaa
open Go.RowKit
set_option maxRecDepth 100000
/-- A block of so many cells. -/
def Res.room (b n : Nat) (t : TypeId) : Res := ⟨(· = b), fun w => ∃ cs, cs.length = n ∧ Blk w b cs t, fun w w' h hp => by
  obtain ⟨cs, h1, h2⟩ := hp
  exact ⟨cs, h1, (h b rfl).trans h2⟩⟩
theorem own_toRoom {W w : World} {rs : List Res} {b n : Nat} {cs : List Value} {t : TypeId} (H : Own W none w (.blk b cs t :: rs)) (hn : cs.length = n) : Own W none w (.room b n t :: rs) :=
  H.seen (.room b n t) ⟨cs, hn, H.blk 0 rfl⟩ (fun _ h => h)
theorem own_unRoom {W w : World} {rs : List Res} {b n : Nat} {t : TypeId} (H : Own W none w (.room b n t :: rs)) : ∃ cs, cs.length = n ∧ Own W none w (.blk b cs t :: rs) := by
  obtain ⟨cs, h1, h2⟩ := H.pred 0 _ rfl
  exact ⟨cs, h1, H.seen (.blk b cs t) h2 (fun _ h => h)⟩
theorem own_room {W w : World} {rs : List Res} {b6 b7 b n : Nat} {c6 c7 cs : List Value} {t6 t7 t : TypeId} (H : Own W none w (.blk b6 c6 t6 :: .blk b7 c7 t7 :: .blk b cs t :: rs)) (hn : cs.length = n) : Own W none w (.blk b6 c6 t6 :: .blk b7 c7 t7 :: .room b n t :: rs) :=
  (own_toRoom (H.selT 3 [2, 0, 1] rfl rfl) hn).selT 3 [1, 2, 0] rfl rfl
/-- What a source is parsed to as a condition. -/
def condT (s : ByteArray) (names : List ByteArray) : (Nat × Int) ⊕ Cnd := RunR s (condP (pxOf s true) ⟨0, names⟩)
section
variable {c : PX} {s : PS} {v : Cnd} {t : PS}
theorem cond_no1 {p e : Nat} (h : disjP c (c.ts.length + 1) s = .no p e) : condP c s = .no p e := by unfold condP; rw [h]; rfl
theorem cond_no2 {p e : Nat} (h : disjP c (c.ts.length + 1) s = .ok v t) (h2 : endP c t = .no p e) : condP c s = .no p e := by unfold condP; rw [h]; show (endP c t).bind _ = _; rw [h2]; rfl
theorem cond_then {u : PS} {x : Unit} (h : disjP c (c.ts.length + 1) s = .ok v t) (h2 : endP c t = .ok x u) : condP c s = if u.pos < c.ts.length then failP c u 50 else if 20 < depC v then .no (c.place s.pos) 5 else .ok v u := by unfold condP; rw [h]; show (endP c t).bind _ = _; rw [h2]; rfl
end
theorem pcond1_any {W w0 : World} {rs : List Res} {c : PX} (hc : c.Ok) (hm : c.ts.length ≤ 900000) (hf : c.fixed = true) {A : Option Addr} {C bp b6 b7 bw : Nat} {S : Nat → Prop} {names : List ByteArray} {B : Option Addr} {D : Nat} (hN : StrsAt W B names) (hn : names.length ≤ 1000)
    (H : Own W none w0 (.blk bp (parC c A C ⟨0, names⟩ B D zX) 59 :: .held S A 3 (rowsT c.ts) :: .blk b6 [.int .i64 (0 : Int)] 3 :: .blk b7 [.int .i64 (0 : Int)] 34 :: .room bw 5 24 :: rs)) :
    Calls Try.prog 26 #[.pointer (some ⟨bp, 0, none⟩), .pointer (some ⟨bw, 0, none⟩)] w0 fun e w' => Ans W (.blk b6 [.int .i64 (0 : Int)] 3 :: .blk b7 [.int .i64 (0 : Int)] 34 :: .room bw 5 24 :: rs) (condP c ⟨0, names⟩) (fun v _ e w' => e = .returned (.tuple #[]) ∧
      ∃ (S' : Nat → Prop) (h : Nat) (x1 x2 x3 x4 : UInt8) (A' : Option Addr) (n' C' : Nat), h ≤ 2000000 ∧ Own W none w' (.blk b6 [.int .i64 (0 : Int)] 3 :: .blk b7 [.int .i64 (0 : Int)] 34 :: .blk bw [b8 x1, b8 x2, b8 x3, b8 x4, .slice A' n' C'] 24 :: .tree S' h [b8 x1, b8 x2, b8 x3, b8 x4, .slice A' n' C'] v :: rs)) e w' := by
  have hlim : names.length ≤ c.lim := by unfold PX.lim; rw [hf]; exact hn
  have hnm : Res.nms W c.fixed B D names = ⟨fun _ => False, fun _ => RowsAt W B 1 (strC names), fun _ _ _ h => h⟩ := by unfold Res.nms; rw [hf]; rfl
  obtain ⟨ys, hy, H1⟩ := own_unRoom (H.selT 5 [4, 0, 1, 2, 3] rfl rfl)
  obtain ⟨y1, y2, y3, y4, y5, rfl⟩ := len5 hy
  replace H := (H1.void (.nms W c.fixed B D names) (by rw [hnm]; exact hN) (by rw [hnm]; exact fun _ h => h)).selT 6 [2, 3, 0, 4, 5, 1] rfl rfl
  clear H1 hnm
  refine enterF Try.func26 rfl Try.ntmps26 rfl (fun a F => ?_)
  refine cSeq (fun K1 hK1 => ?_)
  refine cReg ?_
  refine sMv F rfl rfl rfl ?_;clear F a;intro a F
  refine sNc F rfl rfl rfl ?_;clear F a;intro a F
  refine sFa (f := 0) (k := 0) Try.underlying59 rfl Try.sizeOf57 rfl rfl F rfl rfl rfl ?_;clear F a;intro a F
  refine sCall Try.call27 F rfl rfl rfl (pplace_any (s := ⟨0, names⟩) hc (Nat.zero_le _) H) ?_
  rintro e w ⟨rfl, H⟩
  refine ⟨_, rfl, ?_⟩
  clear F a; intro a F
  refine sAs F rfl rfl rfl ?_;clear F a;intro a F
  refine sNil ?_
  refine hK1 _ _ ?_; clear hK1
  refine cSeq (fun K2 hK2 => ?_)
  refine cReg ?_
  refine sMv F rfl rfl rfl ?_;clear F a;intro a F
  refine sCallP Try.call28 F rfl rfl rfl (pcond_any (s := ⟨0, names⟩) (n := c.ts.length + 1) hc hm (Nat.zero_le _) hlim (by show c.ts.length < 0 + (c.ts.length + 1); omega) H) ?_
  rintro e w hq9
  rcases hq9.cases with ⟨p9, e9, hn9, rfl, H⟩ | ⟨v9, t9, hr9, cs9, T9, rfl, B9, D9, H⟩
  ·
   refine .inl ⟨_, rfl, ?_⟩
   exact And.intro F.nod (Ans.no (cond_no1 hn9) (own_room H rfl))
  obtain ⟨k0, t0, n0, v0, A0, m0, C0, rfl⟩ := condShape (H.pred 0 _ rfl : TreeIn T9 _ _ cs9 v9).at; have hle9 := (disjP_all _ _ v9 t9 hr9).le
  refine .inr ⟨_, rfl, ?_⟩
  clear F a; intro a F
  refine sSr H 6 ?si F rfl rfl rfl ?s1 rfl rfl ?_
  case si => exact info_size Try.sizeOf24
  case s1 => first | rfl | (repeat (first | exact one_nil | (apply one_cons; · first | rfl | assumption | exact one_bif rfl rfl)))
  clear H; intro w H
  refine sNil ?_
  refine hK2 _ _ ?_; clear hK2
  refine cSeq (fun K3 hK3 => ?_)
  refine cReg ?_
  refine sMv F rfl rfl rfl ?_;clear F a;intro a F
  refine sNc F rfl rfl rfl ?_;clear F a;intro a F
  refine sFa (f := 0) (k := 0) Try.underlying59 rfl Try.sizeOf57 rfl rfl F rfl rfl rfl ?_;clear F a;intro a F
  refine sCallP Try.call29 F rfl rfl rfl (pend_any (s := t9) hc (by omega) (H.selT 7 [1, 2, 3, 4, 5, 6, 0] rfl rfl)) ?_
  rintro e w hq9
  rcases hq9.cases with ⟨p9, e9, hn13, rfl, H⟩ | ⟨v13, t13, hr13, rfl, H⟩
  ·
   refine .inl ⟨_, rfl, ?_⟩
   exact And.intro F.nod (Ans.no (cond_no2 hr9 hn13) (own_room (H.selT 5 [1, 2, 3] rfl rfl) rfl))
  obtain ⟨hg13, rfl⟩ := endP_all v13 t13 hr13; have hle13 := hg13.le
  refine .inr ⟨_, rfl, ?_⟩
  clear F a; intro a F
  refine sNil ?_
  refine hK3 _ _ ?_; clear hK3
  refine cSeq (fun K4 hK4 => ?_)
  refine cReg ?_
  refine sMv F rfl rfl rfl ?_;clear F a;intro a F
  refine sNc F rfl rfl rfl ?_;clear F a;intro a F
  refine sFa (f := 0) (k := 0) Try.underlying59 rfl Try.sizeOf57 rfl rfl F rfl rfl rfl ?_;clear F a;intro a F
  refine sCallP Try.call30 F rfl rfl rfl (pfinish_any (s := t9.next) hc (by omega) H) ?_
  rintro e w hq9
  rcases hq9.cases with ⟨p9, e9, hn17, rfl, H⟩ | ⟨v17, t17, hr17, rfl, H⟩
  ·
   refine .inl ⟨_, rfl, ?_⟩
   (have hx := hn17; split at hx); (rename_i h9; exact And.intro F.nod (Ans.no (by rw [cond_then hr9 hr13, if_pos h9]; unfold failP at hx ⊢; cases hx; rfl) (own_room (H.selT 5 [1, 2, 3] rfl rfl) rfl))); cases hx
  have hfin : ¬ t9.next.pos < c.ts.length := fun h => by rw [if_pos h] at hr17; cases hr17
  rw [if_neg hfin] at hr17
  cases hr17
  have hthen := cond_then (v := v9) hr9 hr13
  rw [if_neg hfin] at hthen
  refine .inr ⟨_, rfl, ?_⟩
  clear F a; intro a F
  refine sNil ?_
  refine hK4 _ _ ?_; clear hK4
  refine cSeq (fun K5 hK5 => ?_)
  refine cReg ?_
  refine sLr Try.underlying24 rfl ?si F rfl rfl rfl (H.range 5 rfl _ 5) ?_
  case si => exact info_size Try.sizeOf24
  clear F a; intro a F
  refine sCall Try.call9 F rfl rfl rfl (pdeep_any _ _ v9 _ (H.pred 6 _ rfl : TreeIn T9 _ _ _ v9).at (by have := depC_le (H.pred 6 _ rfl : TreeIn T9 _ _ _ v9); omega)) ?_
  rintro e w ⟨rfl, hb⟩
  replace H := H.grow hb; clear hb
  refine ⟨_, rfl, ?_⟩
  clear F a; intro a F
  refine sBin F rfl rfl rfl rfl bGtr ?_;clear F a;intro a F
  refine sNil ?_
  refine hK5 _ _ ?_; clear hK5
  refine cIf F rfl (fun h20 => ?_) (fun h20 => ?_)
  ·
   replace h20 := of_decide_eq_true h20
   have hdp : 20 < depC v9 := by omega
   refine cReg ?_
   refine sMv F rfl rfl rfl ?_;clear F a;intro a F
   refine sCallP Try.call31 F rfl rfl rfl (fail_any _ 5 (own_room (H.selT 7 [3, 4, 5] rfl rfl) rfl)) ?_
   rintro e w ⟨rfl, H⟩
   refine .inl ⟨_, rfl, ?_⟩
   exact And.intro F.nod (Ans.no ((by rw [hthen, if_pos hdp])) H)
  replace h20 := of_decide_eq_false h20
  have hdp : ¬ 20 < depC v9 := by omega
  refine wp_skip ?_
  first | refine bEnd Try.results26 F ?_ | (simp only [Exit.then, Exit.inBlock, if_true]; (repeat (first | rw [if_pos rfl] | rw [if_neg (by decide)])); refine bEnd Try.results26 F ?_)
  exact Ans.ok (v := v9) (by rw [hthen, if_neg hdp]) ⟨rfl, T9, _, k0, t0, n0, v0, A0, m0, C0, by omega, H.selT 7 [3, 4, 5, 6] rfl rfl⟩
def CondG (bw : Nat) (rs : List Res) (v : Cnd) (qs : List Res) : Prop := ∃ (S' : Nat → Prop) (h : Nat) (x1 x2 x3 x4 : UInt8) (A' : Option Addr) (n' C' : Nat), h ≤ 2000000 ∧
  qs = .blk bw [b8 x1, b8 x2, b8 x3, b8 x4, .slice A' n' C'] 24 :: .tree S' h [b8 x1, b8 x2, b8 x3, b8 x4, .slice A' n' C'] v :: rs
theorem cond_read {W : World} {rs : List Res} (s : ByteArray) (bw : Nat) {names : List ByteArray} {B : Option Addr} {D : Nat} (hN : StrsAt W B names) (hn : names.length ≤ 1000) (hl : lexBad s = none) :
    ReadOk W (.room bw 5 24 :: rs) (pxOf s true) names B D (.func (.func 26) #[] #[.pointer (some ⟨bw, 0, none⟩)]) (condP (pxOf s true) ⟨0, names⟩) (CondG bw rs) := by
  intro A C bp S w b6 b7 H
  refine ⟨_, [], [.pointer (some ⟨bw, 0, none⟩)], rfl, Try.call26, (pcond1_any (px_ok true hl) (px_few true hl) rfl hN hn H).mono fun e w' h => h.imp id fun v t _ hk => ?_⟩
  obtain ⟨rfl, S', h, x1, x2, x3, x4, A', n', C', hh, H⟩ := hk
  exact ⟨rfl, _, ⟨S', h, x1, x2, x3, x4, A', n', C', hh, rfl⟩, H⟩
theorem pcondT_any {W w0 : World} {rs : List Res} (s : ByteArray) (hs : s.size ≤ maxLen) {names : List ByteArray} {B : Option Addr} {D : Nat} (hN : StrsAt W B names) (hn : names.length ≤ 1000) (H : Own W none w0 rs) :
    Calls Try.prog 13 #[.string s, .slice B names.length D] w0 fun e w' => ∃ (x : Cnd) (pl : Nat) (er : Int) (x1 x2 x3 x4 : UInt8) (A' : Option Addr) (n' C' : Nat) (S : Nat → Prop) (h : Nat), e = .returned (.tuple #[.agg #[b8 x1, b8 x2, b8 x3, b8 x4, .slice A' n' C'], .int .i64 (pl : Int), .int .i64 er]) ∧ h ≤ 2000000 ∧
      Own W none w' (.tree S h [b8 x1, b8 x2, b8 x3, b8 x4, .slice A' n' C'] x :: rs) ∧ ParsedAs (.mk 0 0 0 0 []) (condT s names) x pl er := by
  refine enterF Try.func13 rfl Try.ntmps13 rfl (fun a F => ?_)
  refine cSeq (fun K1 hK1 => ?_)
  refine cReg ?_
  refine sAl H Try.zeroValue24 F rfl rfl ?_
  clear F a H; intro b4 a w F H
  refine sAs F rfl rfl rfl ?_;clear F a;intro a F
  refine sAs F rfl rfl rfl ?_;clear F a;intro a F
  refine sNil ?_
  refine hK1 _ _ ?_; clear hK1
  refine cSeq (fun K2 hK2 => ?_)
  refine cReg ?_
  refine sMv F rfl rfl rfl ?_;clear F a;intro a F
  refine sMv F rfl rfl rfl ?_;clear F a;intro a F
  refine sBd (places := [(0, 3), (3, 1), (4, 1), (5, 10), (15, 1), (16, 1)]) Try.zeroValue59 Try.underlying59 (by kernel_rfl) F rfl rfl rfl rfl ?_;clear F a;intro a F
  refine sFn F rfl rfl rfl rfl ?_;clear F a;intro a F
  refine sCall Try.call20 F rfl rfl rfl (prun_any s hs true names B D _ (condP (pxOf s true) ⟨0, names⟩) (CondG b4 rs) (cond_read s b4 hN hn) (own_toRoom H rfl)) ?_
  rintro e w hq
  obtain ⟨pl, er, rfl, hx⟩ := runPost_of hq (runR_ne fun _ _ => cond_ne)
  refine ⟨_, rfl, ?_⟩
  clear F a; intro a F
  refine sMv F rfl rfl rfl ?_;clear F a;intro a F
  refine sExt F rfl rfl rfl rfl ?_;clear F a;intro a F
  refine sExt F rfl rfl rfl rfl ?_;clear F a;intro a F
  refine sAs F rfl rfl rfl ?_;clear F a;intro a F
  refine sAs F rfl rfl rfl ?_;clear F a;intro a F
  refine sNil ?_
  refine hK2 _ _ ?_; clear hK2
  refine cSeq (fun K3 hK3 => ?_)
  refine cSeq (fun K4 hK4 => ?_)
  refine cReg ?_
  refine sMv F rfl rfl rfl ?_;clear F a;intro a F
  refine sBin F rfl rfl rfl rfl bNeq ?_;clear F a;intro a F
  refine sNil ?_
  refine hK4 _ _ ?_; clear hK4
  refine cIf F rfl (fun h16 => ?_) (fun h16 => ?_)
  ·
   replace h16 := bneT h16
   obtain ⟨_, hr, H⟩ : er ≠ 0 ∧ RunR s (condP (pxOf s true) ⟨0, names⟩) = .inl (pl, er) ∧ Own W none w (.room b4 5 24 :: rs) := by
     rcases hx with hx | ⟨h, _⟩
     · exact hx
     · exact absurd h h16
   obtain ⟨ys, hy, H⟩ := own_unRoom H
   obtain ⟨y1, y2, y3, y4, y5, rfl⟩ := len5 hy
   refine cSeq (fun K5 hK5 => ?_)
   refine cReg ?_
   refine sBd (places := [(0, 1), (1, 1), (2, 1), (3, 1), (4, 1)]) Try.zeroValue24 Try.underlying24 (by kernel_rfl) F rfl rfl rfl rfl ?_;clear F a;intro a F
   refine sMv F rfl rfl rfl ?_;clear F a;intro a F
   refine sMv F rfl rfl rfl ?_;clear F a;intro a F
   refine sSr H 0 ?si F rfl rfl rfl ?s1 rfl rfl ?_
   case si => exact info_size Try.sizeOf24
   case s1 => first | rfl | (repeat (first | exact one_nil | (apply one_cons; · first | rfl | assumption | exact one_bif rfl rfl)))
   clear H; intro w H
   refine sAs F rfl rfl rfl ?_;clear F a;intro a F
   refine sAs F rfl rfl rfl ?_;clear F a;intro a F
   refine sNil ?_
   refine hK5 _ _ ?_; clear hK5
   refine wp_ret ?_
   simp only [Exit.then]
   refine bRetC2 Try.results13 F rfl rfl rfl Try.underlying24 rfl H 0 rfl Try.sizeOf24 rfl ?_
   first
   | exact ⟨.mk 0 0 0 0 [], pl, er, 0, 0, 0, 0, none, 0, 0, _, 1, rfl, by decide, own_leaf 0 0 0 0 0 H.tail, .inl ⟨hr, h16, rfl⟩⟩
   | exact ⟨v, 0, 0, x1, x2, x3, x4, A', n', C', S9, h9, rfl, hh9, H.tail, .inr ⟨hr, rfl, rfl⟩⟩
  replace h16 := bneF h16
  obtain ⟨rfl, rfl, v, qs, hr, ⟨S9, h9, x1, x2, x3, x4, A', n', C', hh9, rfl⟩, H⟩ : er = 0 ∧ pl = 0 ∧ ∃ v qs, RunR s (condP (pxOf s true) ⟨0, names⟩) = .inr v ∧ CondG b4 rs v qs ∧ Own W none w qs := by
    rcases hx with ⟨h, _⟩ | hx
    · exact absurd h16 h
    · exact hx
  refine wp_skip ?_
  refine hK3 _ _ ?_; clear hK3
  refine cSeq (fun K6 hK6 => ?_)
  refine cReg ?_
  refine sLr Try.underlying24 rfl ?si F rfl rfl rfl (H.whole 0 rfl) ?_
  case si => exact info_size Try.sizeOf24
  clear F a; intro a F
  refine sSr H 0 ?si F rfl rfl rfl ?s1 rfl rfl ?_
  case si => exact info_size Try.sizeOf24
  case s1 => first | rfl | (repeat (first | exact one_nil | (apply one_cons; · first | rfl | assumption | exact one_bif rfl rfl)))
  clear H; intro w H
  refine sAs F rfl rfl rfl ?_;clear F a;intro a F
  refine sAs F rfl rfl rfl ?_;clear F a;intro a F
  refine sNil ?_
  refine hK6 _ _ ?_; clear hK6
  refine wp_ret ?_
  refine bRetC2 Try.results13 F rfl rfl rfl Try.underlying24 rfl H 0 rfl Try.sizeOf24 rfl ?_
  first
  | exact ⟨.mk 0 0 0 0 [], pl, er, 0, 0, 0, 0, none, 0, 0, _, 1, rfl, by decide, own_leaf 0 0 0 0 0 H.tail, .inl ⟨hr, h16, rfl⟩⟩
  | exact ⟨v, 0, 0, x1, x2, x3, x4, A', n', C', S9, h9, rfl, hh9, H.tail, .inr ⟨hr, rfl, rfl⟩⟩
end Go.Proofs.Ytbdjlmdejlklkaa
