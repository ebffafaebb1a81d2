/-
  WALK2. Package parse: factor. Conditions: the parser, its tokens and names lie in memory.
-/
import Derived.Test.YtbdjlmdejlklkaaPrM
set_option linter.unusedSimpArgs false
set_option linter.unusedVariables false
namespace Go.Proofs.Ytbdjlmdejlklkaa
open Go.RowKit
set_option maxRecDepth 100000
theorem fact_neg {c : PX} {n : Nat} {s : PS} (h : c.is s.pos [33] = true) : factP c (n + 1) s = (factP c n s.next).bind fun k t => .ok (.mk 5 0 0 0 [k]) t := by show (if c.is s.pos [33] = true then _ else _) = _; rw [if_pos h]
theorem fact_par {c : PX} {n : Nat} {s : PS} (h0 : c.is s.pos [33] = false) (h : c.is s.pos [40] = true) : factP c (n + 1) s = (disjP c n s.next).bind fun k t => (signP c [41] t).bind fun _ u => .ok k u := by show (if c.is s.pos [33] = true then _ else if c.is s.pos [40] = true then _ else _) = _; rw [h0, if_neg Bool.false_ne_true, if_pos h]; rfl
set_option maxHeartbeats 16000000 in
theorem pfact_step {c : PX} (hc : c.Ok) (hm : c.ts.length ≤ 900000) {n : Nat} (ih : PartAt c factF (factP c n) (2 * n) n) {W w0 : World} {rs : List Res} {A : Option Addr} {C bp : Nat} {S : Nat → Prop} {s : PS} {B : Option Addr} {D : Nat} {X : List Value} (hp : s.pos ≤ c.ts.length) (hnl : s.names.length ≤ c.lim) (hn : c.ts.length < s.pos + (n + 1))
    (H : Own W none w0 (.blk bp (parC c A C s B D X) 59 :: .held S A 3 (rowsT c.ts) :: .nms W c.fixed B D s.names :: rs)) :
    Calls Try.prog 63 #[.pointer (some ⟨bp, 0, none⟩)] w0 fun e w' => Ans W rs (factP c (n + 1) s) (fun v t e w' => ∃ cs T, e = .returned (.agg cs.toArray) ∧ ∃ B D, Own W none w' (.tree T (2 * (n + 1)) cs v :: .blk bp (parC c A C t B D X) 59 :: .held S A 3 (rowsT c.ts) :: .nms W c.fixed B D t.names :: rs)) e w' := by
  have id : PartAt c conjF (conjP c n) (2 * n + 1) n := conj_at hc ih
  refine enterF Try.func63 rfl Try.ntmps63 rfl (fun a F => ?_)
  refine cSeq (fun K1 hK1 => ?_)
  refine cReg ?_
  refine sAl H Try.zeroValue24 F rfl rfl ?_
  clear F a H; intro b2 a w F H
  refine sNil ?_
  refine hK1 _ _ ?_; clear hK1
  refine cSeq (fun K2 hK2 => ?_)
  refine wp_block ?_
  refine cSeq (fun K3 hK3 => ?_)
  refine cReg ?_
  refine sMv F rfl rfl rfl ?_;clear F a;intro a F
  refine sNc F rfl rfl rfl ?_;clear F a;intro a F
  refine sFa (f := 0) (k := 0) Try.underlying59 rfl Try.sizeOf57 rfl rfl F rfl rfl rfl ?_;clear F a;intro a F
  refine sCall Try.call62 F rfl rfl rfl (pis_any [33] hc (by (try simp only [PS.next]); omega) (H.selT 4 [1, 2, 3, 0] rfl rfl)) ?_
  rintro e w ⟨rfl, H⟩
  refine ⟨_, rfl, ?_⟩
  clear F a; intro a F
  refine sAs F rfl rfl rfl ?_;clear F a;intro a F
  refine sNil ?_
  refine hK3 _ _ ?_; clear hK3
  refine cIf F rfl (fun h6 => ?_) (fun h6 => ?_)
  ·
   have hl := is_lt h6
   refine cSeq (fun K4 hK4 => ?_)
   refine cReg ?_
   refine sMv F rfl rfl rfl ?_;clear F a;intro a F
   refine sNc F rfl rfl rfl ?_;clear F a;intro a F
   refine sFa (f := 0) (k := 0) Try.underlying59 rfl Try.sizeOf57 rfl rfl F rfl rfl rfl ?_;clear F a;intro a F
   refine sCall Try.call48 F rfl rfl rfl (pstep_any hc (by (try simp only [PS.next]); omega) H) ?_
   rintro e w ⟨rfl, H⟩
   refine ⟨_, rfl, ?_⟩
   clear F a; intro a F
   refine sNil ?_
   refine hK4 _ _ ?_; clear hK4
   refine cSeq (fun K5 hK5 => ?_)
   refine cReg ?_
   refine sMv F rfl rfl rfl ?_;clear F a;intro a F
   refine sCallP Try.call63 F rfl rfl rfl (callsF_out (ih s.next hl hnl (by show c.ts.length < s.pos + 1 + n; omega) H)) ?_
   rintro e w hq9
   rcases hq9.cases with ⟨p9, e9, hn16, rfl, H⟩ | ⟨v16, t16, hr16, cs16, T16, rfl, B16, D16, H⟩
   ·
    refine .inl ⟨_, rfl, ?_⟩
    exact And.intro F.nod (Ans.no (by rw [fact_neg h6, hn16]; rfl) H.tail)
   obtain ⟨k0, t0, n0, v0, A0, m0, C0, rfl⟩ := condShape (H.pred 0 _ rfl : TreeIn T16 _ _ cs16 v16).at
   refine .inr ⟨_, rfl, ?_⟩
   clear F a; intro a F
   refine sBsA H Try.underlying22 Try.sizeOf24 Try.zeroValue24 rfl F rfl rfl rfl rfl rfl ?_
   clear F a H; intro b17 a w F H
   refine sBd (places := [(0, 1), (1, 1), (2, 1), (3, 1), (4, 1)]) Try.zeroValue24 Try.underlying24 (by kernel_rfl) F rfl rfl rfl rfl ?_;clear F a;intro a F
   refine sSr H 5 ?si F rfl rfl rfl ?s1 rfl rfl ?_
   case si => exact info_size Try.sizeOf24
   case s1 => first | rfl | (repeat (first | exact one_nil | (apply one_cons; · first | rfl | assumption | exact one_bif rfl rfl)))
   clear H; intro w H
   refine sNil ?_
   refine hK5 _ _ ?_; clear hK5
   refine wp_ret ?_
   simp only [Exit.inBlock, Exit.then]
   refine bRetC Try.results63 F rfl Try.underlying24 rfl H 5 rfl Try.sizeOf24 rfl ?_
   first
   | (have H0 := H.selT 6 [0, 1, 2, 3, 4] rfl rfl
      have H1 := (own_oneRws (sz := 5) H0 rfl).void (.forest (fun _ => False) (2 * n) [] [v16]) (fun j r kid h1 => by simp at h1) (fun _ hb => hb)
      have H2 := (H1.selT 6 [2, 0, 1, 3, 4, 5] rfl rfl).plant rfl
      have H3 := (H2.grown1 5 0 0 0 rfl (by intro r hr; rw [List.mem_singleton.1 hr]; rfl) (by simp)).deeper 1
      exact Ans.ok (v := .mk 5 0 0 0 [v16]) (by rw [fact_neg h6, hr16]; rfl) ⟨_, _, rfl, _, _, H3⟩)
   | exact Ans.ok (v := v29) (by rw [fact_par h6 h19, hr29]; show (signP c [41] t29).bind _ = _; rw [hr33]; rfl) ⟨_, _, rfl, _, _, H.selT 6 [4, 0, 1, 2] rfl rfl⟩
   | exact Ans.ok (v := .mk 0 0 0 0 []) (by unfold factP; simp only [h6, h19, h35, Rs.bind, if_true, Bool.false_eq_true, if_false, reduceCtorEq]) ⟨_, _, rfl, _, _, own_leaf (2 * n + 1) 0 0 0 0 (H.selT 4 [0, 1, 2] rfl rfl)⟩
   | exact Ans.ok (v := .mk 1 v51 v60 v69 []) (by unfold factP; simp only [h6, h19, h35, hk4, hr51, hr56, hr60, hr65, hr69, Rs.bind, if_true, Bool.false_eq_true, if_false, reduceCtorEq]) ⟨_, _, rfl, _, _, own_leaf (2 * n + 1) 1 v51 v60 v69 (H.selT 5 [0, 1, 2] rfl rfl)⟩
   | exact Ans.ok (v := .mk 2 0 v77 v86 []) (by unfold factP; simp only [h6, h19, h35, hk4, hr77, hr82, hr86, Rs.bind, if_true, Bool.false_eq_true, if_false, reduceCtorEq]) ⟨_, _, rfl, _, _, own_leaf (2 * n + 1) 2 0 v77 v86 (H.selT 5 [0, 1, 2] rfl rfl)⟩
  refine cSeq (fun K6 hK6 => ?_)
  refine cReg ?_
  refine sMv F rfl rfl rfl ?_;clear F a;intro a F
  refine sNc F rfl rfl rfl ?_;clear F a;intro a F
  refine sFa (f := 0) (k := 0) Try.underlying59 rfl Try.sizeOf57 rfl rfl F rfl rfl rfl ?_;clear F a;intro a F
  refine sCall Try.call62 F rfl rfl rfl (pis_any [40] hc (by (try simp only [PS.next]); omega) H) ?_
  rintro e w ⟨rfl, H⟩
  refine ⟨_, rfl, ?_⟩
  clear F a; intro a F
  refine sAs F rfl rfl rfl ?_;clear F a;intro a F
  refine sNil ?_
  refine hK6 _ _ ?_; clear hK6
  refine cIf F rfl (fun h19 => ?_) (fun h19 => ?_)
  ·
   have hl := is_lt h19
   refine cSeq (fun K7 hK7 => ?_)
   refine cReg ?_
   refine sMv F rfl rfl rfl ?_;clear F a;intro a F
   refine sNc F rfl rfl rfl ?_;clear F a;intro a F
   refine sFa (f := 0) (k := 0) Try.underlying59 rfl Try.sizeOf57 rfl rfl F rfl rfl rfl ?_;clear F a;intro a F
   refine sCall Try.call48 F rfl rfl rfl (pstep_any hc (by (try simp only [PS.next]); omega) H) ?_
   rintro e w ⟨rfl, H⟩
   refine ⟨_, rfl, ?_⟩
   clear F a; intro a F
   refine sNil ?_
   refine hK7 _ _ ?_; clear hK7
   refine cSeq (fun K8 hK8 => ?_)
   refine cReg ?_
   refine sMv F rfl rfl rfl ?_;clear F a;intro a F
   refine sCallP Try.call28 F rfl rfl rfl (pdisj_any hc id (s := s.next) hl hnl (by show c.ts.length < s.pos + 1 + n; omega) H) ?_
   rintro e w hq9
   rcases hq9.cases with ⟨p9, e9, hn29, rfl, H⟩ | ⟨v29, t29, hr29, cs29, T29, rfl, B29, D29, H⟩
   ·
    refine .inl ⟨_, rfl, ?_⟩
    exact And.intro F.nod (Ans.no (by rw [fact_par h6 h19, hn29]; rfl) H.tail)
   obtain ⟨k0, t0, n0, v0, A0, m0, C0, rfl⟩ := condShape (H.pred 0 _ rfl : TreeIn T29 _ _ cs29 v29).at; have hg29 := disj_go n s.next hnl v29 t29 hr29
   refine .inr ⟨_, rfl, ?_⟩
   clear F a; intro a F
   refine sAl H Try.zeroValue24 F rfl rfl ?_
   clear F a H; intro b3 a w F H
   refine sSr H 0 ?si F rfl rfl rfl ?s1 rfl rfl ?_
   case si => exact info_size Try.sizeOf24
   case s1 => first | rfl | (repeat (first | exact one_nil | (apply one_cons; · first | rfl | assumption | exact one_bif rfl rfl)))
   clear H; intro w H
   refine sNil ?_
   refine hK8 _ _ ?_; clear hK8
   refine cSeq (fun K9 hK9 => ?_)
   refine cReg ?_
   refine sMv F rfl rfl rfl ?_;clear F a;intro a F
   refine sNc F rfl rfl rfl ?_;clear F a;intro a F
   refine sFa (f := 0) (k := 0) Try.underlying59 rfl Try.sizeOf57 rfl rfl F rfl rfl rfl ?_;clear F a;intro a F
   refine sCallP Try.call72 F rfl rfl rfl (psign_any [41] hc (by omega) (H.selT 6 [2, 3, 4, 0, 1, 5] rfl rfl)) ?_
   rintro e w hq9
   rcases hq9.cases with ⟨p9, e9, hn33, rfl, H⟩ | ⟨v33, t33, hr33, rfl, H⟩
   ·
    refine .inl ⟨_, rfl, ?_⟩
    exact And.intro F.nod (Ans.no (by rw [fact_par h6 h19, hr29]; show (signP c [41] t29).bind _ = _; rw [hn33]; rfl) H.tail.tail.tail.tail)
   obtain rfl := (signP_all v33 t33 hr33).2
   refine .inr ⟨_, rfl, ?_⟩
   clear F a; intro a F
   refine sNil ?_
   refine hK9 _ _ ?_; clear hK9
   refine cSeq (fun K10 hK10 => ?_)
   refine cReg ?_
   refine sLr Try.underlying24 rfl ?si F rfl rfl rfl (H.whole 3 rfl) ?_
   case si => exact info_size Try.sizeOf24
   clear F a; intro a F
   refine sSr H 5 ?si F rfl rfl rfl ?s1 rfl rfl ?_
   case si => exact info_size Try.sizeOf24
   case s1 => first | rfl | (repeat (first | exact one_nil | (apply one_cons; · first | rfl | assumption | exact one_bif rfl rfl)))
   clear H; intro w H
   refine sNil ?_
   refine hK10 _ _ ?_; clear hK10
   refine wp_ret ?_
   simp only [Exit.inBlock, Exit.then]
   refine bRetC Try.results63 F rfl Try.underlying24 rfl H 5 rfl Try.sizeOf24 rfl ?_
   first
   | (have H0 := H.selT 6 [0, 1, 2, 3, 4] rfl rfl
      have H1 := (own_oneRws (sz := 5) H0 rfl).void (.forest (fun _ => False) (2 * n) [] [v16]) (fun j r kid h1 => by simp at h1) (fun _ hb => hb)
      have H2 := (H1.selT 6 [2, 0, 1, 3, 4, 5] rfl rfl).plant rfl
      have H3 := (H2.grown1 5 0 0 0 rfl (by intro r hr; rw [List.mem_singleton.1 hr]; rfl) (by simp)).deeper 1
      exact Ans.ok (v := .mk 5 0 0 0 [v16]) (by rw [fact_neg h6, hr16]; rfl) ⟨_, _, rfl, _, _, H3⟩)
   | exact Ans.ok (v := v29) (by rw [fact_par h6 h19, hr29]; show (signP c [41] t29).bind _ = _; rw [hr33]; rfl) ⟨_, _, rfl, _, _, H.selT 6 [4, 0, 1, 2] rfl rfl⟩
   | exact Ans.ok (v := .mk 0 0 0 0 []) (by unfold factP; simp only [h6, h19, h35, Rs.bind, if_true, Bool.false_eq_true, if_false, reduceCtorEq]) ⟨_, _, rfl, _, _, own_leaf (2 * n + 1) 0 0 0 0 (H.selT 4 [0, 1, 2] rfl rfl)⟩
   | exact Ans.ok (v := .mk 1 v51 v60 v69 []) (by unfold factP; simp only [h6, h19, h35, hk4, hr51, hr56, hr60, hr65, hr69, Rs.bind, if_true, Bool.false_eq_true, if_false, reduceCtorEq]) ⟨_, _, rfl, _, _, own_leaf (2 * n + 1) 1 v51 v60 v69 (H.selT 5 [0, 1, 2] rfl rfl)⟩
   | exact Ans.ok (v := .mk 2 0 v77 v86 []) (by unfold factP; simp only [h6, h19, h35, hk4, hr77, hr82, hr86, Rs.bind, if_true, Bool.false_eq_true, if_false, reduceCtorEq]) ⟨_, _, rfl, _, _, own_leaf (2 * n + 1) 2 0 v77 v86 (H.selT 5 [0, 1, 2] rfl rfl)⟩
  refine cSeq (fun K11 hK11 => ?_)
  refine cReg ?_
  refine sMv F rfl rfl rfl ?_;clear F a;intro a F
  refine sNc F rfl rfl rfl ?_;clear F a;intro a F
  refine sFa (f := 0) (k := 0) Try.underlying59 rfl Try.sizeOf57 rfl rfl F rfl rfl rfl ?_;clear F a;intro a F
  refine sCall Try.call78 F rfl rfl rfl (ptakes_any [116, 114, 117, 101] hc (by (try simp only [PS.next]); omega) H) ?_
  rintro e w ⟨rfl, H⟩
  refine ⟨_, rfl, ?_⟩
  clear F a; intro a F
  refine sAs F rfl rfl rfl ?_;clear F a;intro a F
  refine sNil ?_
  refine hK11 _ _ ?_; clear hK11
  refine cIf F rfl (fun h35 => ?_) (fun h35 => ?_)
  ·
   rw [if_pos h35] at H
   refine cSeq (fun K12 hK12 => ?_)
   refine cReg ?_
   refine sBd (places := [(0, 1), (1, 1), (2, 1), (3, 1), (4, 1)]) Try.zeroValue24 Try.underlying24 (by kernel_rfl) F rfl rfl rfl rfl ?_;clear F a;intro a F
   refine sSr H 3 ?si F rfl rfl rfl ?s1 rfl rfl ?_
   case si => exact info_size Try.sizeOf24
   case s1 => first | rfl | (repeat (first | exact one_nil | (apply one_cons; · first | rfl | assumption | exact one_bif rfl rfl)))
   clear H; intro w H
   refine sNil ?_
   refine hK12 _ _ ?_; clear hK12
   refine wp_ret ?_
   simp only [Exit.inBlock, Exit.then]
   refine bRetC Try.results63 F rfl Try.underlying24 rfl H 3 rfl Try.sizeOf24 rfl ?_
   first
   | (have H0 := H.selT 6 [0, 1, 2, 3, 4] rfl rfl
      have H1 := (own_oneRws (sz := 5) H0 rfl).void (.forest (fun _ => False) (2 * n) [] [v16]) (fun j r kid h1 => by simp at h1) (fun _ hb => hb)
      have H2 := (H1.selT 6 [2, 0, 1, 3, 4, 5] rfl rfl).plant rfl
      have H3 := (H2.grown1 5 0 0 0 rfl (by intro r hr; rw [List.mem_singleton.1 hr]; rfl) (by simp)).deeper 1
      exact Ans.ok (v := .mk 5 0 0 0 [v16]) (by rw [fact_neg h6, hr16]; rfl) ⟨_, _, rfl, _, _, H3⟩)
   | exact Ans.ok (v := v29) (by rw [fact_par h6 h19, hr29]; show (signP c [41] t29).bind _ = _; rw [hr33]; rfl) ⟨_, _, rfl, _, _, H.selT 6 [4, 0, 1, 2] rfl rfl⟩
   | exact Ans.ok (v := .mk 0 0 0 0 []) (by unfold factP; simp only [h6, h19, h35, Rs.bind, if_true, Bool.false_eq_true, if_false, reduceCtorEq]) ⟨_, _, rfl, _, _, own_leaf (2 * n + 1) 0 0 0 0 (H.selT 4 [0, 1, 2] rfl rfl)⟩
   | exact Ans.ok (v := .mk 1 v51 v60 v69 []) (by unfold factP; simp only [h6, h19, h35, hk4, hr51, hr56, hr60, hr65, hr69, Rs.bind, if_true, Bool.false_eq_true, if_false, reduceCtorEq]) ⟨_, _, rfl, _, _, own_leaf (2 * n + 1) 1 v51 v60 v69 (H.selT 5 [0, 1, 2] rfl rfl)⟩
   | exact Ans.ok (v := .mk 2 0 v77 v86 []) (by unfold factP; simp only [h6, h19, h35, hk4, hr77, hr82, hr86, Rs.bind, if_true, Bool.false_eq_true, if_false, reduceCtorEq]) ⟨_, _, rfl, _, _, own_leaf (2 * n + 1) 2 0 v77 v86 (H.selT 5 [0, 1, 2] rfl rfl)⟩
  rw [if_neg (by rw [h35]; exact Bool.false_ne_true)] at H
  refine cSeq (fun K13 hK13 => ?_)
  refine cReg ?_
  refine sMv F rfl rfl rfl ?_;clear F a;intro a F
  refine sNc F rfl rfl rfl ?_;clear F a;intro a F
  refine sFa (f := 0) (k := 0) Try.underlying59 rfl Try.sizeOf57 rfl rfl F rfl rfl rfl ?_;clear F a;intro a F
  refine sCall Try.call59 F rfl rfl rfl (ptoken_any hc (by (try simp only [PS.next]); omega) H) ?_
  rintro e w ⟨rfl, H⟩
  refine ⟨_, rfl, ?_⟩
  clear F a; intro a F
  refine sFd (f := 0) Try.underlying69 rfl Try.isAgg67 F rfl rfl rfl rfl ?_;clear F a;intro a F
  refine sBin F rfl rfl rfl rfl bEql ?_;clear F a;intro a F
  refine sAs F rfl rfl rfl ?_;clear F a;intro a F
  refine sNil ?_
  refine hK13 _ _ ?_; clear hK13
  refine cIf F rfl (fun h41 => ?_) (fun h41 => ?_)
  ·
   replace h41 := beqT h41
   have hk4 : c.kind s.pos = 2 := by omega
   refine cSeq (fun K14 hK14 => ?_)
   refine cReg ?_
   refine sMv F rfl rfl rfl ?_;clear F a;intro a F
   refine sNc F rfl rfl rfl ?_;clear F a;intro a F
   refine sFa (f := 0) (k := 0) Try.underlying59 rfl Try.sizeOf57 rfl rfl F rfl rfl rfl ?_;clear F a;intro a F
   refine sCallP Try.call73 F rfl rfl rfl (pnum_any hc (by (try simp only [PS.next]); omega) H) ?_
   rintro e w hq9
   rcases hq9.cases with ⟨p9, e9, hn51, rfl, H⟩ | ⟨v51, t51, hr51, rfl, H⟩
   ·
    refine .inl ⟨_, rfl, ?_⟩
    exact And.intro F.nod (Ans.no (by unfold factP; simp only [h6, h19, h35, hk4, hn51, Rs.bind, if_true, Bool.false_eq_true, if_false, reduceCtorEq]) H.tail.tail)
   obtain rfl := (numQ_all v51 t51 hr51).2
   refine .inr ⟨_, rfl, ?_⟩
   clear F a; intro a F
   refine sBd (places := [(0, 1), (1, 1), (2, 1), (3, 1), (4, 1)]) Try.zeroValue24 Try.underlying24 (by kernel_rfl) F rfl rfl rfl rfl ?_;clear F a;intro a F
   refine sAl H Try.zeroValue24 F rfl rfl ?_
   clear F a H; intro b4 a w F H
   refine sSr H 0 ?si F rfl rfl rfl ?s1 rfl rfl ?_
   case si => exact info_size Try.sizeOf24
   case s1 => first | rfl | (repeat (first | exact one_nil | (apply one_cons; · first | rfl | assumption | exact one_bif rfl rfl)))
   clear H; intro w H
   refine sNil ?_
   refine hK14 _ _ ?_; clear hK14
   refine cSeq (fun K15 hK15 => ?_)
   refine cReg ?_
   refine sMv F rfl rfl rfl ?_;clear F a;intro a F
   refine sNc F rfl rfl rfl ?_;clear F a;intro a F
   refine sFa (f := 0) (k := 0) Try.underlying59 rfl Try.sizeOf57 rfl rfl F rfl rfl rfl ?_;clear F a;intro a F
   refine sCallP Try.call72 F rfl rfl rfl (psign_any [58] hc (by (try simp only [PS.next]); omega) (H.selT 5 [1, 2, 3, 0, 4] rfl rfl)) ?_
   rintro e w hq9
   rcases hq9.cases with ⟨p9, e9, hn56, rfl, H⟩ | ⟨v56, t56, hr56, rfl, H⟩
   ·
    refine .inl ⟨_, rfl, ?_⟩
    exact And.intro F.nod (Ans.no (by unfold factP; simp only [h6, h19, h35, hk4, hr51, hn56, Rs.bind, if_true, Bool.false_eq_true, if_false, reduceCtorEq]) H.tail.tail.tail)
   obtain rfl := (signP_all v56 t56 hr56).2
   refine .inr ⟨_, rfl, ?_⟩
   clear F a; intro a F
   refine sNil ?_
   refine hK15 _ _ ?_; clear hK15
   refine cSeq (fun K16 hK16 => ?_)
   refine cReg ?_
   refine sMv F rfl rfl rfl ?_;clear F a;intro a F
   refine sNc F rfl rfl rfl ?_;clear F a;intro a F
   refine sFa (f := 0) (k := 0) Try.underlying59 rfl Try.sizeOf57 rfl rfl F rfl rfl rfl ?_;clear F a;intro a F
   refine sCallP Try.call79 F rfl rfl rfl (preg_any hc (by (try simp only [PS.next]); omega) H) ?_
   rintro e w hq9
   rcases hq9.cases with ⟨p9, e9, hn60, rfl, H⟩ | ⟨v60, t60, hr60, rfl, H⟩
   ·
    refine .inl ⟨_, rfl, ?_⟩
    exact And.intro F.nod (Ans.no (by unfold factP; simp only [h6, h19, h35, hk4, hr51, hr56, hn60, Rs.bind, if_true, Bool.false_eq_true, if_false, reduceCtorEq]) H.tail.tail.tail)
   obtain rfl := (regQ_all v60 t60 hr60).2.1
   refine .inr ⟨_, rfl, ?_⟩
   clear F a; intro a F
   refine sFa (f := 2) (k := 2) Try.underlying24 rfl Try.sizeOf5 rfl rfl F rfl rfl rfl ?_;clear F a;intro a F
   refine sSt H 3 Try.sizeOf5 F rfl rfl rfl rfl rfl rfl ?_
   clear H; intro w H
   refine sNil ?_
   refine hK16 _ _ ?_; clear hK16
   refine cSeq (fun K17 hK17 => ?_)
   refine cReg ?_
   refine sMv F rfl rfl rfl ?_;clear F a;intro a F
   refine sNc F rfl rfl rfl ?_;clear F a;intro a F
   refine sFa (f := 0) (k := 0) Try.underlying59 rfl Try.sizeOf57 rfl rfl F rfl rfl rfl ?_;clear F a;intro a F
   refine sCallP Try.call72 F rfl rfl rfl (psign_any [61] hc (by (try simp only [PS.next]); omega) H) ?_
   rintro e w hq9
   rcases hq9.cases with ⟨p9, e9, hn65, rfl, H⟩ | ⟨v65, t65, hr65, rfl, H⟩
   ·
    refine .inl ⟨_, rfl, ?_⟩
    exact And.intro F.nod (Ans.no (by unfold factP; simp only [h6, h19, h35, hk4, hr51, hr56, hr60, hn65, Rs.bind, if_true, Bool.false_eq_true, if_false, reduceCtorEq]) H.tail.tail.tail)
   obtain rfl := (signP_all v65 t65 hr65).2
   refine .inr ⟨_, rfl, ?_⟩
   clear F a; intro a F
   refine sNil ?_
   refine hK17 _ _ ?_; clear hK17
   refine cSeq (fun K18 hK18 => ?_)
   refine cReg ?_
   refine sMv F rfl rfl rfl ?_;clear F a;intro a F
   refine sNc F rfl rfl rfl ?_;clear F a;intro a F
   refine sFa (f := 0) (k := 0) Try.underlying59 rfl Try.sizeOf57 rfl rfl F rfl rfl rfl ?_;clear F a;intro a F
   refine sCallP Try.call73 F rfl rfl rfl (pnum_any hc (by (try simp only [PS.next]); omega) H) ?_
   rintro e w hq9
   rcases hq9.cases with ⟨p9, e9, hn69, rfl, H⟩ | ⟨v69, t69, hr69, rfl, H⟩
   ·
    refine .inl ⟨_, rfl, ?_⟩
    exact And.intro F.nod (Ans.no (by unfold factP; simp only [h6, h19, h35, hk4, hr51, hr56, hr60, hr65, hn69, Rs.bind, if_true, Bool.false_eq_true, if_false, reduceCtorEq]) H.tail.tail.tail)
   obtain rfl := (numQ_all v69 t69 hr69).2
   refine .inr ⟨_, rfl, ?_⟩
   clear F a; intro a F
   refine sFa (f := 3) (k := 3) Try.underlying24 rfl Try.sizeOf5 rfl rfl F rfl rfl rfl ?_;clear F a;intro a F
   refine sSt H 3 Try.sizeOf5 F rfl rfl rfl rfl rfl rfl ?_
   clear H; intro w H
   refine sNil ?_
   refine hK18 _ _ ?_; clear hK18
   refine cSeq (fun K19 hK19 => ?_)
   refine cReg ?_
   refine sLr Try.underlying24 rfl ?si F rfl rfl rfl (H.whole 3 rfl) ?_
   case si => exact info_size Try.sizeOf24
   clear F a; intro a F
   refine sSr H 4 ?si F rfl rfl rfl ?s1 rfl rfl ?_
   case si => exact info_size Try.sizeOf24
   case s1 => first | rfl | (repeat (first | exact one_nil | (apply one_cons; · first | rfl | assumption | exact one_bif rfl rfl)))
   clear H; intro w H
   refine sNil ?_
   refine hK19 _ _ ?_; clear hK19
   refine wp_ret ?_
   simp only [Exit.inBlock, Exit.then]
   refine bRetC Try.results63 F rfl Try.underlying24 rfl H 4 rfl Try.sizeOf24 rfl ?_
   first
   | (have H0 := H.selT 6 [0, 1, 2, 3, 4] rfl rfl
      have H1 := (own_oneRws (sz := 5) H0 rfl).void (.forest (fun _ => False) (2 * n) [] [v16]) (fun j r kid h1 => by simp at h1) (fun _ hb => hb)
      have H2 := (H1.selT 6 [2, 0, 1, 3, 4, 5] rfl rfl).plant rfl
      have H3 := (H2.grown1 5 0 0 0 rfl (by intro r hr; rw [List.mem_singleton.1 hr]; rfl) (by simp)).deeper 1
      exact Ans.ok (v := .mk 5 0 0 0 [v16]) (by rw [fact_neg h6, hr16]; rfl) ⟨_, _, rfl, _, _, H3⟩)
   | exact Ans.ok (v := v29) (by rw [fact_par h6 h19, hr29]; show (signP c [41] t29).bind _ = _; rw [hr33]; rfl) ⟨_, _, rfl, _, _, H.selT 6 [4, 0, 1, 2] rfl rfl⟩
   | exact Ans.ok (v := .mk 0 0 0 0 []) (by unfold factP; simp only [h6, h19, h35, Rs.bind, if_true, Bool.false_eq_true, if_false, reduceCtorEq]) ⟨_, _, rfl, _, _, own_leaf (2 * n + 1) 0 0 0 0 (H.selT 4 [0, 1, 2] rfl rfl)⟩
   | exact Ans.ok (v := .mk 1 v51 v60 v69 []) (by unfold factP; simp only [h6, h19, h35, hk4, hr51, hr56, hr60, hr65, hr69, Rs.bind, if_true, Bool.false_eq_true, if_false, reduceCtorEq]) ⟨_, _, rfl, _, _, own_leaf (2 * n + 1) 1 v51 v60 v69 (H.selT 5 [0, 1, 2] rfl rfl)⟩
   | exact Ans.ok (v := .mk 2 0 v77 v86 []) (by unfold factP; simp only [h6, h19, h35, hk4, hr77, hr82, hr86, Rs.bind, if_true, Bool.false_eq_true, if_false, reduceCtorEq]) ⟨_, _, rfl, _, _, own_leaf (2 * n + 1) 2 0 v77 v86 (H.selT 5 [0, 1, 2] rfl rfl)⟩
  replace h41 := beqF h41
  have hk4 : ¬ c.kind s.pos = 2 := by omega
  refine wp_skip ?_
  refine hK2 _ _ ?_; clear hK2
  refine cSeq (fun K20 hK20 => ?_)
  refine cReg ?_
  refine sMv F rfl rfl rfl ?_;clear F a;intro a F
  refine sMv F rfl rfl rfl ?_;clear F a;intro a F
  refine sNc F rfl rfl rfl ?_;clear F a;intro a F
  refine sFa (f := 1) (k := 3) Try.underlying59 rfl Try.sizeOf29 rfl rfl F rfl rfl rfl ?_;clear F a;intro a F
  refine sLd Try.isAgg29 F rfl rfl rfl (H.cell 0 rfl rfl) ?_;clear F a;intro a F
  refine sCallP Try.call71 F rfl rfl rfl (ploc_any hc (by (try simp only [PS.next]); omega) hnl H) ?_
  rintro e w hq9
  rcases hq9.cases with ⟨p9, e9, hn77, rfl, H⟩ | ⟨v77, t77, hr77, rfl, B77, D77, H⟩
  ·
   refine .inl ⟨_, rfl, ?_⟩
   exact And.intro F.nod (Ans.no (by unfold factP; simp only [h6, h19, h35, hk4, hn77, Rs.bind, if_true, Bool.false_eq_true, if_false, reduceCtorEq]) H.tail)
  obtain ⟨hn6, hp77⟩ := loc_six hnl v77 t77 hr77
  refine .inr ⟨_, rfl, ?_⟩
  clear F a; intro a F
  refine sBd (places := [(0, 1), (1, 1), (2, 1), (3, 1), (4, 1)]) Try.zeroValue24 Try.underlying24 (by kernel_rfl) F rfl rfl rfl rfl ?_;clear F a;intro a F
  refine sAl H Try.zeroValue24 F rfl rfl ?_
  clear F a H; intro b5 a w F H
  refine sSr H 0 ?si F rfl rfl rfl ?s1 rfl rfl ?_
  case si => exact info_size Try.sizeOf24
  case s1 => first | rfl | (repeat (first | exact one_nil | (apply one_cons; · first | rfl | assumption | exact one_bif rfl rfl)))
  clear H; intro w H
  refine sNil ?_
  refine hK20 _ _ ?_; clear hK20
  refine cSeq (fun K21 hK21 => ?_)
  refine cReg ?_
  refine sMv F rfl rfl rfl ?_;clear F a;intro a F
  refine sNc F rfl rfl rfl ?_;clear F a;intro a F
  refine sFa (f := 0) (k := 0) Try.underlying59 rfl Try.sizeOf57 rfl rfl F rfl rfl rfl ?_;clear F a;intro a F
  refine sCallP Try.call72 F rfl rfl rfl (psign_any [61] hc (by (try simp only [PS.next]); omega) (H.selT 5 [1, 2, 3, 0, 4] rfl rfl)) ?_
  rintro e w hq9
  rcases hq9.cases with ⟨p9, e9, hn82, rfl, H⟩ | ⟨v82, t82, hr82, rfl, H⟩
  ·
   refine .inl ⟨_, rfl, ?_⟩
   exact And.intro F.nod (Ans.no (by unfold factP; simp only [h6, h19, h35, hk4, hr77, hn82, Rs.bind, if_true, Bool.false_eq_true, if_false, reduceCtorEq]) H.tail.tail.tail)
  obtain rfl := (signP_all v82 t82 hr82).2
  refine .inr ⟨_, rfl, ?_⟩
  clear F a; intro a F
  refine sNil ?_
  refine hK21 _ _ ?_; clear hK21
  refine cSeq (fun K22 hK22 => ?_)
  refine cReg ?_
  refine sMv F rfl rfl rfl ?_;clear F a;intro a F
  refine sNc F rfl rfl rfl ?_;clear F a;intro a F
  refine sFa (f := 0) (k := 0) Try.underlying59 rfl Try.sizeOf57 rfl rfl F rfl rfl rfl ?_;clear F a;intro a F
  refine sCallP Try.call73 F rfl rfl rfl (pnum_any hc (by (try simp only [PS.next]); omega) H) ?_
  rintro e w hq9
  rcases hq9.cases with ⟨p9, e9, hn86, rfl, H⟩ | ⟨v86, t86, hr86, rfl, H⟩
  ·
   refine .inl ⟨_, rfl, ?_⟩
   exact And.intro F.nod (Ans.no (by unfold factP; simp only [h6, h19, h35, hk4, hr77, hr82, hn86, Rs.bind, if_true, Bool.false_eq_true, if_false, reduceCtorEq]) H.tail.tail.tail)
  obtain rfl := (numQ_all v86 t86 hr86).2
  refine .inr ⟨_, rfl, ?_⟩
  clear F a; intro a F
  refine sFa (f := 3) (k := 3) Try.underlying24 rfl Try.sizeOf5 rfl rfl F rfl rfl rfl ?_;clear F a;intro a F
  refine sSt H 3 Try.sizeOf5 F rfl rfl rfl rfl rfl rfl ?_
  clear H; intro w H
  refine sNil ?_
  refine hK22 _ _ ?_; clear hK22
  refine cSeq (fun K23 hK23 => ?_)
  refine cReg ?_
  refine sLr Try.underlying24 rfl ?si F rfl rfl rfl (H.whole 3 rfl) ?_
  case si => exact info_size Try.sizeOf24
  clear F a; intro a F
  refine sSr H 4 ?si F rfl rfl rfl ?s1 rfl rfl ?_
  case si => exact info_size Try.sizeOf24
  case s1 => first | rfl | (repeat (first | exact one_nil | (apply one_cons; · first | rfl | assumption | exact one_bif rfl rfl)))
  clear H; intro w H
  refine sNil ?_
  refine hK23 _ _ ?_; clear hK23
  refine wp_ret ?_
  refine bRetC Try.results63 F rfl Try.underlying24 rfl H 4 rfl Try.sizeOf24 rfl ?_
  first
  | (have H0 := H.selT 6 [0, 1, 2, 3, 4] rfl rfl
     have H1 := (own_oneRws (sz := 5) H0 rfl).void (.forest (fun _ => False) (2 * n) [] [v16]) (fun j r kid h1 => by simp at h1) (fun _ hb => hb)
     have H2 := (H1.selT 6 [2, 0, 1, 3, 4, 5] rfl rfl).plant rfl
     have H3 := (H2.grown1 5 0 0 0 rfl (by intro r hr; rw [List.mem_singleton.1 hr]; rfl) (by simp)).deeper 1
     exact Ans.ok (v := .mk 5 0 0 0 [v16]) (by rw [fact_neg h6, hr16]; rfl) ⟨_, _, rfl, _, _, H3⟩)
  | exact Ans.ok (v := v29) (by rw [fact_par h6 h19, hr29]; show (signP c [41] t29).bind _ = _; rw [hr33]; rfl) ⟨_, _, rfl, _, _, H.selT 6 [4, 0, 1, 2] rfl rfl⟩
  | exact Ans.ok (v := .mk 0 0 0 0 []) (by unfold factP; simp only [h6, h19, h35, Rs.bind, if_true, Bool.false_eq_true, if_false, reduceCtorEq]) ⟨_, _, rfl, _, _, own_leaf (2 * n + 1) 0 0 0 0 (H.selT 4 [0, 1, 2] rfl rfl)⟩
  | exact Ans.ok (v := .mk 1 v51 v60 v69 []) (by unfold factP; simp only [h6, h19, h35, hk4, hr51, hr56, hr60, hr65, hr69, Rs.bind, if_true, Bool.false_eq_true, if_false, reduceCtorEq]) ⟨_, _, rfl, _, _, own_leaf (2 * n + 1) 1 v51 v60 v69 (H.selT 5 [0, 1, 2] rfl rfl)⟩
  | exact Ans.ok (v := .mk 2 0 v77 v86 []) (by unfold factP; simp only [h6, h19, h35, hk4, hr77, hr82, hr86, Rs.bind, if_true, Bool.false_eq_true, if_false, reduceCtorEq]) ⟨_, _, rfl, _, _, own_leaf (2 * n + 1) 2 0 v77 v86 (H.selT 5 [0, 1, 2] rfl rfl)⟩
theorem fact_at {c : PX} (hc : c.Ok) (hm : c.ts.length ≤ 900000) (n : Nat) : PartAt c factF (factP c n) (2 * n) n := by
  induction n with
  | zero => intro W w0 rs A C bp S s B D X hp hnl hn H; exact absurd hn (by omega)
  | succ n ih => intro W w0 rs A C bp S s B D X hp hnl hn H; exact ⟨_, [], [], rfl, Try.call63, pfact_step hc hm ih hp hnl hn H⟩
/-- A condition, from its first token on. -/
theorem pcond_any {c : PX} (hc : c.Ok) (hm : c.ts.length ≤ 900000) {n : Nat} {W w0 : World} {rs : List Res} {A : Option Addr} {C bp : Nat} {S : Nat → Prop} {s : PS} {B : Option Addr} {D : Nat} {X : List Value} (hp : s.pos ≤ c.ts.length) (hnl : s.names.length ≤ c.lim) (hn : c.ts.length < s.pos + n)
    (H : Own W none w0 (.blk bp (parC c A C s B D X) 59 :: .held S A 3 (rowsT c.ts) :: .nms W c.fixed B D s.names :: rs)) :
    Calls Try.prog 28 #[.pointer (some ⟨bp, 0, none⟩)] w0 fun e w' => Ans W rs (disjP c n s) (fun v t e w' => ∃ cs T, e = .returned (.agg cs.toArray) ∧ ∃ B D, Own W none w' (.tree T (2 * n + 2) cs v :: .blk bp (parC c A C t B D X) 59 :: .held S A 3 (rowsT c.ts) :: .nms W c.fixed B D t.names :: rs)) e w' :=
  pdisj_any hc (conj_at hc (fact_at hc hm n)) hp hnl hn H
end Go.Proofs.Ytbdjlmdejlklkaa
