/-
  WALK2. Package parse: factor. Conditions: the parser, its tokens and names lie in memory.
-/
import Derived.Test.YtkchaoajegkadaaGreatDoorJn13
import Derived.Test.YtkchaoajegkadaaGreatDoorJn2
set_option linter.unusedSimpArgs false
set_option linter.unusedVariables false
namespace Go.Proofs.YtkchaoajegkadaaGreatDoor
-- PrN
open Go.Proofs.Tryz
open Go.RowKit
set_option maxRecDepth 100000
theorem fact_neg {c : PX} {n : Nat} {s : PS} (h : c.is s.pos [33] = true) : factP c (n + 1) s = (factP c n s.next).bind fun k t => .ok (.mk 5 0 0 0 [k]) t := by show (if c.is s.pos [33] = true then _ else _) = _; rw [if_pos h]
theorem fact_par {c : PX} {n : Nat} {s : PS} (h0 : c.is s.pos [33] = false) (h : c.is s.pos [40] = true) : factP c (n + 1) s = (disjP c n s.next).bind fun k t => (signP c [41] t).bind fun _ u => .ok k u := by show (if c.is s.pos [33] = true then _ else if c.is s.pos [40] = true then _ else _) = _; rw [h0, if_neg Bool.false_ne_true, if_pos h]; rfl
set_option maxHeartbeats 16000000 in
theorem pfact_step {c : PX} (hc : c.Ok) (hm : c.ts.length ≤ 900000) {n : Nat} (ih : PartAt c factF (factP c n) (2 * n) n) {W w0 : World} {rs : List Res} {A : Option Addr} {C bp : Nat} {S : Nat → Prop} {s : PS} {B : Option Addr} {D : Nat} {X : List Value} (hp : s.pos ≤ c.ts.length) (hnl : s.names.length ≤ c.lim) (hn : c.ts.length < s.pos + (n + 1))
    (H : Own W none w0 (.blk bp (parC c A C s B D X) 66 :: .held S A 3 (rowsT c.ts) :: .nms W c.fixed B D s.names :: rs)) :
    Calls Tryz.prog 146 #[.pointer (some ⟨bp, 0, none⟩)] w0 fun e w' => Ans W rs (factP c (n + 1) s) (fun v t e w' => ∃ cs T, e = .returned (.agg cs.toArray) ∧ ∃ B D, Own W none w' (.tree T (2 * (n + 1)) cs v :: .blk bp (parC c A C t B D X) 66 :: .held S A 3 (rowsT c.ts) :: .nms W c.fixed B D t.names :: rs)) e w' := by
  have id : PartAt c conjF (conjP c n) (2 * n + 1) n := conj_at hc ih
  refine enterF func146 rfl ntmps146 rfl (fun a F => ?_);refine cSR fun K1 hK1=>?_;refine sAl H zeroValue27 F rfl rfl ?_;clear F a H; intro b2 a w F H;refine nK hK1 ?_;clear hK1;refine cSeq (fun K2 hK2 => ?_);refine wp_block ?_;refine cSR fun K3 hK3=>sMv F rfl rfl rfl (qNc rfl rfl rfl (qFa (f := 0) (k := 0) underlying66 rfl sizeOf64 rfl rfl rfl rfl rfl ?_));clear F a;intro a F;refine sCall call145 F rfl rfl rfl (pis_any [33] hc (by (try simp only [PS.next]); omega) (H.selT 4 [1, 2, 3, 0] rfl rfl)) ?_;rintro e w ⟨rfl, H⟩;refine ⟨_, rfl, ?_⟩;clear F a; intro a F;refine sAs F rfl rfl rfl (qNK hK3 ?_);clear hK3;clear F a;intro a F
  refine cIf F rfl (fun h6 => ?_) (fun h6 => ?_)
  ·
   have hl := is_lt h6
   refine cSR fun K4 hK4=>sMv F rfl rfl rfl (qNc rfl rfl rfl (qFa (f := 0) (k := 0) underlying66 rfl sizeOf64 rfl rfl rfl rfl rfl ?_));clear F a;intro a F;refine sCall call102 F rfl rfl rfl (pstep_any hc (by (try simp only [PS.next]); omega) H) ?_;rintro e w ⟨rfl, H⟩;refine ⟨_, rfl, ?_⟩;clear F a; intro a F;refine nK hK4 (cSR fun K5 hK5=>sMv F rfl rfl rfl ?_);clear hK4;clear F a;intro a F;refine sCallP call146 F rfl rfl rfl (callsF_out (ih s.next hl hnl (by show c.ts.length < s.pos + 1 + n; omega) H)) ?_;rintro e w hq9
   rcases hq9.cases with ⟨p9, e9, hn16, rfl, H⟩ | ⟨v16, t16, hr16, cs16, T16, rfl, B16, D16, H⟩
   ·
    refine .inl ⟨_, rfl, ?_⟩
    exact And.intro F.nod (Ans.no (by rw [fact_neg h6, hn16]; rfl) H.tail)
   obtain ⟨k0, t0, n0, v0, A0, m0, C0, rfl⟩ := condShape (H.pred 0 _ rfl : TreeIn T16 _ _ cs16 v16).at
   refine .inr ⟨_, rfl, ?_⟩
   clear F a; intro a F;refine sBsA H underlying25 sizeOf27 zeroValue27 rfl F rfl rfl rfl rfl rfl ?_;clear F a H; intro b17 a w F H;refine sBd (places := [(0, 1), (1, 1), (2, 1), (3, 1), (4, 1)]) zeroValue27 underlying27 (by kernel_rfl) F rfl rfl rfl rfl ?_;clear F a;intro a F
   refine sSr H 5 ?si F rfl rfl rfl ?s1 rfl rfl ?_
   case si => exact info_size sizeOf27
   case s1 => first | rfl | (repeat (first | exact one_nil | (apply one_cons; · first | rfl | assumption | exact one_bif rfl rfl)))
   clear H; intro w H;refine nK hK5 ?_;clear hK5;refine wp_ret ?_;simp only [Exit.inBlock, Exit.then];refine bRetC results146 F rfl underlying27 rfl H 5 rfl sizeOf27 rfl ?_
   first
   | (have H0 := H.selT 6 [0, 1, 2, 3, 4] rfl rfl
      have H1 := (own_oneRws (sz := 5) H0 rfl).void (.forest (fun _ => False) (2 * n) [] [v16]) (fun j r kid h1 => by simp at h1) (fun _ hb => hb)
      have H2 := (H1.selT 6 [2, 0, 1, 3, 4, 5] rfl rfl).plant rfl
      have H3 := (H2.grown1 5 0 0 0 rfl (by intro r hr; rw [List.mem_singleton.1 hr]; rfl) (by simp)).deeper 1
      exact Ans.ok (v := .mk 5 0 0 0 [v16]) (by rw [fact_neg h6, hr16]; rfl) ⟨_, _, rfl, _, _, H3⟩)
   | exact Ans.ok (v := v29) (by rw [fact_par h6 h19, hr29]; show (signP c [41] t29).bind _ = _; rw [hr33]; rfl) ⟨_, _, rfl, _, _, H.selT 6 [4, 0, 1, 2] rfl rfl⟩
   | exact Ans.ok (v := .mk 0 0 0 0 []) (by unfold factP; simp only [h6, h19, h35, Rs.bind, if_true, Bool.false_eq_true, if_false, reduceCtorEq]) ⟨_, _, rfl, _, _, own_leaf (2 * n + 1) 0 0 0 0 (H.selT 4 [0, 1, 2] rfl rfl)⟩
   | exact Ans.ok (v := .mk 1 v51 v60 v69 []) (by unfold factP; simp only [h6, h19, h35, hk4, hr51, hr56, hr60, hr65, hr69, Rs.bind, if_true, Bool.false_eq_true, if_false, reduceCtorEq]) ⟨_, _, rfl, _, _, own_leaf (2 * n + 1) 1 v51 v60 v69 (H.selT 5 [0, 1, 2] rfl rfl)⟩
   | exact Ans.ok (v := .mk 2 0 v77 v86 []) (by unfold factP; simp only [h6, h19, h35, hk4, hr77, hr82, hr86, Rs.bind, if_true, Bool.false_eq_true, if_false, reduceCtorEq]) ⟨_, _, rfl, _, _, own_leaf (2 * n + 1) 2 0 v77 v86 (H.selT 5 [0, 1, 2] rfl rfl)⟩
  refine cSR fun K6 hK6=>sMv F rfl rfl rfl (qNc rfl rfl rfl (qFa (f := 0) (k := 0) underlying66 rfl sizeOf64 rfl rfl rfl rfl rfl ?_));clear F a;intro a F;refine sCall call145 F rfl rfl rfl (pis_any [40] hc (by (try simp only [PS.next]); omega) H) ?_;rintro e w ⟨rfl, H⟩;refine ⟨_, rfl, ?_⟩;clear F a; intro a F;refine sAs F rfl rfl rfl (qNK hK6 ?_);clear hK6;clear F a;intro a F
  refine cIf F rfl (fun h19 => ?_) (fun h19 => ?_)
  ·
   have hl := is_lt h19
   refine cSR fun K7 hK7=>sMv F rfl rfl rfl (qNc rfl rfl rfl (qFa (f := 0) (k := 0) underlying66 rfl sizeOf64 rfl rfl rfl rfl rfl ?_));clear F a;intro a F;refine sCall call102 F rfl rfl rfl (pstep_any hc (by (try simp only [PS.next]); omega) H) ?_;rintro e w ⟨rfl, H⟩;refine ⟨_, rfl, ?_⟩;clear F a; intro a F;refine nK hK7 (cSR fun K8 hK8=>sMv F rfl rfl rfl ?_);clear hK7;clear F a;intro a F;refine sCallP call69 F rfl rfl rfl (pdisj_any hc id (s := s.next) hl hnl (by show c.ts.length < s.pos + 1 + n; omega) H) ?_;rintro e w hq9
   rcases hq9.cases with ⟨p9, e9, hn29, rfl, H⟩ | ⟨v29, t29, hr29, cs29, T29, rfl, B29, D29, H⟩
   ·
    refine .inl ⟨_, rfl, ?_⟩
    exact And.intro F.nod (Ans.no (by rw [fact_par h6 h19, hn29]; rfl) H.tail)
   obtain ⟨k0, t0, n0, v0, A0, m0, C0, rfl⟩ := condShape (H.pred 0 _ rfl : TreeIn T29 _ _ cs29 v29).at; have hg29 := disj_go n s.next hnl v29 t29 hr29
   refine .inr ⟨_, rfl, ?_⟩
   clear F a; intro a F;refine sAl H zeroValue27 F rfl rfl ?_;clear F a H; intro b3 a w F H
   refine sSr H 0 ?si F rfl rfl rfl ?s1 rfl rfl ?_
   case si => exact info_size sizeOf27
   case s1 => first | rfl | (repeat (first | exact one_nil | (apply one_cons; · first | rfl | assumption | exact one_bif rfl rfl)))
   clear H; intro w H;refine nK hK8 (cSR fun K9 hK9=>sMv F rfl rfl rfl (qNc rfl rfl rfl (qFa (f := 0) (k := 0) underlying66 rfl sizeOf64 rfl rfl rfl rfl rfl ?_)));clear hK8;clear F a;intro a F;refine sCallP call134 F rfl rfl rfl (psign_any [41] hc (by omega) (H.selT 6 [2, 3, 4, 0, 1, 5] rfl rfl)) ?_;rintro e w hq9
   rcases hq9.cases with ⟨p9, e9, hn33, rfl, H⟩ | ⟨v33, t33, hr33, rfl, H⟩
   ·
    refine .inl ⟨_, rfl, ?_⟩
    exact And.intro F.nod (Ans.no (by rw [fact_par h6 h19, hr29]; show (signP c [41] t29).bind _ = _; rw [hn33]; rfl) H.tail.tail.tail.tail)
   obtain rfl := (signP_all v33 t33 hr33).2
   refine .inr ⟨_, rfl, ?_⟩
   clear F a; intro a F;refine nK hK9 (cSR fun K10 hK10=>?_);clear hK9
   refine sLr underlying27 rfl ?si F rfl rfl rfl (H.whole 3 rfl) ?_
   case si => exact info_size sizeOf27
   clear F a; intro a F
   refine sSr H 5 ?si F rfl rfl rfl ?s1 rfl rfl ?_
   case si => exact info_size sizeOf27
   case s1 => first | rfl | (repeat (first | exact one_nil | (apply one_cons; · first | rfl | assumption | exact one_bif rfl rfl)))
   clear H; intro w H;refine nK hK10 ?_;clear hK10;refine wp_ret ?_;simp only [Exit.inBlock, Exit.then];refine bRetC results146 F rfl underlying27 rfl H 5 rfl sizeOf27 rfl ?_
   first
   | (have H0 := H.selT 6 [0, 1, 2, 3, 4] rfl rfl
      have H1 := (own_oneRws (sz := 5) H0 rfl).void (.forest (fun _ => False) (2 * n) [] [v16]) (fun j r kid h1 => by simp at h1) (fun _ hb => hb)
      have H2 := (H1.selT 6 [2, 0, 1, 3, 4, 5] rfl rfl).plant rfl
      have H3 := (H2.grown1 5 0 0 0 rfl (by intro r hr; rw [List.mem_singleton.1 hr]; rfl) (by simp)).deeper 1
      exact Ans.ok (v := .mk 5 0 0 0 [v16]) (by rw [fact_neg h6, hr16]; rfl) ⟨_, _, rfl, _, _, H3⟩)
   | exact Ans.ok (v := v29) (by rw [fact_par h6 h19, hr29]; show (signP c [41] t29).bind _ = _; rw [hr33]; rfl) ⟨_, _, rfl, _, _, H.selT 6 [4, 0, 1, 2] rfl rfl⟩
   | exact Ans.ok (v := .mk 0 0 0 0 []) (by unfold factP; simp only [h6, h19, h35, Rs.bind, if_true, Bool.false_eq_true, if_false, reduceCtorEq]) ⟨_, _, rfl, _, _, own_leaf (2 * n + 1) 0 0 0 0 (H.selT 4 [0, 1, 2] rfl rfl)⟩
   | exact Ans.ok (v := .mk 1 v51 v60 v69 []) (by unfold factP; simp only [h6, h19, h35, hk4, hr51, hr56, hr60, hr65, hr69, Rs.bind, if_true, Bool.false_eq_true, if_false, reduceCtorEq]) ⟨_, _, rfl, _, _, own_leaf (2 * n + 1) 1 v51 v60 v69 (H.selT 5 [0, 1, 2] rfl rfl)⟩
   | exact Ans.ok (v := .mk 2 0 v77 v86 []) (by unfold factP; simp only [h6, h19, h35, hk4, hr77, hr82, hr86, Rs.bind, if_true, Bool.false_eq_true, if_false, reduceCtorEq]) ⟨_, _, rfl, _, _, own_leaf (2 * n + 1) 2 0 v77 v86 (H.selT 5 [0, 1, 2] rfl rfl)⟩
  refine cSR fun K11 hK11=>sMv F rfl rfl rfl (qNc rfl rfl rfl (qFa (f := 0) (k := 0) underlying66 rfl sizeOf64 rfl rfl rfl rfl rfl ?_));clear F a;intro a F;refine sCall call139 F rfl rfl rfl (ptakes_any [116, 114, 117, 101] hc (by (try simp only [PS.next]); omega) H) ?_;rintro e w ⟨rfl, H⟩;refine ⟨_, rfl, ?_⟩;clear F a; intro a F;refine sAs F rfl rfl rfl (qNK hK11 ?_);clear hK11;clear F a;intro a F
  refine cIf F rfl (fun h35 => ?_) (fun h35 => ?_)
  ·
   rw [if_pos h35] at H;refine cSR fun K12 hK12=>sBd (places := [(0, 1), (1, 1), (2, 1), (3, 1), (4, 1)]) zeroValue27 underlying27 (by kernel_rfl) F rfl rfl rfl rfl ?_;clear F a;intro a F
   refine sSr H 3 ?si F rfl rfl rfl ?s1 rfl rfl ?_
   case si => exact info_size sizeOf27
   case s1 => first | rfl | (repeat (first | exact one_nil | (apply one_cons; · first | rfl | assumption | exact one_bif rfl rfl)))
   clear H; intro w H;refine nK hK12 ?_;clear hK12;refine wp_ret ?_;simp only [Exit.inBlock, Exit.then];refine bRetC results146 F rfl underlying27 rfl H 3 rfl sizeOf27 rfl ?_
   first
   | (have H0 := H.selT 6 [0, 1, 2, 3, 4] rfl rfl
      have H1 := (own_oneRws (sz := 5) H0 rfl).void (.forest (fun _ => False) (2 * n) [] [v16]) (fun j r kid h1 => by simp at h1) (fun _ hb => hb)
      have H2 := (H1.selT 6 [2, 0, 1, 3, 4, 5] rfl rfl).plant rfl
      have H3 := (H2.grown1 5 0 0 0 rfl (by intro r hr; rw [List.mem_singleton.1 hr]; rfl) (by simp)).deeper 1
      exact Ans.ok (v := .mk 5 0 0 0 [v16]) (by rw [fact_neg h6, hr16]; rfl) ⟨_, _, rfl, _, _, H3⟩)
   | exact Ans.ok (v := v29) (by rw [fact_par h6 h19, hr29]; show (signP c [41] t29).bind _ = _; rw [hr33]; rfl) ⟨_, _, rfl, _, _, H.selT 6 [4, 0, 1, 2] rfl rfl⟩
   | exact Ans.ok (v := .mk 0 0 0 0 []) (by unfold factP; simp only [h6, h19, h35, Rs.bind, if_true, Bool.false_eq_true, if_false, reduceCtorEq]) ⟨_, _, rfl, _, _, own_leaf (2 * n + 1) 0 0 0 0 (H.selT 4 [0, 1, 2] rfl rfl)⟩
   | exact Ans.ok (v := .mk 1 v51 v60 v69 []) (by unfold factP; simp only [h6, h19, h35, hk4, hr51, hr56, hr60, hr65, hr69, Rs.bind, if_true, Bool.false_eq_true, if_false, reduceCtorEq]) ⟨_, _, rfl, _, _, own_leaf (2 * n + 1) 1 v51 v60 v69 (H.selT 5 [0, 1, 2] rfl rfl)⟩
   | exact Ans.ok (v := .mk 2 0 v77 v86 []) (by unfold factP; simp only [h6, h19, h35, hk4, hr77, hr82, hr86, Rs.bind, if_true, Bool.false_eq_true, if_false, reduceCtorEq]) ⟨_, _, rfl, _, _, own_leaf (2 * n + 1) 2 0 v77 v86 (H.selT 5 [0, 1, 2] rfl rfl)⟩
  rw [if_neg (by rw [h35]; exact Bool.false_ne_true)] at H
  refine cSR fun K13 hK13=>sMv F rfl rfl rfl (qNc rfl rfl rfl (qFa (f := 0) (k := 0) underlying66 rfl sizeOf64 rfl rfl rfl rfl rfl ?_));clear F a;intro a F;refine sCall call100 F rfl rfl rfl (ptoken_any hc (by (try simp only [PS.next]); omega) H) ?_;rintro e w ⟨rfl, H⟩;refine ⟨_, rfl, ?_⟩;clear F a; intro a F;refine sFd (f := 0) underlying140 rfl isAgg138 F rfl rfl rfl rfl (qBin rfl rfl rfl rfl bEql (qAs rfl rfl rfl (qNK hK13 ?_)));clear hK13;clear F a;intro a F
  refine cIf F rfl (fun h41 => ?_) (fun h41 => ?_)
  ·
   replace h41 := beqT h41
   have hk4 : c.kind s.pos = 2 := by omega
   refine cSR fun K14 hK14=>sMv F rfl rfl rfl (qNc rfl rfl rfl (qFa (f := 0) (k := 0) underlying66 rfl sizeOf64 rfl rfl rfl rfl rfl ?_));clear F a;intro a F;refine sCallP call135 F rfl rfl rfl (pnum_any hc (by (try simp only [PS.next]); omega) H) ?_;rintro e w hq9
   rcases hq9.cases with ⟨p9, e9, hn51, rfl, H⟩ | ⟨v51, t51, hr51, rfl, H⟩
   ·
    refine .inl ⟨_, rfl, ?_⟩
    exact And.intro F.nod (Ans.no (by unfold factP; simp only [h6, h19, h35, hk4, hn51, Rs.bind, if_true, Bool.false_eq_true, if_false, reduceCtorEq]) H.tail.tail)
   obtain rfl := (numQ_all v51 t51 hr51).2
   refine .inr ⟨_, rfl, ?_⟩
   clear F a; intro a F;refine sBd (places := [(0, 1), (1, 1), (2, 1), (3, 1), (4, 1)]) zeroValue27 underlying27 (by kernel_rfl) F rfl rfl rfl rfl ?_;clear F a;intro a F;refine sAl H zeroValue27 F rfl rfl ?_;clear F a H; intro b4 a w F H
   refine sSr H 0 ?si F rfl rfl rfl ?s1 rfl rfl ?_
   case si => exact info_size sizeOf27
   case s1 => first | rfl | (repeat (first | exact one_nil | (apply one_cons; · first | rfl | assumption | exact one_bif rfl rfl)))
   clear H; intro w H;refine nK hK14 (cSR fun K15 hK15=>sMv F rfl rfl rfl (qNc rfl rfl rfl (qFa (f := 0) (k := 0) underlying66 rfl sizeOf64 rfl rfl rfl rfl rfl ?_)));clear hK14;clear F a;intro a F;refine sCallP call134 F rfl rfl rfl (psign_any [58] hc (by (try simp only [PS.next]); omega) (H.selT 5 [1, 2, 3, 0, 4] rfl rfl)) ?_;rintro e w hq9
   rcases hq9.cases with ⟨p9, e9, hn56, rfl, H⟩ | ⟨v56, t56, hr56, rfl, H⟩
   ·
    refine .inl ⟨_, rfl, ?_⟩
    exact And.intro F.nod (Ans.no (by unfold factP; simp only [h6, h19, h35, hk4, hr51, hn56, Rs.bind, if_true, Bool.false_eq_true, if_false, reduceCtorEq]) H.tail.tail.tail)
   obtain rfl := (signP_all v56 t56 hr56).2
   refine .inr ⟨_, rfl, ?_⟩
   clear F a; intro a F;refine nK hK15 (cSR fun K16 hK16=>sMv F rfl rfl rfl (qNc rfl rfl rfl (qFa (f := 0) (k := 0) underlying66 rfl sizeOf64 rfl rfl rfl rfl rfl ?_)));clear hK15;clear F a;intro a F;refine sCallP call138 F rfl rfl rfl (preg_any hc (by (try simp only [PS.next]); omega) H) ?_;rintro e w hq9
   rcases hq9.cases with ⟨p9, e9, hn60, rfl, H⟩ | ⟨v60, t60, hr60, rfl, H⟩
   ·
    refine .inl ⟨_, rfl, ?_⟩
    exact And.intro F.nod (Ans.no (by unfold factP; simp only [h6, h19, h35, hk4, hr51, hr56, hn60, Rs.bind, if_true, Bool.false_eq_true, if_false, reduceCtorEq]) H.tail.tail.tail)
   obtain rfl := (regQ_all v60 t60 hr60).2.1
   refine .inr ⟨_, rfl, ?_⟩
   clear F a; intro a F;refine sFa (f := 2) (k := 2) underlying27 rfl sizeOf5 rfl rfl F rfl rfl rfl ?_;clear F a;intro a F;refine sSt H 3 sizeOf5 F rfl rfl rfl rfl rfl rfl ?_;clear H; intro w H;refine nK hK16 (cSR fun K17 hK17=>sMv F rfl rfl rfl (qNc rfl rfl rfl (qFa (f := 0) (k := 0) underlying66 rfl sizeOf64 rfl rfl rfl rfl rfl ?_)));clear hK16;clear F a;intro a F;refine sCallP call134 F rfl rfl rfl (psign_any [61] hc (by (try simp only [PS.next]); omega) H) ?_;rintro e w hq9
   rcases hq9.cases with ⟨p9, e9, hn65, rfl, H⟩ | ⟨v65, t65, hr65, rfl, H⟩
   ·
    refine .inl ⟨_, rfl, ?_⟩
    exact And.intro F.nod (Ans.no (by unfold factP; simp only [h6, h19, h35, hk4, hr51, hr56, hr60, hn65, Rs.bind, if_true, Bool.false_eq_true, if_false, reduceCtorEq]) H.tail.tail.tail)
   obtain rfl := (signP_all v65 t65 hr65).2
   refine .inr ⟨_, rfl, ?_⟩
   clear F a; intro a F;refine nK hK17 (cSR fun K18 hK18=>sMv F rfl rfl rfl (qNc rfl rfl rfl (qFa (f := 0) (k := 0) underlying66 rfl sizeOf64 rfl rfl rfl rfl rfl ?_)));clear hK17;clear F a;intro a F;refine sCallP call135 F rfl rfl rfl (pnum_any hc (by (try simp only [PS.next]); omega) H) ?_;rintro e w hq9
   rcases hq9.cases with ⟨p9, e9, hn69, rfl, H⟩ | ⟨v69, t69, hr69, rfl, H⟩
   ·
    refine .inl ⟨_, rfl, ?_⟩
    exact And.intro F.nod (Ans.no (by unfold factP; simp only [h6, h19, h35, hk4, hr51, hr56, hr60, hr65, hn69, Rs.bind, if_true, Bool.false_eq_true, if_false, reduceCtorEq]) H.tail.tail.tail)
   obtain rfl := (numQ_all v69 t69 hr69).2
   refine .inr ⟨_, rfl, ?_⟩
   clear F a; intro a F;refine sFa (f := 3) (k := 3) underlying27 rfl sizeOf5 rfl rfl F rfl rfl rfl ?_;clear F a;intro a F;refine sSt H 3 sizeOf5 F rfl rfl rfl rfl rfl rfl ?_;clear H; intro w H;refine nK hK18 (cSR fun K19 hK19=>?_);clear hK18
   refine sLr underlying27 rfl ?si F rfl rfl rfl (H.whole 3 rfl) ?_
   case si => exact info_size sizeOf27
   clear F a; intro a F
   refine sSr H 4 ?si F rfl rfl rfl ?s1 rfl rfl ?_
   case si => exact info_size sizeOf27
   case s1 => first | rfl | (repeat (first | exact one_nil | (apply one_cons; · first | rfl | assumption | exact one_bif rfl rfl)))
   clear H; intro w H;refine nK hK19 ?_;clear hK19;refine wp_ret ?_;simp only [Exit.inBlock, Exit.then];refine bRetC results146 F rfl underlying27 rfl H 4 rfl sizeOf27 rfl ?_
   first
   | (have H0 := H.selT 6 [0, 1, 2, 3, 4] rfl rfl
      have H1 := (own_oneRws (sz := 5) H0 rfl).void (.forest (fun _ => False) (2 * n) [] [v16]) (fun j r kid h1 => by simp at h1) (fun _ hb => hb)
      have H2 := (H1.selT 6 [2, 0, 1, 3, 4, 5] rfl rfl).plant rfl
      have H3 := (H2.grown1 5 0 0 0 rfl (by intro r hr; rw [List.mem_singleton.1 hr]; rfl) (by simp)).deeper 1
      exact Ans.ok (v := .mk 5 0 0 0 [v16]) (by rw [fact_neg h6, hr16]; rfl) ⟨_, _, rfl, _, _, H3⟩)
   | exact Ans.ok (v := v29) (by rw [fact_par h6 h19, hr29]; show (signP c [41] t29).bind _ = _; rw [hr33]; rfl) ⟨_, _, rfl, _, _, H.selT 6 [4, 0, 1, 2] rfl rfl⟩
   | exact Ans.ok (v := .mk 0 0 0 0 []) (by unfold factP; simp only [h6, h19, h35, Rs.bind, if_true, Bool.false_eq_true, if_false, reduceCtorEq]) ⟨_, _, rfl, _, _, own_leaf (2 * n + 1) 0 0 0 0 (H.selT 4 [0, 1, 2] rfl rfl)⟩
   | exact Ans.ok (v := .mk 1 v51 v60 v69 []) (by unfold factP; simp only [h6, h19, h35, hk4, hr51, hr56, hr60, hr65, hr69, Rs.bind, if_true, Bool.false_eq_true, if_false, reduceCtorEq]) ⟨_, _, rfl, _, _, own_leaf (2 * n + 1) 1 v51 v60 v69 (H.selT 5 [0, 1, 2] rfl rfl)⟩
   | exact Ans.ok (v := .mk 2 0 v77 v86 []) (by unfold factP; simp only [h6, h19, h35, hk4, hr77, hr82, hr86, Rs.bind, if_true, Bool.false_eq_true, if_false, reduceCtorEq]) ⟨_, _, rfl, _, _, own_leaf (2 * n + 1) 2 0 v77 v86 (H.selT 5 [0, 1, 2] rfl rfl)⟩
  replace h41 := beqF h41
  have hk4 : ¬ c.kind s.pos = 2 := by omega
  refine wp_skip (hK2 _ _ (cSR fun K20 hK20=>sMv F rfl rfl rfl (qMv rfl rfl rfl (qNc rfl rfl rfl (qFa (f := 1) (k := 3) underlying66 rfl sizeOf22 rfl rfl rfl rfl rfl (qLd isAgg22 rfl rfl rfl (H.cell 0 rfl rfl) ?_))))));clear hK2;clear F a;intro a F;refine sCallP call133 F rfl rfl rfl (ploc_any hc (by (try simp only [PS.next]); omega) hnl H) ?_;rintro e w hq9
  rcases hq9.cases with ⟨p9, e9, hn77, rfl, H⟩ | ⟨v77, t77, hr77, rfl, B77, D77, H⟩
  ·
   refine .inl ⟨_, rfl, ?_⟩
   exact And.intro F.nod (Ans.no (by unfold factP; simp only [h6, h19, h35, hk4, hn77, Rs.bind, if_true, Bool.false_eq_true, if_false, reduceCtorEq]) H.tail)
  obtain ⟨hn6, hp77⟩ := loc_six hnl v77 t77 hr77
  refine .inr ⟨_, rfl, ?_⟩
  clear F a; intro a F;refine sBd (places := [(0, 1), (1, 1), (2, 1), (3, 1), (4, 1)]) zeroValue27 underlying27 (by kernel_rfl) F rfl rfl rfl rfl ?_;clear F a;intro a F;refine sAl H zeroValue27 F rfl rfl ?_;clear F a H; intro b5 a w F H
  refine sSr H 0 ?si F rfl rfl rfl ?s1 rfl rfl ?_
  case si => exact info_size sizeOf27
  case s1 => first | rfl | (repeat (first | exact one_nil | (apply one_cons; · first | rfl | assumption | exact one_bif rfl rfl)))
  clear H; intro w H;refine nK hK20 (cSR fun K21 hK21=>sMv F rfl rfl rfl (qNc rfl rfl rfl (qFa (f := 0) (k := 0) underlying66 rfl sizeOf64 rfl rfl rfl rfl rfl ?_)));clear hK20;clear F a;intro a F;refine sCallP call134 F rfl rfl rfl (psign_any [61] hc (by (try simp only [PS.next]); omega) (H.selT 5 [1, 2, 3, 0, 4] rfl rfl)) ?_;rintro e w hq9
  rcases hq9.cases with ⟨p9, e9, hn82, rfl, H⟩ | ⟨v82, t82, hr82, rfl, H⟩
  ·
   refine .inl ⟨_, rfl, ?_⟩
   exact And.intro F.nod (Ans.no (by unfold factP; simp only [h6, h19, h35, hk4, hr77, hn82, Rs.bind, if_true, Bool.false_eq_true, if_false, reduceCtorEq]) H.tail.tail.tail)
  obtain rfl := (signP_all v82 t82 hr82).2
  refine .inr ⟨_, rfl, ?_⟩
  clear F a; intro a F;refine nK hK21 (cSR fun K22 hK22=>sMv F rfl rfl rfl (qNc rfl rfl rfl (qFa (f := 0) (k := 0) underlying66 rfl sizeOf64 rfl rfl rfl rfl rfl ?_)));clear hK21;clear F a;intro a F;refine sCallP call135 F rfl rfl rfl (pnum_any hc (by (try simp only [PS.next]); omega) H) ?_;rintro e w hq9
  rcases hq9.cases with ⟨p9, e9, hn86, rfl, H⟩ | ⟨v86, t86, hr86, rfl, H⟩
  ·
   refine .inl ⟨_, rfl, ?_⟩
   exact And.intro F.nod (Ans.no (by unfold factP; simp only [h6, h19, h35, hk4, hr77, hr82, hn86, Rs.bind, if_true, Bool.false_eq_true, if_false, reduceCtorEq]) H.tail.tail.tail)
  obtain rfl := (numQ_all v86 t86 hr86).2
  refine .inr ⟨_, rfl, ?_⟩
  clear F a; intro a F;refine sFa (f := 3) (k := 3) underlying27 rfl sizeOf5 rfl rfl F rfl rfl rfl ?_;clear F a;intro a F;refine sSt H 3 sizeOf5 F rfl rfl rfl rfl rfl rfl ?_;clear H; intro w H;refine nK hK22 (cSR fun K23 hK23=>?_);clear hK22
  refine sLr underlying27 rfl ?si F rfl rfl rfl (H.whole 3 rfl) ?_
  case si => exact info_size sizeOf27
  clear F a; intro a F
  refine sSr H 4 ?si F rfl rfl rfl ?s1 rfl rfl ?_
  case si => exact info_size sizeOf27
  case s1 => first | rfl | (repeat (first | exact one_nil | (apply one_cons; · first | rfl | assumption | exact one_bif rfl rfl)))
  clear H; intro w H;refine nK hK23 ?_;clear hK23;refine wp_ret ?_;refine bRetC results146 F rfl underlying27 rfl H 4 rfl sizeOf27 rfl ?_
  first
  | (have H0 := H.selT 6 [0, 1, 2, 3, 4] rfl rfl
     have H1 := (own_oneRws (sz := 5) H0 rfl).void (.forest (fun _ => False) (2 * n) [] [v16]) (fun j r kid h1 => by simp at h1) (fun _ hb => hb)
     have H2 := (H1.selT 6 [2, 0, 1, 3, 4, 5] rfl rfl).plant rfl
     have H3 := (H2.grown1 5 0 0 0 rfl (by intro r hr; rw [List.mem_singleton.1 hr]; rfl) (by simp)).deeper 1
     exact Ans.ok (v := .mk 5 0 0 0 [v16]) (by rw [fact_neg h6, hr16]; rfl) ⟨_, _, rfl, _, _, H3⟩)
  | exact Ans.ok (v := v29) (by rw [fact_par h6 h19, hr29]; show (signP c [41] t29).bind _ = _; rw [hr33]; rfl) ⟨_, _, rfl, _, _, H.selT 6 [4, 0, 1, 2] rfl rfl⟩
  | exact Ans.ok (v := .mk 0 0 0 0 []) (by unfold factP; simp only [h6, h19, h35, Rs.bind, if_true, Bool.false_eq_true, if_false, reduceCtorEq]) ⟨_, _, rfl, _, _, own_leaf (2 * n + 1) 0 0 0 0 (H.selT 4 [0, 1, 2] rfl rfl)⟩
  | exact Ans.ok (v := .mk 1 v51 v60 v69 []) (by unfold factP; simp only [h6, h19, h35, hk4, hr51, hr56, hr60, hr65, hr69, Rs.bind, if_true, Bool.false_eq_true, if_false, reduceCtorEq]) ⟨_, _, rfl, _, _, own_leaf (2 * n + 1) 1 v51 v60 v69 (H.selT 5 [0, 1, 2] rfl rfl)⟩
  | exact Ans.ok (v := .mk 2 0 v77 v86 []) (by unfold factP; simp only [h6, h19, h35, hk4, hr77, hr82, hr86, Rs.bind, if_true, Bool.false_eq_true, if_false, reduceCtorEq]) ⟨_, _, rfl, _, _, own_leaf (2 * n + 1) 2 0 v77 v86 (H.selT 5 [0, 1, 2] rfl rfl)⟩
theorem fact_at {c : PX} (hc : c.Ok) (hm : c.ts.length ≤ 900000) (n : Nat) : PartAt c factF (factP c n) (2 * n) n := by
  induction n with
  | zero => intro W w0 rs A C bp S s B D X hp hnl hn H; exact absurd hn (by omega)
  | succ n ih => intro W w0 rs A C bp S s B D X hp hnl hn H; exact ⟨_, [], [], rfl, call146, pfact_step hc hm ih hp hnl hn H⟩
theorem pcond_any {c : PX} (hc : c.Ok) (hm : c.ts.length ≤ 900000) {n : Nat} {W w0 : World} {rs : List Res} {A : Option Addr} {C bp : Nat} {S : Nat → Prop} {s : PS} {B : Option Addr} {D : Nat} {X : List Value} (hp : s.pos ≤ c.ts.length) (hnl : s.names.length ≤ c.lim) (hn : c.ts.length < s.pos + n)
    (H : Own W none w0 (.blk bp (parC c A C s B D X) 66 :: .held S A 3 (rowsT c.ts) :: .nms W c.fixed B D s.names :: rs)) :
    Calls Tryz.prog 69 #[.pointer (some ⟨bp, 0, none⟩)] w0 fun e w' => Ans W rs (disjP c n s) (fun v t e w' => ∃ cs T, e = .returned (.agg cs.toArray) ∧ ∃ B D, Own W none w' (.tree T (2 * n + 2) cs v :: .blk bp (parC c A C t B D X) 66 :: .held S A 3 (rowsT c.ts) :: .nms W c.fixed B D t.names :: rs)) e w' :=
  pdisj_any hc (conj_at hc (fact_at hc hm n)) hp hnl hn H
-- PrO
open Go.RowKit
set_option maxRecDepth 100000
set_option maxHeartbeats 2000000 in
theorem pdeep_any (h : Nat) : ∀ (cs : List Value) (c : Cnd) (w0 : World), CondAt w0 h cs c → depC c ≤ 9223372036854775807 →
    Calls Tryz.prog 58 #[.agg cs.toArray] w0 fun e w' => e = .returned (.int .i64 ((depC c : Nat) : Int)) ∧ Below w0.heap.size w0 w' := by
  induction h with
  | zero => intro cs c w0 hC; exact hC.elim
  | succ h ih =>
    intro cs c w0 hC hd
    obtain ⟨k, t, n, v, kids⟩ := c
    obtain ⟨A, C, rfl, hkl, hK⟩ := hC
    rw [depC] at hd
    have H := Own.start w0 none
    refine enterF Tryz.func58 rfl Tryz.ntmps58 rfl (fun a F => ?_);refine cSR fun K1 hK1=>?_;refine sBx H F rfl rfl rfl ?_;clear F a H; intro b1 a w F H;refine sAs F rfl rfl rfl (qNK hK1 (qSR fun K2 hK2=>qAs rfl rfl rfl (qNK hK2 ?_)));clear hK1 hK2;clear F a;intro a F;refine cSeq (fun K3 hK3 => ?_);refine cSR fun K4 hK4=>sFa (f := 4) (k := 4) Tryz.underlying27 rfl Tryz.sizeOf25 rfl rfl F rfl rfl rfl (qLd Tryz.isAgg25 rfl rfl rfl (H.cell 0 rfl rfl) (qLen Tryz.underlying25 rfl rfl rfl (qMv rfl rfl rfl (qNK hK4 ?_))));clear hK4;clear F a;intro a F;refine wp_block ?_
    refine cLoopR [7, 8] (fun m ups w => ∃ j d : Nat, m = kids.length - j ∧ ups = [(3, .int .i64 ((d : Nat) : Int)), (9, .int .i64 ((j : Nat) : Int))] ∧ j ≤ kids.length ∧ max d (depC.depL (kids.drop j)) = depC.depL kids ∧ Own w0 none w [.blk b1 [Go.Proofs.YtkchaoajegkadaaGreatDoor.b8 k, Go.Proofs.YtkchaoajegkadaaGreatDoor.b8 t, Go.Proofs.YtkchaoajegkadaaGreatDoor.b8 n, Go.Proofs.YtkchaoajegkadaaGreatDoor.b8 v, .slice A kids.length C] 27]) F (kids.length) [(3, .int .i64 ((0 : Nat) : Int)), (9, .int .i64 ((0 : Nat) : Int))] (by repeat (first | exact SubR.nil | (apply SubR.cons; · rfl))) ?_ ?_ ?_
    · exact ⟨0, 0, rfl, rfl, by omega, by simp, H⟩
    · repeat (first | exact trivial | refine Le.cons rfl ?_)
    clear F
    clear H
    intro m ups a w hI F
    obtain ⟨j, d, rfl, rfl, hj, ht, H⟩ := hI
    refine cSR fun K5 hK5=>sBin F rfl rfl rfl rfl bLss (qNK hK5 ?_);clear hK5;clear F a;intro a F;refine cSeq (fun K6 hK6 => ?_)
    refine cIf F rfl (fun h10 => ?_) (fun h10 => ?_)
    ·
     replace h10 := of_decide_eq_true h10
     have hjl : j < kids.length := by omega
     obtain ⟨kid, hx⟩ : ∃ x, kids[j]? = some x := ⟨_, List.getElem?_eq_getElem hjl⟩
     have hdr : kids.drop j = kid :: kids.drop (j + 1) := by
       obtain ⟨_, rfl⟩ := List.getElem?_eq_some_iff.1 hx
       exact List.drop_eq_getElem_cons hjl
     rw [hdr, depC.depL] at ht
     obtain ⟨b', off', cs', rfl, hR', hC'⟩ := hK j kid hx
     obtain ⟨k0, k1, k2, k3, A0, m0, C0, rfl⟩ := condShape hC'
     refine wp_skip (hK6 _ _ ?_);clear hK6;refine cSeq (fun K7 hK7 => ?_);refine wp_block ?_;refine cSR fun K8 hK8=>?_
     refine sIx Tryz.underlying25 Tryz.sizeOf27 F rfl rfl rfl rfl ?_ ?_
     focus (first | omega | decide | (simp; omega))
     clear F a; intro a F
     refine sLr Tryz.underlying27 rfl ?si F rfl rfl rfl (H.argR hR') ?_
     case si => exact info_size Tryz.sizeOf27
     clear F a; intro a F;refine sAl H Tryz.zeroValue27 F rfl rfl ?_;clear F a H; intro b5 a w F H
     refine sSr H 0 ?si F rfl rfl rfl ?s1 rfl rfl ?_
     case si => exact info_size Tryz.sizeOf27
     case s1 => first | rfl | (repeat (first | exact one_nil | (apply one_cons; · first | rfl | assumption | exact one_bif rfl rfl)))
     clear H; intro w H;refine nK hK8 (cReg (sMv F rfl rfl rfl ?_));clear hK8;clear F a;intro a F
     refine sLr Tryz.underlying27 rfl ?si F rfl rfl rfl (H.whole 0 rfl) ?_
     case si => exact info_size Tryz.sizeOf27
     clear F a; intro a F;refine sCall Tryz.call58 F rfl rfl rfl (ih _ kid _ (CondAt.grown H.grown rfl _ _ _ hC') (by omega)) ?_;rintro e w ⟨rfl, hb⟩;replace H := H.grow hb; clear hb;refine ⟨_, rfl, ?_⟩;clear F a; intro a F;refine sMaxN F rfl rfl rfl rfl (qAs rfl rfl rfl (qNK hK7 (qReg ?_)));clear hK7;clear F a;intro a F
     refine sBin F rfl rfl rfl rfl (bAddN (j := 1) ?_) ?_
     focus omega
     clear F a; intro a F;refine sMv F rfl rfl rfl ?_;clear F a;intro a F;refine sNil ?_
     exact ⟨_, by omega, _, ⟨j + 1, max d (depC kid), rfl, rfl, by omega, by rw [← ht, Nat.max_assoc], H.tail⟩, F.to (by repeat (first | exact trivial | refine Le.cons rfl ?_))⟩
    replace h10 := of_decide_eq_false h10;rw [List.drop_eq_nil_of_le (by omega)] at ht
    have hd2 : d = depC.depL kids := by rw [← ht]; simp [depC.depL]
    subst hd2;refine wp_exit ?_;refine hK3 _ _ (cSR fun K9 hK9=>sMv F rfl rfl rfl ?_);clear hK3;clear F a;intro a F
    refine sBin F rfl rfl rfl rfl (bAddN (j := 1) ?_) ?_
    focus omega
    clear F a; intro a F;refine sAs F rfl rfl rfl (qNK hK9 ?_);clear hK9;clear F a;intro a F;refine wp_ret ?_;refine bRet Tryz.results58 F rfl ?_
    exact ⟨rfl, H.below⟩
-- PrRX
open Go.Proofs.Tryz
open Go.RowKit
set_option maxRecDepth 100000
theorem eq_nat {a b : Nat} : (((a : Int) == (b : Int)) = true ↔ a = b) ∧ (((a : Int) == (b : Int)) = false ↔ a ≠ b) := by
  refine ⟨?_, ?_⟩
  · rw [beq_iff_eq]; omega
  · rw [beq_eq_false_iff_ne]; omega
theorem no_text {w : ByteArray} : (!(w.toList == (⟨#[]⟩ : ByteArray).toList)) = !decide (w.toList = []) := by
  rw [show (⟨#[]⟩ : ByteArray).toList = [] from lit_toList []]
  cases w.toList <;> rfl
theorem ptest_any {W w0 : World} {rs : List Res} {c : PX} (hc : c.Ok) {A : Option Addr} {C bp : Nat} {S : Nat → Prop} {s : PS} {B : Option Addr} {D : Nat} (q : QL) {L I T K a1 a2 a3 a4 a5 qy : Value} (hp : s.pos ≤ 999000) (H : Own W none w0 (.blk bp (parC c A C s B D [.string q.name, L, I, T, K, a1, a2, a3, a4, a5, .int .i64 (q.wh : Int), qy]) 66 :: .held S A 3 (rowsT c.ts) :: .nms W c.fixed B D s.names :: rs)) :
    Calls Tryz.prog 96 #[.pointer (some ⟨bp, 0, none⟩)] w0 fun e w' => Ans W rs (testL c q s) (fun v t e w' => e = .returned (.tuple #[]) ∧ v = { q with name := v.name, wh := v.wh } ∧ Own W none w' (.blk bp (parC c A C t B D [.string v.name, L, I, T, K, a1, a2, a3, a4, a5, .int .i64 (v.wh : Int), qy]) 66 :: .held S A 3 (rowsT c.ts) :: .nms W c.fixed B D t.names :: rs)) e w' := by
  refine enterF func96 rfl ntmps96 rfl (fun a F => ?_);refine cSR fun K1 hK1=>sMv F rfl rfl rfl (qMv rfl rfl rfl (qNc rfl rfl rfl (qFa (f := 4) (k := 15) underlying66 rfl sizeOf3 rfl rfl rfl rfl rfl (qLd isAgg3 rfl rfl rfl (H.cell 0 rfl rfl) (qBin rfl rfl rfl rfl bEql ?_)))));clear F a;intro a F;refine sCallP call64 F rfl rfl rfl (pneed_any _ hc (s := s) (by (try simp only [PS.next]); omega) H) ?_;rintro e w hq9
  rcases hq9.cases with ⟨p9, e9, hn8, rfl, H⟩ | ⟨v8, t8, hr8, rfl, H⟩
  ·
   refine .inl ⟨_, rfl, ?_⟩
   exact And.intro F.nod (Ans.no (by obtain ⟨h1, rfl, rfl⟩ := need_no hn8; unfold testL; rw [if_neg ((eq_nat (b := 0)).2.1 h1)]; rfl) H.tail)
  obtain ⟨hk, rfl⟩ := need_ok hr8; have hw : q.wh = 0 := (eq_nat (b := 0)).1.1 hk
  refine .inr ⟨_, rfl, ?_⟩
  clear F a; intro a F;refine nK hK1 (cSR fun K2 hK2=>sMv F rfl rfl rfl (qNc rfl rfl rfl (qFa (f := 0) (k := 0) underlying66 rfl sizeOf64 rfl rfl rfl rfl rfl ?_)));clear hK1;clear F a;intro a F;refine sCall call102 F rfl rfl rfl (pstep_any hc (by (try simp only [PS.next]); omega) H) ?_;rintro e w ⟨rfl, H⟩;refine ⟨_, rfl, ?_⟩;clear F a; intro a F;refine nK hK2 (cSR fun K3 hK3=>sMv F rfl rfl rfl (qMv rfl rfl rfl (qNc rfl rfl rfl (qFa (f := 0) (k := 0) underlying66 rfl sizeOf64 rfl rfl rfl rfl rfl ?_))));clear hK2;clear F a;intro a F;refine sCall call54 F rfl rfl rfl (pword_any hc (by (try simp only [PS.next]); omega) H) ?_;rintro e w ⟨rfl, H⟩;refine ⟨_, rfl, ?_⟩;clear F a; intro a F;refine sBin F rfl rfl rfl rfl bStrNe ?_;clear F a;intro a F;refine sCallP call64 F rfl rfl rfl (pneed_any _ hc (s := s.next) (by (try simp only [PS.next]); omega) H) ?_;rintro e w hq9
  rcases hq9.cases with ⟨p9, e9, hn19, rfl, H⟩ | ⟨v19, t19, hr19, rfl, H⟩
  ·
   refine .inl ⟨_, rfl, ?_⟩
   exact And.intro F.nod (Ans.no (by obtain ⟨h1, rfl, rfl⟩ := need_no hn19; rw [no_text] at h1; unfold testL; rw [if_pos hw, if_pos (by simpa using h1)]; rfl) H.tail)
  obtain ⟨hk2, rfl⟩ := need_ok hr19; rw [no_text] at hk2; have hne : ¬ (c.word s.next.pos).toList = [] := by simpa using hk2
  refine .inr ⟨_, rfl, ?_⟩
  clear F a; intro a F;refine nK hK3 (cSR fun K4 hK4=>sMv F rfl rfl rfl (qMv rfl rfl rfl (qNc rfl rfl rfl (qFa (f := 0) (k := 0) underlying66 rfl sizeOf64 rfl rfl rfl rfl rfl ?_))));clear hK3;clear F a;intro a F;refine sCall call54 F rfl rfl rfl (pword_any hc (by (try simp only [PS.next]); omega) H) ?_;rintro e w ⟨rfl, H⟩;refine ⟨_, rfl, ?_⟩;clear F a; intro a F;refine sNc F rfl rfl rfl (qFa (f := 3) (k := 5) underlying66 rfl sizeOf29 rfl rfl rfl rfl rfl (qFa (f := 0) (k := 5) underlying29 rfl sizeOf9 rfl rfl rfl rfl rfl ?_));clear F a;intro a F;refine sSt H 0 sizeOf9 F rfl rfl rfl rfl rfl rfl ?_;clear H; intro w H;refine nK hK4 (cSR fun K5 hK5=>sMv F rfl rfl rfl (qNc rfl rfl rfl (qFa (f := 0) (k := 0) underlying66 rfl sizeOf64 rfl rfl rfl rfl rfl ?_)));clear hK4;clear F a;intro a F;refine sCall call102 F rfl rfl rfl (pstep_any (s := s.next) hc (by (try simp only [PS.next]); omega) H) ?_;rintro e w ⟨rfl, H⟩;refine ⟨_, rfl, ?_⟩;clear F a; intro a F;refine nK hK5 (cReg (sMv F rfl rfl rfl (qNc rfl rfl rfl (qFa (f := 4) (k := 15) underlying66 rfl sizeOf3 rfl rfl rfl rfl rfl ?_))));clear hK5;clear F a;intro a F;refine sSt H 0 sizeOf3 F rfl rfl rfl rfl rfl rfl ?_;clear H; intro w H;refine sNil ?_
  first | refine bEnd results96 F ?_ | (simp only [Exit.then, Exit.inBlock, if_true]; (repeat (first | rw [if_pos rfl] | rw [if_neg (by decide)])); refine bEnd results96 F ?_)
  exact Ans.ok (v := { q with name := c.word s.next.pos, wh := 1 }) (by unfold testL; rw [if_pos hw, if_neg hne]) ⟨rfl, rfl, H⟩
end Go.Proofs.YtkchaoajegkadaaGreatDoor

namespace Go.Proofs.YtkchaoajegkadaaGreatDoor
open Go.Proofs.Tryz
open Go.RowKit
set_option maxRecDepth 100000
def AskW (c : PX) (i : Nat) (k : UInt8) : Prop := k = 1 ∧ c.kw i [115, 111, 109, 101] = true ∨ k = 2 ∧ c.kw i [110, 111, 110, 101] = true ∨ k = 3 ∧ c.kw i [97, 108, 108] = true
theorem kw_text {c : PX} {i : Nat} {l : List UInt8} (h : c.kw i l = true) : (c.word i).toList = l := eq_of_beq h
set_option maxHeartbeats 4000000 in
theorem pask_any (k : UInt8) {W w0 : World} {rs : List Res} {c : PX} (hc : c.Ok) (hm : c.ts.length ≤ 900000) {A : Option Addr} {C bp : Nat} {S : Nat → Prop} {s : PS} {B : Option Addr} {D : Nat} (q : QL) {L I K aq a1 a2 a3 a4 a5 qy : Value} (hp : s.pos < c.ts.length) (hnl : s.names.length ≤ c.lim) (H : Own W none w0 (.blk bp (parC c A C s B D [.string q.name, L, I, K, aq, a1, a2, a3, a4, a5, .int .i64 (q.wh : Int), qy]) 66 :: .held S A 3 (rowsT c.ts) :: .nms W c.fixed B D s.names :: rs)) (hk : AskW c s.pos k) :
    Calls Tryz.prog 99 #[.pointer (some ⟨bp, 0, none⟩)] w0 fun e w' => Ans W rs (askL c k q s) (fun v t e w' => e = .returned (.tuple #[]) ∧ v = { q with ask := v.ask, cond := v.cond, wh := v.wh, query := v.query } ∧ ∃ T h b1 b2 b3 b4 b5 B D, h ≤ 2000000 ∧ Own W none w' (.tree T h [b1, b2, b3, b4, b5] v.cond :: .blk bp (parC c A C t B D [.string v.name, L, I, K, b8 v.ask, b1, b2, b3, b4, b5, .int .i64 (v.wh : Int), .int .i64 (v.query : Int)]) 66 :: .held S A 3 (rowsT c.ts) :: .nms W c.fixed B D t.names :: rs)) e w' := by
  refine enterF func99 rfl ntmps99 rfl (fun a F => ?_);refine cSR fun K1 hK1=>sMv F rfl rfl rfl (qMv rfl rfl rfl (qNc rfl rfl rfl (qFa (f := 4) (k := 15) underlying66 rfl sizeOf3 rfl rfl rfl rfl rfl (qLd isAgg3 rfl rfl rfl (H.cell 0 rfl rfl) (qBin rfl rfl rfl rfl bEql ?_)))));clear F a;intro a F;refine sCallP call64 F rfl rfl rfl (pneed_any _ hc (s := s) (by (try simp only [PS.next]); omega) H) ?_;rintro e w hq9
  rcases hq9.cases with ⟨p9, e9, hn8, rfl, H⟩ | ⟨v8, t8, hr8, rfl, H⟩
  ·
   refine .inl ⟨_, rfl, ?_⟩
   exact And.intro F.nod (Ans.no (by obtain ⟨h1, rfl, rfl⟩ := need_no hn8; unfold askL; rw [if_neg ((eq_nat (b := 3)).2.1 h1)]; rfl) H.tail)
  obtain ⟨hk0, rfl⟩ := need_ok hr8; have hw : q.wh = 3 := (eq_nat (b := 3)).1.1 hk0
  refine .inr ⟨_, rfl, ?_⟩
  clear F a; intro a F;refine nK hK1 (cSR fun K2 hK2=>sMv F rfl rfl rfl (qMv rfl rfl rfl (qNc rfl rfl rfl (qFa (f := 0) (k := 0) underlying66 rfl sizeOf64 rfl rfl rfl rfl rfl ?_))));clear hK1;clear F a;intro a F;refine sCall call52 F rfl rfl rfl (pplace_any hc (by (try simp only [PS.next]); omega) H) ?_;rintro e w ⟨rfl, H⟩;refine ⟨_, rfl, ?_⟩;clear F a; intro a F;refine sNc F rfl rfl rfl (qFa (f := 5) (k := 16) underlying66 rfl sizeOf3 rfl rfl rfl rfl rfl ?_);clear F a;intro a F;refine sSt H 0 sizeOf3 F rfl rfl rfl rfl rfl rfl ?_;clear H; intro w H;refine nK hK2 ?_;clear hK2;refine cSeq (fun K3 hK3 => ?_);refine cSR fun K4 hK4=>sMv F rfl rfl rfl (qNc rfl rfl rfl (qFa (f := 0) (k := 0) underlying66 rfl sizeOf64 rfl rfl rfl rfl rfl ?_));clear F a;intro a F;refine sCall call54 F rfl rfl rfl (pword_any (s := s) hc (by (try simp only [PS.next]); omega) H) ?_;rintro e w ⟨rfl, H⟩;refine ⟨_, rfl, ?_⟩;clear F a; intro a F;refine nK hK4 ?_;clear hK4;refine wp_block ?_;refine cSR fun K5 hK5=>sBin F rfl rfl rfl rfl bStrEq (qAs rfl rfl rfl (qNK hK5 ?_));clear hK5;clear F a;intro a F
  refine cIf F rfl (fun h20 => ?_) (fun h20 => ?_)
  ·
   replace h20 := beqT h20
   have h20 := h20.trans (lit_toList [115, 111, 109, 101])
   obtain rfl : k = 1 := by
     rcases hk with ⟨h, _⟩ | ⟨_, h⟩ | ⟨_, h⟩
     · exact h
     · rw [kw_text h] at h20; exact absurd h20 (by decide)
     · rw [kw_text h] at h20; exact absurd h20 (by decide)
   refine cReg (sMv F rfl rfl rfl (qNc rfl rfl rfl (qFa (f := 3) (k := 5) underlying66 rfl sizeOf29 rfl rfl rfl rfl rfl (qFa (f := 4) (k := 9) underlying29 rfl sizeOf5 rfl rfl rfl rfl rfl ?_))));clear F a;intro a F;refine sSt H 0 sizeOf5 F rfl rfl rfl rfl rfl rfl ?_;clear H; intro w H;refine nK hK3 (cSR fun K6 hK6=>sMv F rfl rfl rfl (qNc rfl rfl rfl (qFa (f := 0) (k := 0) underlying66 rfl sizeOf64 rfl rfl rfl rfl rfl ?_)));clear hK3;clear F a;intro a F;refine sCall call102 F rfl rfl rfl (pstep_any (s := s) hc (by (try simp only [PS.next]); omega) H) ?_;rintro e w ⟨rfl, H⟩;refine ⟨_, rfl, ?_⟩;clear F a; intro a F;refine nK hK6 (cSR fun K7 hK7=>sMv F rfl rfl rfl (qMv rfl rfl rfl ?_));clear hK6;clear F a;intro a F;refine sCallP call69 F rfl rfl rfl (pcond_any (s := s.next) (n := c.ts.length + 1) hc hm hp hnl (by show c.ts.length < s.pos + 1 + (c.ts.length + 1); omega) H) ?_;rintro e w hq9
   rcases hq9.cases with ⟨p9, e9, hn44, rfl, H⟩ | ⟨v44, t44, hr44, cs44, T44, rfl, B44, D44, H⟩
   ·
    refine .inl ⟨_, rfl, ?_⟩
    exact And.intro F.nod (Ans.no (by unfold askL; rw [if_pos hw, hn44]; rfl) H)
   obtain ⟨k0, t0, n0, v0, A0, m0, C0, rfl⟩ := condShape (H.pred 0 _ rfl : TreeIn T44 _ _ cs44 v44).at
   refine .inr ⟨_, rfl, ?_⟩
   clear F a; intro a F;refine sNc F rfl rfl rfl (qFa (f := 3) (k := 5) underlying66 rfl sizeOf29 rfl rfl rfl rfl rfl (qFa (f := 5) (k := 10) underlying29 rfl sizeOf27 rfl rfl rfl rfl rfl ?_));clear F a;intro a F
   refine sSr H 1 ?si F rfl rfl rfl ?s1 rfl rfl ?_
   case si => exact info_size sizeOf27
   case s1 => first | rfl | (repeat (first | exact one_nil | (apply one_cons; · first | rfl | assumption | exact one_bif rfl rfl)))
   clear H; intro w H;refine nK hK7 (cReg (sMv F rfl rfl rfl (qNc rfl rfl rfl (qFa (f := 4) (k := 15) underlying66 rfl sizeOf3 rfl rfl rfl rfl rfl ?_))));clear hK7;clear F a;intro a F;refine sSt H 1 sizeOf3 F rfl rfl rfl rfl rfl rfl ?_;clear H; intro w H;refine sNil ?_
   first | refine bEnd results99 F ?_ | (simp only [Exit.then, Exit.inBlock, if_true]; (repeat (first | rw [if_pos rfl] | rw [if_neg (by decide)])); refine bEnd results99 F ?_)
   first | exact Ans.ok (v := { q with ask := 1, cond := v44, wh := 4, query := c.place s.pos }) (by unfold askL; rw [if_pos hw, hr44]; rfl) ⟨rfl, rfl, _, _, _, _, _, _, _, _, _, by omega, H⟩ | exact Ans.ok (v := { q with ask := 2, cond := v44, wh := 4, query := c.place s.pos }) (by unfold askL; rw [if_pos hw, hr44]; rfl) ⟨rfl, rfl, _, _, _, _, _, _, _, _, _, by omega, H⟩ | exact Ans.ok (v := { q with ask := 3, cond := v44, wh := 4, query := c.place s.pos }) (by unfold askL; rw [if_pos hw, hr44]; rfl) ⟨rfl, rfl, _, _, _, _, _, _, _, _, _, by omega, H⟩
  replace h20 := beqF h20;refine cSR fun K8 hK8=>sBin F rfl rfl rfl rfl bStrEq (qAs rfl rfl rfl (qNK hK8 ?_));clear hK8;clear F a;intro a F
  refine cIf F rfl (fun h26 => ?_) (fun h26 => ?_)
  ·
   replace h26 := beqT h26
   have h26 := h26.trans (lit_toList [110, 111, 110, 101])
   obtain rfl : k = 2 := by
     rcases hk with ⟨_, h⟩ | ⟨h, _⟩ | ⟨_, h⟩
     · rw [kw_text h] at h26; exact absurd h26 (by decide)
     · exact h
     · rw [kw_text h] at h26; exact absurd h26 (by decide)
   refine cReg (sMv F rfl rfl rfl (qNc rfl rfl rfl (qFa (f := 3) (k := 5) underlying66 rfl sizeOf29 rfl rfl rfl rfl rfl (qFa (f := 4) (k := 9) underlying29 rfl sizeOf5 rfl rfl rfl rfl rfl ?_))));clear F a;intro a F;refine sSt H 0 sizeOf5 F rfl rfl rfl rfl rfl rfl ?_;clear H; intro w H;refine nK hK3 (cSR fun K9 hK9=>sMv F rfl rfl rfl (qNc rfl rfl rfl (qFa (f := 0) (k := 0) underlying66 rfl sizeOf64 rfl rfl rfl rfl rfl ?_)));clear hK3;clear F a;intro a F;refine sCall call102 F rfl rfl rfl (pstep_any (s := s) hc (by (try simp only [PS.next]); omega) H) ?_;rintro e w ⟨rfl, H⟩;refine ⟨_, rfl, ?_⟩;clear F a; intro a F;refine nK hK9 (cSR fun K10 hK10=>sMv F rfl rfl rfl (qMv rfl rfl rfl ?_));clear hK9;clear F a;intro a F;refine sCallP call69 F rfl rfl rfl (pcond_any (s := s.next) (n := c.ts.length + 1) hc hm hp hnl (by show c.ts.length < s.pos + 1 + (c.ts.length + 1); omega) H) ?_;rintro e w hq9
   rcases hq9.cases with ⟨p9, e9, hn44, rfl, H⟩ | ⟨v44, t44, hr44, cs44, T44, rfl, B44, D44, H⟩
   ·
    refine .inl ⟨_, rfl, ?_⟩
    exact And.intro F.nod (Ans.no (by unfold askL; rw [if_pos hw, hn44]; rfl) H)
   obtain ⟨k0, t0, n0, v0, A0, m0, C0, rfl⟩ := condShape (H.pred 0 _ rfl : TreeIn T44 _ _ cs44 v44).at
   refine .inr ⟨_, rfl, ?_⟩
   clear F a; intro a F;refine sNc F rfl rfl rfl (qFa (f := 3) (k := 5) underlying66 rfl sizeOf29 rfl rfl rfl rfl rfl (qFa (f := 5) (k := 10) underlying29 rfl sizeOf27 rfl rfl rfl rfl rfl ?_));clear F a;intro a F
   refine sSr H 1 ?si F rfl rfl rfl ?s1 rfl rfl ?_
   case si => exact info_size sizeOf27
   case s1 => first | rfl | (repeat (first | exact one_nil | (apply one_cons; · first | rfl | assumption | exact one_bif rfl rfl)))
   clear H; intro w H;refine nK hK10 (cReg (sMv F rfl rfl rfl (qNc rfl rfl rfl (qFa (f := 4) (k := 15) underlying66 rfl sizeOf3 rfl rfl rfl rfl rfl ?_))));clear hK10;clear F a;intro a F;refine sSt H 1 sizeOf3 F rfl rfl rfl rfl rfl rfl ?_;clear H; intro w H;refine sNil ?_
   first | refine bEnd results99 F ?_ | (simp only [Exit.then, Exit.inBlock, if_true]; (repeat (first | rw [if_pos rfl] | rw [if_neg (by decide)])); refine bEnd results99 F ?_)
   first | exact Ans.ok (v := { q with ask := 1, cond := v44, wh := 4, query := c.place s.pos }) (by unfold askL; rw [if_pos hw, hr44]; rfl) ⟨rfl, rfl, _, _, _, _, _, _, _, _, _, by omega, H⟩ | exact Ans.ok (v := { q with ask := 2, cond := v44, wh := 4, query := c.place s.pos }) (by unfold askL; rw [if_pos hw, hr44]; rfl) ⟨rfl, rfl, _, _, _, _, _, _, _, _, _, by omega, H⟩ | exact Ans.ok (v := { q with ask := 3, cond := v44, wh := 4, query := c.place s.pos }) (by unfold askL; rw [if_pos hw, hr44]; rfl) ⟨rfl, rfl, _, _, _, _, _, _, _, _, _, by omega, H⟩
  replace h26 := beqF h26;refine cSR fun K11 hK11=>sBin F rfl rfl rfl rfl bStrEq (qAs rfl rfl rfl (qNK hK11 ?_));clear hK11;clear F a;intro a F
  refine cIf F rfl (fun h32 => ?_) (fun h32 => ?_)
  ·
   replace h32 := beqT h32
   have h32 := h32.trans (lit_toList [97, 108, 108])
   obtain rfl : k = 3 := by
     rcases hk with ⟨_, h⟩ | ⟨_, h⟩ | ⟨h, _⟩
     · rw [kw_text h] at h32; exact absurd h32 (by decide)
     · rw [kw_text h] at h32; exact absurd h32 (by decide)
     · exact h
   refine cReg (sMv F rfl rfl rfl (qNc rfl rfl rfl (qFa (f := 3) (k := 5) underlying66 rfl sizeOf29 rfl rfl rfl rfl rfl (qFa (f := 4) (k := 9) underlying29 rfl sizeOf5 rfl rfl rfl rfl rfl ?_))));clear F a;intro a F;refine sSt H 0 sizeOf5 F rfl rfl rfl rfl rfl rfl ?_;clear H; intro w H;refine nK hK3 (cSR fun K12 hK12=>sMv F rfl rfl rfl (qNc rfl rfl rfl (qFa (f := 0) (k := 0) underlying66 rfl sizeOf64 rfl rfl rfl rfl rfl ?_)));clear hK3;clear F a;intro a F;refine sCall call102 F rfl rfl rfl (pstep_any (s := s) hc (by (try simp only [PS.next]); omega) H) ?_;rintro e w ⟨rfl, H⟩;refine ⟨_, rfl, ?_⟩;clear F a; intro a F;refine nK hK12 (cSR fun K13 hK13=>sMv F rfl rfl rfl (qMv rfl rfl rfl ?_));clear hK12;clear F a;intro a F;refine sCallP call69 F rfl rfl rfl (pcond_any (s := s.next) (n := c.ts.length + 1) hc hm hp hnl (by show c.ts.length < s.pos + 1 + (c.ts.length + 1); omega) H) ?_;rintro e w hq9
   rcases hq9.cases with ⟨p9, e9, hn44, rfl, H⟩ | ⟨v44, t44, hr44, cs44, T44, rfl, B44, D44, H⟩
   ·
    refine .inl ⟨_, rfl, ?_⟩
    exact And.intro F.nod (Ans.no (by unfold askL; rw [if_pos hw, hn44]; rfl) H)
   obtain ⟨k0, t0, n0, v0, A0, m0, C0, rfl⟩ := condShape (H.pred 0 _ rfl : TreeIn T44 _ _ cs44 v44).at
   refine .inr ⟨_, rfl, ?_⟩
   clear F a; intro a F;refine sNc F rfl rfl rfl (qFa (f := 3) (k := 5) underlying66 rfl sizeOf29 rfl rfl rfl rfl rfl (qFa (f := 5) (k := 10) underlying29 rfl sizeOf27 rfl rfl rfl rfl rfl ?_));clear F a;intro a F
   refine sSr H 1 ?si F rfl rfl rfl ?s1 rfl rfl ?_
   case si => exact info_size sizeOf27
   case s1 => first | rfl | (repeat (first | exact one_nil | (apply one_cons; · first | rfl | assumption | exact one_bif rfl rfl)))
   clear H; intro w H;refine nK hK13 (cReg (sMv F rfl rfl rfl (qNc rfl rfl rfl (qFa (f := 4) (k := 15) underlying66 rfl sizeOf3 rfl rfl rfl rfl rfl ?_))));clear hK13;clear F a;intro a F;refine sSt H 1 sizeOf3 F rfl rfl rfl rfl rfl rfl ?_;clear H; intro w H;refine sNil ?_
   first | refine bEnd results99 F ?_ | (simp only [Exit.then, Exit.inBlock, if_true]; (repeat (first | rw [if_pos rfl] | rw [if_neg (by decide)])); refine bEnd results99 F ?_)
   first | exact Ans.ok (v := { q with ask := 1, cond := v44, wh := 4, query := c.place s.pos }) (by unfold askL; rw [if_pos hw, hr44]; rfl) ⟨rfl, rfl, _, _, _, _, _, _, _, _, _, by omega, H⟩ | exact Ans.ok (v := { q with ask := 2, cond := v44, wh := 4, query := c.place s.pos }) (by unfold askL; rw [if_pos hw, hr44]; rfl) ⟨rfl, rfl, _, _, _, _, _, _, _, _, _, by omega, H⟩ | exact Ans.ok (v := { q with ask := 3, cond := v44, wh := 4, query := c.place s.pos }) (by unfold askL; rw [if_pos hw, hr44]; rfl) ⟨rfl, rfl, _, _, _, _, _, _, _, _, _, by omega, H⟩
  replace h32 := beqF h32
  rcases hk with ⟨_, h⟩ | ⟨_, h⟩ | ⟨_, h⟩
  · exact (h20 ((kw_text h).trans (lit_toList [115, 111, 109, 101]).symm)).elim
  · exact (h26 ((kw_text h).trans (lit_toList [110, 111, 110, 101]).symm)).elim
  · exact (h32 ((kw_text h).trans (lit_toList [97, 108, 108]).symm)).elim
end Go.Proofs.YtkchaoajegkadaaGreatDoor

namespace Go.Proofs.YtkchaoajegkadaaGreatDoor
open Go.Proofs.Tryz
open Go.RowKit
set_option maxRecDepth 100000
theorem pins_any (k : Nat) {W w0 : World} {rs : List Res} {c : PX} (hc : c.Ok) {A : Option Addr} {C bp : Nat} {S : Nat → Prop} {s : PS} {B : Option Addr} {D : Nat} {X : List Value} (hp : s.pos ≤ 998000) (hnl : s.names.length ≤ c.lim) (H : Own W none w0 (.blk bp (parC c A C s B D X) 66 :: .held S A 3 (rowsT c.ts) :: .nms W c.fixed B D s.names :: rs)) :
    CallsF Tryz.prog (insF k) [.pointer (some ⟨bp, 0, none⟩)] w0 (fun e w' => Ans W rs (insP c k s) (fun v t e w' => e = .returned (.agg v.cells.toArray) ∧ ∃ B D, Own W none w' (.blk bp (parC c A C t B D X) 66 :: .held S A 3 (rowsT c.ts) :: .nms W c.fixed B D t.names :: rs)) e w') := by
  unfold insF insP
  by_cases h0 : k = 0
  · rw [if_pos h0, if_pos h0]
    exact ⟨_, [], [], rfl, call136, pfence_any hc (by omega) hnl H⟩
  rw [if_neg h0, if_neg h0]
  by_cases h1 : k = 1
  · rw [if_pos h1, if_pos h1]
    exact ⟨_, [], [], rfl, call137, pskip_any hc (by omega) hnl H⟩
  rw [if_neg h1, if_neg h1]
  by_cases h2 : k = 2
  · rw [if_pos h2, if_pos h2]
    exact ⟨_, [], [], rfl, call117, passign_any hc (by omega) hnl H⟩
  rw [if_neg h2, if_neg h2]
  exact ⟨_, [], [], rfl, call118, pstore_any hc (by omega) hnl H⟩
end Go.Proofs.YtkchaoajegkadaaGreatDoor
