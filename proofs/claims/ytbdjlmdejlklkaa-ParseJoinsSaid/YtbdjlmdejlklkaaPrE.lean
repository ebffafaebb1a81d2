/-
  WALK2. Package parse: skip, move. Conditions: the parser, its tokens and names lie in memory.
-/
import Derived.Test.YtbdjlmdejlklkaaPrD
set_option linter.unusedSimpArgs false
set_option linter.unusedVariables false
namespace Go.Proofs.Ytbdjlmdejlklkaa
open Go.RowKit
set_option maxRecDepth 100000
set_option maxHeartbeats 4000000 in
theorem pskip_any {W w0 : World} {rs : List Res} {c : PX} (hc : c.Ok) {A : Option Addr} {C bp : Nat} {S : Nat → Prop} {s : PS} {B : Option Addr} {D : Nat} {X : List Value} (hp : s.pos ≤ 999000) (hnl : s.names.length ≤ c.lim) (H : Own W none w0 (.blk bp (parC c A C s B D X) 59 :: .held S A 3 (rowsT c.ts) :: .nms W c.fixed B D s.names :: rs)) :
    Calls Try.prog 85 #[.pointer (some ⟨bp, 0, none⟩)] w0 fun e w' => Ans W rs (skipP c s) (fun v t e w' => e = .returned (.agg v.cells.toArray) ∧ ∃ B D, Own W none w' (.blk bp (parC c A C t B D X) 59 :: .held S A 3 (rowsT c.ts) :: .nms W c.fixed B D t.names :: rs)) e w' := by
  refine enterF Try.func85 rfl Try.ntmps85 rfl (fun a F => ?_)
  refine cSeq (fun K1 hK1 => ?_)
  refine cReg ?_
  refine sAl H Try.zeroValue42 F rfl rfl ?_
  clear F a H; intro b2 a w F H
  refine sNil ?_
  refine hK1 _ _ ?_; clear hK1
  refine cSeq (fun K2 hK2 => ?_)
  refine cReg ?_
  refine sMv F rfl rfl rfl ?_;clear F a;intro a F
  refine sNc F rfl rfl rfl ?_;clear F a;intro a F
  refine sFa (f := 0) (k := 0) Try.underlying59 rfl Try.sizeOf57 rfl rfl F rfl rfl rfl ?_;clear F a;intro a F
  refine sCall Try.call48 F rfl rfl rfl (pstep_any hc (by omega) (H.selT 4 [1, 2, 3, 0] rfl rfl)) ?_
  rintro e w ⟨rfl, H⟩
  refine ⟨_, rfl, ?_⟩
  clear F a; intro a F
  refine sNil ?_
  refine hK2 _ _ ?_; clear hK2
  refine cSeq (fun K3 hK3 => ?_)
  refine cReg ?_
  refine sMv F rfl rfl rfl ?_;clear F a;intro a F
  refine sNc F rfl rfl rfl ?_;clear F a;intro a F
  refine sFa (f := 0) (k := 0) Try.underlying59 rfl Try.sizeOf57 rfl rfl F rfl rfl rfl ?_;clear F a;intro a F
  refine sCallP Try.call73 F rfl rfl rfl (pnum_any hc (by (try simp only [PS.next]); omega) H) ?_
  rintro e w hq9
  rcases hq9.cases with ⟨p9, e9, hn11, rfl, H⟩ | ⟨v11, t11, hr11, rfl, H⟩
  ·
   refine .inl ⟨_, rfl, ?_⟩
   exact And.intro F.nod (Ans.no (by unfold skipP; simp only [hn11, Rs.bind]) H.tail.tail)
  obtain rfl := (numQ_all v11 t11 hr11).2
  refine .inr ⟨_, rfl, ?_⟩
  clear F a; intro a F
  refine sBd (places := [(0, 1), (1, 1), (2, 1), (3, 2), (5, 2), (7, 1), (8, 1), (9, 1)]) Try.zeroValue42 Try.underlying42 (by kernel_rfl) F rfl rfl rfl rfl ?_;clear F a;intro a F
  refine sAl H Try.zeroValue42 F rfl rfl ?_
  clear F a H; intro b3 a w F H
  refine sSr H 0 ?si F rfl rfl rfl ?s1 rfl rfl ?_
  case si => exact info_size Try.sizeOf42
  case s1 => first | rfl | (repeat (first | exact one_nil | (apply one_cons; · first | rfl | assumption | exact one_bif rfl rfl)))
  clear H; intro w H
  refine sNil ?_
  refine hK3 _ _ ?_; clear hK3
  refine cSeq (fun K4 hK4 => ?_)
  refine cReg ?_
  refine sMv F rfl rfl rfl ?_;clear F a;intro a F
  refine sMv F rfl rfl rfl ?_;clear F a;intro a F
  refine sNc F rfl rfl rfl ?_;clear F a;intro a F
  refine sFa (f := 0) (k := 0) Try.underlying59 rfl Try.sizeOf57 rfl rfl F rfl rfl rfl ?_;clear F a;intro a F
  refine sCall Try.call43 F rfl rfl rfl (pword_any hc (by (try simp only [PS.next]); omega) (H.selT 5 [1, 2, 3, 0, 4] rfl rfl)) ?_
  rintro e w ⟨rfl, H⟩
  refine ⟨_, rfl, ?_⟩
  clear F a; intro a F
  refine sBin F rfl rfl rfl rfl bStrEq ?_;clear F a;intro a F
  refine sCallP Try.call60 F rfl rfl rfl (pneed_any _ hc (by (try simp only [PS.next]); omega) H) ?_
  rintro e w hq9
  rcases hq9.cases with ⟨p9, e9, hn19, rfl, H⟩ | ⟨v19, t19, hr19, rfl, H⟩
  ·
   refine .inl ⟨_, rfl, ?_⟩
   exact And.intro F.nod (Ans.no (by obtain ⟨h1, rfl, rfl⟩ := need_no hn19; rw [kw_lit [105, 102]] at h1; unfold skipP; simp only [hr11, Rs.bind, h1, failP]; rfl) H.tail.tail.tail)
  obtain ⟨hk, rfl⟩ := need_ok hr19; rw [kw_lit [105, 102]] at hk
  refine .inr ⟨_, rfl, ?_⟩
  clear F a; intro a F
  refine sNil ?_
  refine hK4 _ _ ?_; clear hK4
  refine cSeq (fun K5 hK5 => ?_)
  refine cReg ?_
  refine sMv F rfl rfl rfl ?_;clear F a;intro a F
  refine sNc F rfl rfl rfl ?_;clear F a;intro a F
  refine sFa (f := 0) (k := 0) Try.underlying59 rfl Try.sizeOf57 rfl rfl F rfl rfl rfl ?_;clear F a;intro a F
  refine sCall Try.call48 F rfl rfl rfl (pstep_any hc (by (try simp only [PS.next]); omega) H) ?_
  rintro e w ⟨rfl, H⟩
  refine ⟨_, rfl, ?_⟩
  clear F a; intro a F
  refine sNil ?_
  refine hK5 _ _ ?_; clear hK5
  refine cSeq (fun K6 hK6 => ?_)
  refine cReg ?_
  refine sMv F rfl rfl rfl ?_;clear F a;intro a F
  refine sNc F rfl rfl rfl ?_;clear F a;intro a F
  refine sFa (f := 0) (k := 0) Try.underlying59 rfl Try.sizeOf57 rfl rfl F rfl rfl rfl ?_;clear F a;intro a F
  refine sCallP Try.call86 F rfl rfl rfl (parg_any hc (by (try simp only [PS.next]); omega) H) ?_
  rintro e w hq9
  rcases hq9.cases with ⟨p9, e9, hn27, rfl, H⟩ | ⟨v27, t27, hr27, rfl, H⟩
  ·
   refine .inl ⟨_, rfl, ?_⟩
   exact And.intro F.nod (Ans.no (by unfold skipP; simp only [hr11, Rs.bind, hk, if_true, hn27]) H.tail.tail.tail)
  obtain rfl := (argP_all v27 t27 hr27).2.1
  refine .inr ⟨_, rfl, ?_⟩
  clear F a; intro a F
  refine sFa (f := 3) (k := 3) Try.underlying42 rfl Try.sizeOf40 rfl rfl F rfl rfl rfl ?_;clear F a;intro a F
  refine sSr H 3 ?si F rfl rfl rfl ?s1 rfl rfl ?_
  case si => exact info_size Try.sizeOf40
  case s1 => first | rfl | (repeat (first | exact one_nil | (apply one_cons; · first | rfl | assumption | exact one_bif rfl rfl)))
  clear H; intro w H
  refine sNil ?_
  refine hK6 _ _ ?_; clear hK6
  refine cSeq (fun K7 hK7 => ?_)
  refine wp_block ?_
  refine cSeq (fun K8 hK8 => ?_)
  refine cReg ?_
  refine sMv F rfl rfl rfl ?_;clear F a;intro a F
  refine sNc F rfl rfl rfl ?_;clear F a;intro a F
  refine sFa (f := 0) (k := 0) Try.underlying59 rfl Try.sizeOf57 rfl rfl F rfl rfl rfl ?_;clear F a;intro a F
  refine sCall Try.call62 F rfl rfl rfl (pis_any [61, 61] hc (by (try simp only [PS.next]); omega) H) ?_
  rintro e w ⟨rfl, H⟩
  refine ⟨_, rfl, ?_⟩
  clear F a; intro a F
  refine sAs F rfl rfl rfl ?_;clear F a;intro a F
  refine sNil ?_
  refine hK8 _ _ ?_; clear hK8
  refine cIf F rfl (fun h31 => ?_) (fun h31 => ?_)
  ·
   have ht : testP c s.next.next.next.next = some 4 := by unfold testP; rw [if_pos h31]
   refine cReg ?_
   refine sFa (f := 5) (k := 7) Try.underlying42 rfl Try.sizeOf5 rfl rfl F rfl rfl rfl ?_;clear F a;intro a F
   refine sSt H 3 Try.sizeOf5 F rfl rfl rfl rfl rfl rfl ?_
   clear H; intro w H
   refine sNil ?_
   refine hK7 _ _ ?_; clear hK7
   refine cSeq (fun K9 hK9 => ?_)
   refine cReg ?_
   refine sMv F rfl rfl rfl ?_;clear F a;intro a F
   refine sNc F rfl rfl rfl ?_;clear F a;intro a F
   refine sFa (f := 0) (k := 0) Try.underlying59 rfl Try.sizeOf57 rfl rfl F rfl rfl rfl ?_;clear F a;intro a F
   refine sCall Try.call48 F rfl rfl rfl (pstep_any hc (by (try simp only [PS.next]); omega) H) ?_
   rintro e w ⟨rfl, H⟩
   refine ⟨_, rfl, ?_⟩
   clear F a; intro a F
   refine sNil ?_
   refine hK9 _ _ ?_; clear hK9
   refine cSeq (fun K10 hK10 => ?_)
   refine cReg ?_
   refine sMv F rfl rfl rfl ?_;clear F a;intro a F
   refine sNc F rfl rfl rfl ?_;clear F a;intro a F
   refine sFa (f := 0) (k := 0) Try.underlying59 rfl Try.sizeOf57 rfl rfl F rfl rfl rfl ?_;clear F a;intro a F
   refine sCallP Try.call86 F rfl rfl rfl (parg_any hc (by (try simp only [PS.next]); omega) H) ?_
   rintro e w hq9
   rcases hq9.cases with ⟨p9, e9, hn56, rfl, H⟩ | ⟨v56, t56, hr56, rfl, H⟩
   ·
    refine .inl ⟨_, rfl, ?_⟩
    exact And.intro F.nod (Ans.no (by unfold skipP; simp only [hr11, Rs.bind, hk, if_true, hr27, ht, hn56]) H.tail.tail.tail)
   refine .inr ⟨_, rfl, ?_⟩
   clear F a; intro a F
   refine sFa (f := 4) (k := 5) Try.underlying42 rfl Try.sizeOf40 rfl rfl F rfl rfl rfl ?_;clear F a;intro a F
   refine sSr H 3 ?si F rfl rfl rfl ?s1 rfl rfl ?_
   case si => exact info_size Try.sizeOf40
   case s1 => first | rfl | (repeat (first | exact one_nil | (apply one_cons; · first | rfl | assumption | exact one_bif rfl rfl)))
   clear H; intro w H
   refine sNil ?_
   refine hK10 _ _ ?_; clear hK10
   refine cSeq (fun K11 hK11 => ?_)
   refine cReg ?_
   refine sLr Try.underlying42 rfl ?si F rfl rfl rfl (H.whole 3 rfl) ?_
   case si => exact info_size Try.sizeOf42
   clear F a; intro a F
   refine sSr H 4 ?si F rfl rfl rfl ?s1 rfl rfl ?_
   case si => exact info_size Try.sizeOf42
   case s1 => first | rfl | (repeat (first | exact one_nil | (apply one_cons; · first | rfl | assumption | exact one_bif rfl rfl)))
   clear H; intro w H
   refine sNil ?_
   refine hK11 _ _ ?_; clear hK11
   refine wp_ret ?_
   refine bRetC Try.results85 F rfl Try.underlying42 rfl H 4 rfl Try.sizeOf42 rfl ?_
   exact Ans.ok (by unfold skipP; simp only [hr11, Rs.bind, hk, if_true, hr27, ht, hr56]; rfl) ⟨rfl, _, _, by rw [← show t56.names = s.names from by rw [(argP_all v56 t56 hr56).2.1]; rfl] at H; exact H.selT 5 [0, 1, 2] rfl rfl⟩
  refine cSeq (fun K12 hK12 => ?_)
  refine cReg ?_
  refine sMv F rfl rfl rfl ?_;clear F a;intro a F
  refine sNc F rfl rfl rfl ?_;clear F a;intro a F
  refine sFa (f := 0) (k := 0) Try.underlying59 rfl Try.sizeOf57 rfl rfl F rfl rfl rfl ?_;clear F a;intro a F
  refine sCall Try.call62 F rfl rfl rfl (pis_any [33, 61] hc (by (try simp only [PS.next]); omega) H) ?_
  rintro e w ⟨rfl, H⟩
  refine ⟨_, rfl, ?_⟩
  clear F a; intro a F
  refine sAs F rfl rfl rfl ?_;clear F a;intro a F
  refine sNil ?_
  refine hK12 _ _ ?_; clear hK12
  refine cIf F rfl (fun h37 => ?_) (fun h37 => ?_)
  ·
   have ht : testP c s.next.next.next.next = some 5 := by unfold testP; rw [if_neg (by rw [h31]; exact Bool.false_ne_true), if_pos h37]
   refine cReg ?_
   refine sFa (f := 5) (k := 7) Try.underlying42 rfl Try.sizeOf5 rfl rfl F rfl rfl rfl ?_;clear F a;intro a F
   refine sSt H 3 Try.sizeOf5 F rfl rfl rfl rfl rfl rfl ?_
   clear H; intro w H
   refine sNil ?_
   refine hK7 _ _ ?_; clear hK7
   refine cSeq (fun K13 hK13 => ?_)
   refine cReg ?_
   refine sMv F rfl rfl rfl ?_;clear F a;intro a F
   refine sNc F rfl rfl rfl ?_;clear F a;intro a F
   refine sFa (f := 0) (k := 0) Try.underlying59 rfl Try.sizeOf57 rfl rfl F rfl rfl rfl ?_;clear F a;intro a F
   refine sCall Try.call48 F rfl rfl rfl (pstep_any hc (by (try simp only [PS.next]); omega) H) ?_
   rintro e w ⟨rfl, H⟩
   refine ⟨_, rfl, ?_⟩
   clear F a; intro a F
   refine sNil ?_
   refine hK13 _ _ ?_; clear hK13
   refine cSeq (fun K14 hK14 => ?_)
   refine cReg ?_
   refine sMv F rfl rfl rfl ?_;clear F a;intro a F
   refine sNc F rfl rfl rfl ?_;clear F a;intro a F
   refine sFa (f := 0) (k := 0) Try.underlying59 rfl Try.sizeOf57 rfl rfl F rfl rfl rfl ?_;clear F a;intro a F
   refine sCallP Try.call86 F rfl rfl rfl (parg_any hc (by (try simp only [PS.next]); omega) H) ?_
   rintro e w hq9
   rcases hq9.cases with ⟨p9, e9, hn56, rfl, H⟩ | ⟨v56, t56, hr56, rfl, H⟩
   ·
    refine .inl ⟨_, rfl, ?_⟩
    exact And.intro F.nod (Ans.no (by unfold skipP; simp only [hr11, Rs.bind, hk, if_true, hr27, ht, hn56]) H.tail.tail.tail)
   refine .inr ⟨_, rfl, ?_⟩
   clear F a; intro a F
   refine sFa (f := 4) (k := 5) Try.underlying42 rfl Try.sizeOf40 rfl rfl F rfl rfl rfl ?_;clear F a;intro a F
   refine sSr H 3 ?si F rfl rfl rfl ?s1 rfl rfl ?_
   case si => exact info_size Try.sizeOf40
   case s1 => first | rfl | (repeat (first | exact one_nil | (apply one_cons; · first | rfl | assumption | exact one_bif rfl rfl)))
   clear H; intro w H
   refine sNil ?_
   refine hK14 _ _ ?_; clear hK14
   refine cSeq (fun K15 hK15 => ?_)
   refine cReg ?_
   refine sLr Try.underlying42 rfl ?si F rfl rfl rfl (H.whole 3 rfl) ?_
   case si => exact info_size Try.sizeOf42
   clear F a; intro a F
   refine sSr H 4 ?si F rfl rfl rfl ?s1 rfl rfl ?_
   case si => exact info_size Try.sizeOf42
   case s1 => first | rfl | (repeat (first | exact one_nil | (apply one_cons; · first | rfl | assumption | exact one_bif rfl rfl)))
   clear H; intro w H
   refine sNil ?_
   refine hK15 _ _ ?_; clear hK15
   refine wp_ret ?_
   refine bRetC Try.results85 F rfl Try.underlying42 rfl H 4 rfl Try.sizeOf42 rfl ?_
   exact Ans.ok (by unfold skipP; simp only [hr11, Rs.bind, hk, if_true, hr27, ht, hr56]; rfl) ⟨rfl, _, _, by rw [← show t56.names = s.names from by rw [(argP_all v56 t56 hr56).2.1]; rfl] at H; exact H.selT 5 [0, 1, 2] rfl rfl⟩
  refine cSeq (fun K16 hK16 => ?_)
  refine cReg ?_
  refine sMv F rfl rfl rfl ?_;clear F a;intro a F
  refine sNc F rfl rfl rfl ?_;clear F a;intro a F
  refine sFa (f := 0) (k := 0) Try.underlying59 rfl Try.sizeOf57 rfl rfl F rfl rfl rfl ?_;clear F a;intro a F
  refine sCall Try.call62 F rfl rfl rfl (pis_any [60] hc (by (try simp only [PS.next]); omega) H) ?_
  rintro e w ⟨rfl, H⟩
  refine ⟨_, rfl, ?_⟩
  clear F a; intro a F
  refine sAs F rfl rfl rfl ?_;clear F a;intro a F
  refine sNil ?_
  refine hK16 _ _ ?_; clear hK16
  refine cIf F rfl (fun h43 => ?_) (fun h43 => ?_)
  ·
   have ht : testP c s.next.next.next.next = some 6 := by unfold testP; rw [if_neg (by rw [h31]; exact Bool.false_ne_true), if_neg (by rw [h37]; exact Bool.false_ne_true), if_pos h43]
   refine cReg ?_
   refine sFa (f := 5) (k := 7) Try.underlying42 rfl Try.sizeOf5 rfl rfl F rfl rfl rfl ?_;clear F a;intro a F
   refine sSt H 3 Try.sizeOf5 F rfl rfl rfl rfl rfl rfl ?_
   clear H; intro w H
   refine sNil ?_
   refine hK7 _ _ ?_; clear hK7
   refine cSeq (fun K17 hK17 => ?_)
   refine cReg ?_
   refine sMv F rfl rfl rfl ?_;clear F a;intro a F
   refine sNc F rfl rfl rfl ?_;clear F a;intro a F
   refine sFa (f := 0) (k := 0) Try.underlying59 rfl Try.sizeOf57 rfl rfl F rfl rfl rfl ?_;clear F a;intro a F
   refine sCall Try.call48 F rfl rfl rfl (pstep_any hc (by (try simp only [PS.next]); omega) H) ?_
   rintro e w ⟨rfl, H⟩
   refine ⟨_, rfl, ?_⟩
   clear F a; intro a F
   refine sNil ?_
   refine hK17 _ _ ?_; clear hK17
   refine cSeq (fun K18 hK18 => ?_)
   refine cReg ?_
   refine sMv F rfl rfl rfl ?_;clear F a;intro a F
   refine sNc F rfl rfl rfl ?_;clear F a;intro a F
   refine sFa (f := 0) (k := 0) Try.underlying59 rfl Try.sizeOf57 rfl rfl F rfl rfl rfl ?_;clear F a;intro a F
   refine sCallP Try.call86 F rfl rfl rfl (parg_any hc (by (try simp only [PS.next]); omega) H) ?_
   rintro e w hq9
   rcases hq9.cases with ⟨p9, e9, hn56, rfl, H⟩ | ⟨v56, t56, hr56, rfl, H⟩
   ·
    refine .inl ⟨_, rfl, ?_⟩
    exact And.intro F.nod (Ans.no (by unfold skipP; simp only [hr11, Rs.bind, hk, if_true, hr27, ht, hn56]) H.tail.tail.tail)
   refine .inr ⟨_, rfl, ?_⟩
   clear F a; intro a F
   refine sFa (f := 4) (k := 5) Try.underlying42 rfl Try.sizeOf40 rfl rfl F rfl rfl rfl ?_;clear F a;intro a F
   refine sSr H 3 ?si F rfl rfl rfl ?s1 rfl rfl ?_
   case si => exact info_size Try.sizeOf40
   case s1 => first | rfl | (repeat (first | exact one_nil | (apply one_cons; · first | rfl | assumption | exact one_bif rfl rfl)))
   clear H; intro w H
   refine sNil ?_
   refine hK18 _ _ ?_; clear hK18
   refine cSeq (fun K19 hK19 => ?_)
   refine cReg ?_
   refine sLr Try.underlying42 rfl ?si F rfl rfl rfl (H.whole 3 rfl) ?_
   case si => exact info_size Try.sizeOf42
   clear F a; intro a F
   refine sSr H 4 ?si F rfl rfl rfl ?s1 rfl rfl ?_
   case si => exact info_size Try.sizeOf42
   case s1 => first | rfl | (repeat (first | exact one_nil | (apply one_cons; · first | rfl | assumption | exact one_bif rfl rfl)))
   clear H; intro w H
   refine sNil ?_
   refine hK19 _ _ ?_; clear hK19
   refine wp_ret ?_
   refine bRetC Try.results85 F rfl Try.underlying42 rfl H 4 rfl Try.sizeOf42 rfl ?_
   exact Ans.ok (by unfold skipP; simp only [hr11, Rs.bind, hk, if_true, hr27, ht, hr56]; rfl) ⟨rfl, _, _, by rw [← show t56.names = s.names from by rw [(argP_all v56 t56 hr56).2.1]; rfl] at H; exact H.selT 5 [0, 1, 2] rfl rfl⟩
  have ht : testP c s.next.next.next.next = none := by unfold testP; rw [if_neg (by rw [h31]; exact Bool.false_ne_true), if_neg (by rw [h37]; exact Bool.false_ne_true), if_neg (by rw [h43]; exact Bool.false_ne_true)]
  refine cReg ?_
  refine sMv F rfl rfl rfl ?_;clear F a;intro a F
  refine sCallP Try.call60 F rfl rfl rfl (pneedF_any hc (by (try simp only [PS.next]); omega) H) ?_
  rintro e w ⟨rfl, H⟩
  refine .inl ⟨_, rfl, ?_⟩
  exact And.intro F.nod (Ans.no (by unfold skipP; simp only [hr11, Rs.bind, hk, if_true, hr27, ht]; rfl) H.tail.tail.tail)
set_option maxHeartbeats 4000000 in
theorem pmove_any {bx : Nat} (d : UInt8) {W w0 : World} {rs : List Res} {c : PX} (hc : c.Ok) {A : Option Addr} {C bp : Nat} {S : Nat → Prop} {s : PS} {Y : List Value} (hp : s.pos ≤ 999100) (H : Own W none w0 (.blk bp (curC c A C s Y) 59 :: .held S A 3 (rowsT c.ts) :: .blk bx ({ zIns with dst := d } : Ins).cells 42 :: rs)) :
    Calls Try.prog 87 #[.pointer (some ⟨bp, 0, none⟩), .pointer (some ⟨bx, 0, none⟩)] w0 fun e w' => Ans W rs (moveP' c d s) (fun v t e w' => e = .returned (.tuple #[]) ∧ Own W none w' (.blk bp (curC c A C t Y) 59 :: .held S A 3 (rowsT c.ts) :: .blk bx v.cells 42 :: rs)) e w' := by
  refine enterF Try.func87 rfl Try.ntmps87 rfl (fun a F => ?_)
  refine cSeq (fun K1 hK1 => ?_)
  refine cReg ?_
  refine sMv F rfl rfl rfl ?_;clear F a;intro a F
  refine sMv F rfl rfl rfl ?_;clear F a;intro a F
  refine sMv F rfl rfl rfl ?_;clear F a;intro a F
  refine sNc F rfl rfl rfl ?_;clear F a;intro a F
  refine sFa (f := 0) (k := 0) Try.underlying59 rfl Try.sizeOf57 rfl rfl F rfl rfl rfl ?_;clear F a;intro a F
  refine sCallP Try.call86 F rfl rfl rfl (parg_any hc (by (try simp only [PS.next]); omega) H) ?_
  rintro e w hq9
  rcases hq9.cases with ⟨p9, e9, hn9, rfl, H⟩ | ⟨v9, t9, hr9, rfl, H⟩
  ·
   refine .inl ⟨_, rfl, ?_⟩
   exact And.intro F.nod (Ans.no (by unfold moveP'; simp only [hn9, Rs.bind]) H.tail)
  obtain rfl := (argP_all v9 t9 hr9).2.1
  refine .inr ⟨_, rfl, ?_⟩
  clear F a; intro a F
  refine sNc F rfl rfl rfl ?_;clear F a;intro a F
  refine sFa (f := 0) (k := 0) Try.underlying42 rfl Try.sizeOf5 rfl rfl F rfl rfl rfl ?_;clear F a;intro a F
  refine sSt H 2 Try.sizeOf5 F rfl rfl rfl rfl rfl rfl ?_
  clear H; intro w H
  refine sNc F rfl rfl rfl ?_;clear F a;intro a F
  refine sFa (f := 3) (k := 3) Try.underlying42 rfl Try.sizeOf40 rfl rfl F rfl rfl rfl ?_;clear F a;intro a F
  refine sSr H 2 ?si F rfl rfl rfl ?s1 rfl rfl ?_
  case si => exact info_size Try.sizeOf40
  case s1 => first | rfl | (repeat (first | exact one_nil | (apply one_cons; · first | rfl | assumption | exact one_bif rfl rfl)))
  clear H; intro w H
  refine sNil ?_
  refine hK1 _ _ ?_; clear hK1
  refine cSeq (fun K2 hK2 => ?_)
  refine wp_block ?_
  refine cSeq (fun K3 hK3 => ?_)
  refine cReg ?_
  refine sMv F rfl rfl rfl ?_;clear F a;intro a F
  refine sNc F rfl rfl rfl ?_;clear F a;intro a F
  refine sFa (f := 0) (k := 0) Try.underlying59 rfl Try.sizeOf57 rfl rfl F rfl rfl rfl ?_;clear F a;intro a F
  refine sCall Try.call62 F rfl rfl rfl (pis_any [43] hc (by (try simp only [PS.next]); omega) H) ?_
  rintro e w ⟨rfl, H⟩
  refine ⟨_, rfl, ?_⟩
  clear F a; intro a F
  refine sAs F rfl rfl rfl ?_;clear F a;intro a F
  refine sNil ?_
  refine hK3 _ _ ?_; clear hK3
  refine cIf F rfl (fun h16 => ?_) (fun h16 => ?_)
  ·
   have ht : fnP c s.next = some 1 := by unfold fnP; rw [if_pos h16]
   refine cReg ?_
   refine sMv F rfl rfl rfl ?_;clear F a;intro a F
   refine sNc F rfl rfl rfl ?_;clear F a;intro a F
   refine sFa (f := 5) (k := 7) Try.underlying42 rfl Try.sizeOf5 rfl rfl F rfl rfl rfl ?_;clear F a;intro a F
   refine sSt H 2 Try.sizeOf5 F rfl rfl rfl rfl rfl rfl ?_
   clear H; intro w H
   refine sNil ?_
   refine hK2 _ _ ?_; clear hK2
   refine cSeq (fun K4 hK4 => ?_)
   refine cReg ?_
   refine sMv F rfl rfl rfl ?_;clear F a;intro a F
   refine sNc F rfl rfl rfl ?_;clear F a;intro a F
   refine sFa (f := 0) (k := 0) Try.underlying59 rfl Try.sizeOf57 rfl rfl F rfl rfl rfl ?_;clear F a;intro a F
   refine sCall Try.call48 F rfl rfl rfl (pstep_any hc (by (try simp only [PS.next]); omega) H) ?_
   rintro e w ⟨rfl, H⟩
   refine ⟨_, rfl, ?_⟩
   clear F a; intro a F
   refine sNil ?_
   refine hK4 _ _ ?_; clear hK4
   refine cReg ?_
   refine sMv F rfl rfl rfl ?_;clear F a;intro a F
   refine sMv F rfl rfl rfl ?_;clear F a;intro a F
   refine sNc F rfl rfl rfl ?_;clear F a;intro a F
   refine sFa (f := 0) (k := 0) Try.underlying59 rfl Try.sizeOf57 rfl rfl F rfl rfl rfl ?_;clear F a;intro a F
   refine sCallP Try.call86 F rfl rfl rfl (parg_any hc (by (try simp only [PS.next]); omega) H) ?_
   rintro e w hq9
   rcases hq9.cases with ⟨p9, e9, hn48, rfl, H⟩ | ⟨v48, t48, hr48, rfl, H⟩
   ·
    refine .inl ⟨_, rfl, ?_⟩
    exact And.intro F.nod (Ans.no (by unfold moveP'; simp only [hr9, Rs.bind, ht, hn48]) H.tail)
   refine .inr ⟨_, rfl, ?_⟩
   clear F a; intro a F
   refine sNc F rfl rfl rfl ?_;clear F a;intro a F
   refine sFa (f := 4) (k := 5) Try.underlying42 rfl Try.sizeOf40 rfl rfl F rfl rfl rfl ?_;clear F a;intro a F
   refine sSr H 2 ?si F rfl rfl rfl ?s1 rfl rfl ?_
   case si => exact info_size Try.sizeOf40
   case s1 => first | rfl | (repeat (first | exact one_nil | (apply one_cons; · first | rfl | assumption | exact one_bif rfl rfl)))
   clear H; intro w H
   refine sNil ?_
   first | refine bEnd Try.results87 F ?_ | (simp only [Exit.then, Exit.inBlock, if_true]; (repeat (first | rw [if_pos rfl] | rw [if_neg (by decide)])); refine bEnd Try.results87 F ?_)
   first | exact Ans.ok (v := { zIns with op := 3, dst := d, aR := v9.1, aN := v9.2, bR := v48.1, bN := v48.2, fn := 1 }) (by unfold moveP'; simp only [hr9, Rs.bind, ht, hr48]) ⟨rfl, H⟩ | exact Ans.ok (v := { zIns with op := 3, dst := d, aR := v9.1, aN := v9.2, bR := v48.1, bN := v48.2, fn := 2 }) (by unfold moveP'; simp only [hr9, Rs.bind, ht, hr48]) ⟨rfl, H⟩ | exact Ans.ok (v := { zIns with op := 3, dst := d, aR := v9.1, aN := v9.2, bR := v48.1, bN := v48.2, fn := 3 }) (by unfold moveP'; simp only [hr9, Rs.bind, ht, hr48]) ⟨rfl, H⟩
  refine cSeq (fun K5 hK5 => ?_)
  refine cReg ?_
  refine sMv F rfl rfl rfl ?_;clear F a;intro a F
  refine sNc F rfl rfl rfl ?_;clear F a;intro a F
  refine sFa (f := 0) (k := 0) Try.underlying59 rfl Try.sizeOf57 rfl rfl F rfl rfl rfl ?_;clear F a;intro a F
  refine sCall Try.call62 F rfl rfl rfl (pis_any [45] hc (by (try simp only [PS.next]); omega) H) ?_
  rintro e w ⟨rfl, H⟩
  refine ⟨_, rfl, ?_⟩
  clear F a; intro a F
  refine sAs F rfl rfl rfl ?_;clear F a;intro a F
  refine sNil ?_
  refine hK5 _ _ ?_; clear hK5
  refine cIf F rfl (fun h24 => ?_) (fun h24 => ?_)
  ·
   have ht : fnP c s.next = some 2 := by unfold fnP; rw [if_neg (by rw [h16]; exact Bool.false_ne_true), if_pos h24]
   refine cReg ?_
   refine sMv F rfl rfl rfl ?_;clear F a;intro a F
   refine sNc F rfl rfl rfl ?_;clear F a;intro a F
   refine sFa (f := 5) (k := 7) Try.underlying42 rfl Try.sizeOf5 rfl rfl F rfl rfl rfl ?_;clear F a;intro a F
   refine sSt H 2 Try.sizeOf5 F rfl rfl rfl rfl rfl rfl ?_
   clear H; intro w H
   refine sNil ?_
   refine hK2 _ _ ?_; clear hK2
   refine cSeq (fun K6 hK6 => ?_)
   refine cReg ?_
   refine sMv F rfl rfl rfl ?_;clear F a;intro a F
   refine sNc F rfl rfl rfl ?_;clear F a;intro a F
   refine sFa (f := 0) (k := 0) Try.underlying59 rfl Try.sizeOf57 rfl rfl F rfl rfl rfl ?_;clear F a;intro a F
   refine sCall Try.call48 F rfl rfl rfl (pstep_any hc (by (try simp only [PS.next]); omega) H) ?_
   rintro e w ⟨rfl, H⟩
   refine ⟨_, rfl, ?_⟩
   clear F a; intro a F
   refine sNil ?_
   refine hK6 _ _ ?_; clear hK6
   refine cReg ?_
   refine sMv F rfl rfl rfl ?_;clear F a;intro a F
   refine sMv F rfl rfl rfl ?_;clear F a;intro a F
   refine sNc F rfl rfl rfl ?_;clear F a;intro a F
   refine sFa (f := 0) (k := 0) Try.underlying59 rfl Try.sizeOf57 rfl rfl F rfl rfl rfl ?_;clear F a;intro a F
   refine sCallP Try.call86 F rfl rfl rfl (parg_any hc (by (try simp only [PS.next]); omega) H) ?_
   rintro e w hq9
   rcases hq9.cases with ⟨p9, e9, hn48, rfl, H⟩ | ⟨v48, t48, hr48, rfl, H⟩
   ·
    refine .inl ⟨_, rfl, ?_⟩
    exact And.intro F.nod (Ans.no (by unfold moveP'; simp only [hr9, Rs.bind, ht, hn48]) H.tail)
   refine .inr ⟨_, rfl, ?_⟩
   clear F a; intro a F
   refine sNc F rfl rfl rfl ?_;clear F a;intro a F
   refine sFa (f := 4) (k := 5) Try.underlying42 rfl Try.sizeOf40 rfl rfl F rfl rfl rfl ?_;clear F a;intro a F
   refine sSr H 2 ?si F rfl rfl rfl ?s1 rfl rfl ?_
   case si => exact info_size Try.sizeOf40
   case s1 => first | rfl | (repeat (first | exact one_nil | (apply one_cons; · first | rfl | assumption | exact one_bif rfl rfl)))
   clear H; intro w H
   refine sNil ?_
   first | refine bEnd Try.results87 F ?_ | (simp only [Exit.then, Exit.inBlock, if_true]; (repeat (first | rw [if_pos rfl] | rw [if_neg (by decide)])); refine bEnd Try.results87 F ?_)
   first | exact Ans.ok (v := { zIns with op := 3, dst := d, aR := v9.1, aN := v9.2, bR := v48.1, bN := v48.2, fn := 1 }) (by unfold moveP'; simp only [hr9, Rs.bind, ht, hr48]) ⟨rfl, H⟩ | exact Ans.ok (v := { zIns with op := 3, dst := d, aR := v9.1, aN := v9.2, bR := v48.1, bN := v48.2, fn := 2 }) (by unfold moveP'; simp only [hr9, Rs.bind, ht, hr48]) ⟨rfl, H⟩ | exact Ans.ok (v := { zIns with op := 3, dst := d, aR := v9.1, aN := v9.2, bR := v48.1, bN := v48.2, fn := 3 }) (by unfold moveP'; simp only [hr9, Rs.bind, ht, hr48]) ⟨rfl, H⟩
  refine cSeq (fun K7 hK7 => ?_)
  refine cReg ?_
  refine sMv F rfl rfl rfl ?_;clear F a;intro a F
  refine sNc F rfl rfl rfl ?_;clear F a;intro a F
  refine sFa (f := 0) (k := 0) Try.underlying59 rfl Try.sizeOf57 rfl rfl F rfl rfl rfl ?_;clear F a;intro a F
  refine sCall Try.call62 F rfl rfl rfl (pis_any [94] hc (by (try simp only [PS.next]); omega) H) ?_
  rintro e w ⟨rfl, H⟩
  refine ⟨_, rfl, ?_⟩
  clear F a; intro a F
  refine sAs F rfl rfl rfl ?_;clear F a;intro a F
  refine sNil ?_
  refine hK7 _ _ ?_; clear hK7
  refine cIf F rfl (fun h32 => ?_) (fun h32 => ?_)
  ·
   have ht : fnP c s.next = some 3 := by unfold fnP; rw [if_neg (by rw [h16]; exact Bool.false_ne_true), if_neg (by rw [h24]; exact Bool.false_ne_true), if_pos h32]
   refine cReg ?_
   refine sMv F rfl rfl rfl ?_;clear F a;intro a F
   refine sNc F rfl rfl rfl ?_;clear F a;intro a F
   refine sFa (f := 5) (k := 7) Try.underlying42 rfl Try.sizeOf5 rfl rfl F rfl rfl rfl ?_;clear F a;intro a F
   refine sSt H 2 Try.sizeOf5 F rfl rfl rfl rfl rfl rfl ?_
   clear H; intro w H
   refine sNil ?_
   refine hK2 _ _ ?_; clear hK2
   refine cSeq (fun K8 hK8 => ?_)
   refine cReg ?_
   refine sMv F rfl rfl rfl ?_;clear F a;intro a F
   refine sNc F rfl rfl rfl ?_;clear F a;intro a F
   refine sFa (f := 0) (k := 0) Try.underlying59 rfl Try.sizeOf57 rfl rfl F rfl rfl rfl ?_;clear F a;intro a F
   refine sCall Try.call48 F rfl rfl rfl (pstep_any hc (by (try simp only [PS.next]); omega) H) ?_
   rintro e w ⟨rfl, H⟩
   refine ⟨_, rfl, ?_⟩
   clear F a; intro a F
   refine sNil ?_
   refine hK8 _ _ ?_; clear hK8
   refine cReg ?_
   refine sMv F rfl rfl rfl ?_;clear F a;intro a F
   refine sMv F rfl rfl rfl ?_;clear F a;intro a F
   refine sNc F rfl rfl rfl ?_;clear F a;intro a F
   refine sFa (f := 0) (k := 0) Try.underlying59 rfl Try.sizeOf57 rfl rfl F rfl rfl rfl ?_;clear F a;intro a F
   refine sCallP Try.call86 F rfl rfl rfl (parg_any hc (by (try simp only [PS.next]); omega) H) ?_
   rintro e w hq9
   rcases hq9.cases with ⟨p9, e9, hn48, rfl, H⟩ | ⟨v48, t48, hr48, rfl, H⟩
   ·
    refine .inl ⟨_, rfl, ?_⟩
    exact And.intro F.nod (Ans.no (by unfold moveP'; simp only [hr9, Rs.bind, ht, hn48]) H.tail)
   refine .inr ⟨_, rfl, ?_⟩
   clear F a; intro a F
   refine sNc F rfl rfl rfl ?_;clear F a;intro a F
   refine sFa (f := 4) (k := 5) Try.underlying42 rfl Try.sizeOf40 rfl rfl F rfl rfl rfl ?_;clear F a;intro a F
   refine sSr H 2 ?si F rfl rfl rfl ?s1 rfl rfl ?_
   case si => exact info_size Try.sizeOf40
   case s1 => first | rfl | (repeat (first | exact one_nil | (apply one_cons; · first | rfl | assumption | exact one_bif rfl rfl)))
   clear H; intro w H
   refine sNil ?_
   first | refine bEnd Try.results87 F ?_ | (simp only [Exit.then, Exit.inBlock, if_true]; (repeat (first | rw [if_pos rfl] | rw [if_neg (by decide)])); refine bEnd Try.results87 F ?_)
   first | exact Ans.ok (v := { zIns with op := 3, dst := d, aR := v9.1, aN := v9.2, bR := v48.1, bN := v48.2, fn := 1 }) (by unfold moveP'; simp only [hr9, Rs.bind, ht, hr48]) ⟨rfl, H⟩ | exact Ans.ok (v := { zIns with op := 3, dst := d, aR := v9.1, aN := v9.2, bR := v48.1, bN := v48.2, fn := 2 }) (by unfold moveP'; simp only [hr9, Rs.bind, ht, hr48]) ⟨rfl, H⟩ | exact Ans.ok (v := { zIns with op := 3, dst := d, aR := v9.1, aN := v9.2, bR := v48.1, bN := v48.2, fn := 3 }) (by unfold moveP'; simp only [hr9, Rs.bind, ht, hr48]) ⟨rfl, H⟩
  have ht : fnP c s.next = none := by unfold fnP; rw [if_neg (by rw [h16]; exact Bool.false_ne_true), if_neg (by rw [h24]; exact Bool.false_ne_true), if_neg (by rw [h32]; exact Bool.false_ne_true)]
  refine cReg ?_
  refine sMv F rfl rfl rfl ?_;clear F a;intro a F
  refine sCallP Try.call60 F rfl rfl rfl (pneedF_any hc (by (try simp only [PS.next]); omega) H) ?_
  rintro e w ⟨rfl, H⟩
  refine .inl ⟨_, rfl, ?_⟩
  exact And.intro F.nod (Ans.no (by unfold moveP'; simp only [hr9, Rs.bind, ht]; rfl) H.tail)
end Go.Proofs.Ytbdjlmdejlklkaa
