/-
  WALK2. Package parse: fence, skip, store. Conditions: the parser, its tokens and names lie in memory.
-/
import Derived.Test.YtbdjlmdejlklkaaPrC
set_option linter.unusedSimpArgs false
set_option linter.unusedVariables false
namespace Go.Proofs.Ytbdjlmdejlklkaa
open Go.RowKit
set_option maxRecDepth 100000
theorem pneedF_any {W w0 : World} {rs : List Res} {c : PX} (hc : c.Ok) {A : Option Addr} {C bp : Nat} {S : Nat → Prop} {s : PS} {Y : List Value} (hp : s.pos ≤ 1000000) (H : Own W none w0 (.blk bp (curC c A C s Y) 59 :: .held S A 3 (rowsT c.ts) :: rs)) :
    Calls Try.prog 60 #[.pointer (some ⟨bp, 0, none⟩), .bool false] w0 fun q w' => q = .panicked (flt (c.place s.pos) 50) ∧ Own W none w' rs :=
  (pneed_any false hc hp H).mono fun _ _ h => h
theorem kw_lit {c : PX} {i : Nat} (l : List UInt8) : ((c.word i).toList == (⟨l.toArray⟩ : ByteArray).toList) = c.kw i l := by rw [lit_toList l]; rfl
theorem loc_six {c : PX} {s : PS} (h : s.names.length ≤ c.lim) : (locP c s).All fun _ t => t.names.length ≤ c.lim ∧ t.pos = s.pos + 1 := by
  unfold locP failP
  refine .ite (fun _ => ?_) (fun _ => .no)
  cases idxOf (c.word s.pos) s.names 0 with
  | some k => exact .ok ⟨h, rfl⟩
  | none => exact .ite (fun _ => .no) (fun hf => .ite (fun _ => .no) (fun h6 => .ok ⟨by show (s.names ++ [c.word s.pos]).length ≤ c.lim; rw [PX.lim_six hf] at h ⊢; rw [List.length_append, List.length_singleton]; omega, rfl⟩))
theorem pfence_any {W w0 : World} {rs : List Res} {c : PX} (hc : c.Ok) {A : Option Addr} {C bp : Nat} {S : Nat → Prop} {s : PS} {B : Option Addr} {D : Nat} {X : List Value} (hp : s.pos ≤ 999000) (hnl : s.names.length ≤ c.lim) (H : Own W none w0 (.blk bp (parC c A C s B D X) 59 :: .held S A 3 (rowsT c.ts) :: .nms W c.fixed B D s.names :: rs)) :
    Calls Try.prog 84 #[.pointer (some ⟨bp, 0, none⟩)] w0 fun e w' => Ans W rs (fenceP c s) (fun v t e w' => e = .returned (.agg v.cells.toArray) ∧ ∃ B D, Own W none w' (.blk bp (parC c A C t B D X) 59 :: .held S A 3 (rowsT c.ts) :: .nms W c.fixed B D t.names :: rs)) e w' := by
  refine enterF Try.func84 rfl Try.ntmps84 rfl (fun a F => ?_)
  refine cSeq (fun K1 hK1 => ?_)
  refine cReg ?_
  refine sAl H Try.zeroValue42 F rfl rfl ?_
  clear F a H; intro b2 a w F H
  refine sNil ?_
  refine hK1 _ _ ?_; clear hK1
  refine cSeq (fun K2 hK2 => ?_)
  refine cReg ?_
  refine sMv F rfl rfl rfl ?_;clear F a;intro a F
  refine sNc F rfl rfl rfl ?_;clear F a;intro a F
  refine sFa (f := 0) (k := 0) Try.underlying59 rfl Try.sizeOf57 rfl rfl F rfl rfl rfl ?_;clear F a;intro a F
  refine sCall Try.call48 F rfl rfl rfl (pstep_any hc (by omega) (H.selT 4 [1, 2, 3, 0] rfl rfl)) ?_
  rintro e w ⟨rfl, H⟩
  refine ⟨_, rfl, ?_⟩
  clear F a; intro a F
  refine sNil ?_
  refine hK2 _ _ ?_; clear hK2
  refine cSeq (fun K3 hK3 => ?_)
  refine cReg ?_
  refine sBd (places := [(0, 1), (1, 1), (2, 1), (3, 2), (5, 2), (7, 1), (8, 1), (9, 1)]) Try.zeroValue42 Try.underlying42 (by kernel_rfl) F rfl rfl rfl rfl ?_;clear F a;intro a F
  refine sAl H Try.zeroValue42 F rfl rfl ?_
  clear F a H; intro b3 a w F H
  refine sSr H 0 ?si F rfl rfl rfl ?s1 rfl rfl ?_
  case si => exact info_size Try.sizeOf42
  case s1 => first | rfl | (repeat (first | exact one_nil | (apply one_cons; · first | rfl | assumption | exact one_bif rfl rfl)))
  clear H; intro w H
  refine sNil ?_
  refine hK3 _ _ ?_; clear hK3
  refine cSeq (fun K4 hK4 => ?_)
  refine cSeq (fun K5 hK5 => ?_)
  refine cReg ?_
  refine sMv F rfl rfl rfl ?_;clear F a;intro a F
  refine sNc F rfl rfl rfl ?_;clear F a;intro a F
  refine sFa (f := 0) (k := 0) Try.underlying59 rfl Try.sizeOf57 rfl rfl F rfl rfl rfl ?_;clear F a;intro a F
  refine sCall Try.call78 F rfl rfl rfl (ptakes_any [108, 111, 97, 100, 115] hc (by simp only [PS.next]; omega) (H.selT 5 [1, 2, 3, 0, 4] rfl rfl)) ?_
  rintro e w ⟨rfl, H⟩
  refine ⟨_, rfl, ?_⟩
  clear F a; intro a F
  refine sNil ?_
  refine hK5 _ _ ?_; clear hK5
  refine cIf F rfl (fun h12 => ?_) (fun h12 => ?_)
  ·
   rw [if_pos h12] at H
   have k1 : c.kw (s.pos + 1) [108, 111, 97, 100, 115] = true := h12
   refine cReg ?_
   refine sFa (f := 6) (k := 8) Try.underlying42 rfl Try.sizeOf5 rfl rfl F rfl rfl rfl ?_;clear F a;intro a F
   refine sSt H 3 Try.sizeOf5 F rfl rfl rfl rfl rfl rfl ?_
   clear H; intro w H
   refine sNil ?_
   refine hK4 _ _ ?_; clear hK4
   refine cSeq (fun K6 hK6 => ?_)
   refine cReg ?_
   refine sLr Try.underlying42 rfl ?si F rfl rfl rfl (H.whole 3 rfl) ?_
   case si => exact info_size Try.sizeOf42
   clear F a; intro a F
   refine sSr H 4 ?si F rfl rfl rfl ?s1 rfl rfl ?_
   case si => exact info_size Try.sizeOf42
   case s1 => first | rfl | (repeat (first | exact one_nil | (apply one_cons; · first | rfl | assumption | exact one_bif rfl rfl)))
   clear H; intro w H
   refine sNil ?_
   refine hK6 _ _ ?_; clear hK6
   refine wp_ret ?_
   refine bRetC Try.results84 F rfl Try.underlying42 rfl H 4 rfl Try.sizeOf42 rfl ?_
   first
   | exact Ans.ok (by unfold fenceP; rw [if_pos k1]) ⟨rfl, _, _, H.selT 5 [0, 1, 2] rfl rfl⟩
   | exact Ans.ok (by unfold fenceP; rw [if_neg k1, if_pos k2]) ⟨rfl, _, _, H.selT 5 [0, 1, 2] rfl rfl⟩
   | exact Ans.ok (by unfold fenceP; rw [if_neg k1, if_neg k2]) ⟨rfl, _, _, H.selT 5 [0, 1, 2] rfl rfl⟩
  rw [if_neg (by rw [h12]; exact Bool.false_ne_true)] at H
  have k1 : ¬ c.kw (s.pos + 1) [108, 111, 97, 100, 115] = true := by show ¬ c.kw s.next.pos _ = true; rw [h12]; exact Bool.false_ne_true
  refine cSeq (fun K7 hK7 => ?_)
  refine cReg ?_
  refine sMv F rfl rfl rfl ?_;clear F a;intro a F
  refine sNc F rfl rfl rfl ?_;clear F a;intro a F
  refine sFa (f := 0) (k := 0) Try.underlying59 rfl Try.sizeOf57 rfl rfl F rfl rfl rfl ?_;clear F a;intro a F
  refine sCall Try.call78 F rfl rfl rfl (ptakes_any [115, 116, 111, 114, 101, 115] hc (by simp only [PS.next]; omega) H) ?_
  rintro e w ⟨rfl, H⟩
  refine ⟨_, rfl, ?_⟩
  clear F a; intro a F
  refine sNil ?_
  refine hK7 _ _ ?_; clear hK7
  refine cIf F rfl (fun h17 => ?_) (fun h17 => ?_)
  ·
   rw [if_pos h17] at H
   have k2 : c.kw (s.pos + 1) [115, 116, 111, 114, 101, 115] = true := h17
   refine cReg ?_
   refine sFa (f := 6) (k := 8) Try.underlying42 rfl Try.sizeOf5 rfl rfl F rfl rfl rfl ?_;clear F a;intro a F
   refine sSt H 3 Try.sizeOf5 F rfl rfl rfl rfl rfl rfl ?_
   clear H; intro w H
   refine sNil ?_
   refine hK4 _ _ ?_; clear hK4
   refine cSeq (fun K8 hK8 => ?_)
   refine cReg ?_
   refine sLr Try.underlying42 rfl ?si F rfl rfl rfl (H.whole 3 rfl) ?_
   case si => exact info_size Try.sizeOf42
   clear F a; intro a F
   refine sSr H 4 ?si F rfl rfl rfl ?s1 rfl rfl ?_
   case si => exact info_size Try.sizeOf42
   case s1 => first | rfl | (repeat (first | exact one_nil | (apply one_cons; · first | rfl | assumption | exact one_bif rfl rfl)))
   clear H; intro w H
   refine sNil ?_
   refine hK8 _ _ ?_; clear hK8
   refine wp_ret ?_
   refine bRetC Try.results84 F rfl Try.underlying42 rfl H 4 rfl Try.sizeOf42 rfl ?_
   first
   | exact Ans.ok (by unfold fenceP; rw [if_pos k1]) ⟨rfl, _, _, H.selT 5 [0, 1, 2] rfl rfl⟩
   | exact Ans.ok (by unfold fenceP; rw [if_neg k1, if_pos k2]) ⟨rfl, _, _, H.selT 5 [0, 1, 2] rfl rfl⟩
   | exact Ans.ok (by unfold fenceP; rw [if_neg k1, if_neg k2]) ⟨rfl, _, _, H.selT 5 [0, 1, 2] rfl rfl⟩
  rw [if_neg (by rw [h17]; exact Bool.false_ne_true)] at H
  have k2 : ¬ c.kw (s.pos + 1) [115, 116, 111, 114, 101, 115] = true := by show ¬ c.kw s.next.pos _ = true; rw [h17]; exact Bool.false_ne_true
  refine wp_skip ?_
  refine hK4 _ _ ?_; clear hK4
  refine cSeq (fun K9 hK9 => ?_)
  refine cReg ?_
  refine sLr Try.underlying42 rfl ?si F rfl rfl rfl (H.whole 3 rfl) ?_
  case si => exact info_size Try.sizeOf42
  clear F a; intro a F
  refine sSr H 4 ?si F rfl rfl rfl ?s1 rfl rfl ?_
  case si => exact info_size Try.sizeOf42
  case s1 => first | rfl | (repeat (first | exact one_nil | (apply one_cons; · first | rfl | assumption | exact one_bif rfl rfl)))
  clear H; intro w H
  refine sNil ?_
  refine hK9 _ _ ?_; clear hK9
  refine wp_ret ?_
  refine bRetC Try.results84 F rfl Try.underlying42 rfl H 4 rfl Try.sizeOf42 rfl ?_
  first
  | exact Ans.ok (by unfold fenceP; rw [if_pos k1]) ⟨rfl, _, _, H.selT 5 [0, 1, 2] rfl rfl⟩
  | exact Ans.ok (by unfold fenceP; rw [if_neg k1, if_pos k2]) ⟨rfl, _, _, H.selT 5 [0, 1, 2] rfl rfl⟩
  | exact Ans.ok (by unfold fenceP; rw [if_neg k1, if_neg k2]) ⟨rfl, _, _, H.selT 5 [0, 1, 2] rfl rfl⟩
set_option maxHeartbeats 4000000 in
theorem pstore_any {W w0 : World} {rs : List Res} {c : PX} (hc : c.Ok) {A : Option Addr} {C bp : Nat} {S : Nat → Prop} {s : PS} {B : Option Addr} {D : Nat} {X : List Value} (hp : s.pos ≤ 999000) (hnl : s.names.length ≤ c.lim) (H : Own W none w0 (.blk bp (parC c A C s B D X) 59 :: .held S A 3 (rowsT c.ts) :: .nms W c.fixed B D s.names :: rs)) :
    Calls Try.prog 77 #[.pointer (some ⟨bp, 0, none⟩)] w0 fun e w' => Ans W rs (storeP c s) (fun v t e w' => e = .returned (.agg v.cells.toArray) ∧ ∃ B D, Own W none w' (.blk bp (parC c A C t B D X) 59 :: .held S A 3 (rowsT c.ts) :: .nms W c.fixed B D t.names :: rs)) e w' := by
  refine enterF Try.func77 rfl Try.ntmps77 rfl (fun a F => ?_)
  refine cSeq (fun K1 hK1 => ?_)
  refine cReg ?_
  refine sAl H Try.zeroValue42 F rfl rfl ?_
  clear F a H; intro b2 a w F H
  refine sNil ?_
  refine hK1 _ _ ?_; clear hK1
  refine cSeq (fun K2 hK2 => ?_)
  refine cReg ?_
  refine sMv F rfl rfl rfl ?_;clear F a;intro a F
  refine sMv F rfl rfl rfl ?_;clear F a;intro a F
  refine sNc F rfl rfl rfl ?_;clear F a;intro a F
  refine sFa (f := 1) (k := 3) Try.underlying59 rfl Try.sizeOf29 rfl rfl F rfl rfl rfl ?_;clear F a;intro a F
  refine sLd Try.isAgg29 F rfl rfl rfl (H.cell 1 rfl rfl) ?_;clear F a;intro a F
  refine sCallP Try.call71 F rfl rfl rfl (ploc_any hc hp hnl (H.selT 4 [1, 2, 3, 0] rfl rfl)) ?_
  rintro e w hq9
  rcases hq9.cases with ⟨p9, e9, hn9, rfl, H⟩ | ⟨v9, t9, hr9, rfl, B9, D9, H⟩
  ·
   refine .inl ⟨_, rfl, ?_⟩
   exact And.intro F.nod (Ans.no (by unfold storeP; rw [hn9]; rfl) H.tail)
  obtain ⟨hn6, hp9⟩ := loc_six hnl v9 t9 hr9
  refine .inr ⟨_, rfl, ?_⟩
  clear F a; intro a F
  refine sBd (places := [(0, 1), (1, 1), (2, 1), (3, 2), (5, 2), (7, 1), (8, 1), (9, 1)]) Try.zeroValue42 Try.underlying42 (by kernel_rfl) F rfl rfl rfl rfl ?_;clear F a;intro a F
  refine sAl H Try.zeroValue42 F rfl rfl ?_
  clear F a H; intro b3 a w F H
  refine sSr H 0 ?si F rfl rfl rfl ?s1 rfl rfl ?_
  case si => exact info_size Try.sizeOf42
  case s1 => first | rfl | (repeat (first | exact one_nil | (apply one_cons; · first | rfl | assumption | exact one_bif rfl rfl)))
  clear H; intro w H
  refine sNil ?_
  refine hK2 _ _ ?_; clear hK2
  refine cSeq (fun K3 hK3 => ?_)
  refine cReg ?_
  refine sMv F rfl rfl rfl ?_;clear F a;intro a F
  refine sNc F rfl rfl rfl ?_;clear F a;intro a F
  refine sFa (f := 0) (k := 0) Try.underlying59 rfl Try.sizeOf57 rfl rfl F rfl rfl rfl ?_;clear F a;intro a F
  refine sCallP Try.call72 F rfl rfl rfl (psign_any [61] hc (by omega) (H.selT 5 [1, 2, 3, 0, 4] rfl rfl)) ?_
  rintro e w hq9
  rcases hq9.cases with ⟨p9, e9, hn14, rfl, H⟩ | ⟨v14, t14, hr14, rfl, H⟩
  ·
   refine .inl ⟨_, rfl, ?_⟩
   exact And.intro F.nod (Ans.no (by unfold storeP; rw [hr9]; show (signP c [61] t9).bind _ = _; rw [hn14]; rfl) H.tail.tail.tail)
  obtain rfl := (signP_all v14 t14 hr14).2
  refine .inr ⟨_, rfl, ?_⟩
  clear F a; intro a F
  refine sNil ?_
  refine hK3 _ _ ?_; clear hK3
  refine cSeq (fun K4 hK4 => ?_)
  refine cReg ?_
  refine sMv F rfl rfl rfl ?_;clear F a;intro a F
  refine sNc F rfl rfl rfl ?_;clear F a;intro a F
  refine sFa (f := 0) (k := 0) Try.underlying59 rfl Try.sizeOf57 rfl rfl F rfl rfl rfl ?_;clear F a;intro a F
  refine sCallP Try.call86 F rfl rfl rfl (parg_any hc (by simp only [PS.next]; omega) H) ?_
  rintro e w hq9
  rcases hq9.cases with ⟨p9, e9, hn18, rfl, H⟩ | ⟨v18, t18, hr18, rfl, H⟩
  ·
   refine .inl ⟨_, rfl, ?_⟩
   exact And.intro F.nod (Ans.no (by unfold storeP; rw [hr9]; show (signP c [61] t9).bind _ = _; rw [hr14]; show (argP' c t9.next).bind _ = _; rw [hn18]; rfl) H.tail.tail.tail)
  obtain rfl := (argP_all v18 t18 hr18).2.1
  refine .inr ⟨_, rfl, ?_⟩
  clear F a; intro a F
  refine sFa (f := 3) (k := 3) Try.underlying42 rfl Try.sizeOf40 rfl rfl F rfl rfl rfl ?_;clear F a;intro a F
  refine sSr H 3 ?si F rfl rfl rfl ?s1 rfl rfl ?_
  case si => exact info_size Try.sizeOf40
  case s1 => first | rfl | (repeat (first | exact one_nil | (apply one_cons; · first | rfl | assumption | exact one_bif rfl rfl)))
  clear H; intro w H
  refine sNil ?_
  refine hK4 _ _ ?_; clear hK4
  refine cSeq (fun K5 hK5 => ?_)
  refine cSeq (fun K6 hK6 => ?_)
  refine cReg ?_
  refine sMv F rfl rfl rfl ?_;clear F a;intro a F
  refine sNc F rfl rfl rfl ?_;clear F a;intro a F
  refine sFa (f := 0) (k := 0) Try.underlying59 rfl Try.sizeOf57 rfl rfl F rfl rfl rfl ?_;clear F a;intro a F
  refine sCall Try.call78 F rfl rfl rfl (ptakes_any [114, 101, 108] hc (by simp only [PS.next]; omega) H) ?_
  rintro e w ⟨rfl, H⟩
  refine ⟨_, rfl, ?_⟩
  clear F a; intro a F
  refine sNil ?_
  refine hK6 _ _ ?_; clear hK6
  refine cIf F rfl (fun h23 => ?_) (fun h23 => ?_)
  ·
   rw [if_pos h23] at H
   have k1 : c.kw t9.next.next.pos [114, 101, 108] = true := h23
   refine cReg ?_
   refine sFa (f := 6) (k := 8) Try.underlying42 rfl Try.sizeOf5 rfl rfl F rfl rfl rfl ?_;clear F a;intro a F
   refine sSt H 3 Try.sizeOf5 F rfl rfl rfl rfl rfl rfl ?_
   clear H; intro w H
   refine sNil ?_
   refine hK5 _ _ ?_; clear hK5
   refine cSeq (fun K7 hK7 => ?_)
   refine cReg ?_
   refine sLr Try.underlying42 rfl ?si F rfl rfl rfl (H.whole 3 rfl) ?_
   case si => exact info_size Try.sizeOf42
   clear F a; intro a F
   refine sSr H 4 ?si F rfl rfl rfl ?s1 rfl rfl ?_
   case si => exact info_size Try.sizeOf42
   case s1 => first | rfl | (repeat (first | exact one_nil | (apply one_cons; · first | rfl | assumption | exact one_bif rfl rfl)))
   clear H; intro w H
   refine sNil ?_
   refine hK7 _ _ ?_; clear hK7
   refine wp_ret ?_
   refine bRetC Try.results77 F rfl Try.underlying42 rfl H 4 rfl Try.sizeOf42 rfl ?_
   first
   | exact Ans.ok (by unfold storeP; rw [hr9]; show (signP c [61] t9).bind _ = _; rw [hr14]; show (argP' c t9.next).bind _ = _; rw [hr18]; exact if_pos k1) ⟨rfl, _, _, H.selT 5 [0, 1, 2] rfl rfl⟩
   | exact Ans.ok (by unfold storeP; rw [hr9]; show (signP c [61] t9).bind _ = _; rw [hr14]; show (argP' c t9.next).bind _ = _; rw [hr18]; exact if_neg k1) ⟨rfl, _, _, H.selT 5 [0, 1, 2] rfl rfl⟩
  rw [if_neg (by rw [h23]; exact Bool.false_ne_true)] at H
  have k1 : ¬ c.kw t9.next.next.pos [114, 101, 108] = true := by rw [h23]; exact Bool.false_ne_true
  refine wp_skip ?_
  refine hK5 _ _ ?_; clear hK5
  refine cSeq (fun K8 hK8 => ?_)
  refine cReg ?_
  refine sLr Try.underlying42 rfl ?si F rfl rfl rfl (H.whole 3 rfl) ?_
  case si => exact info_size Try.sizeOf42
  clear F a; intro a F
  refine sSr H 4 ?si F rfl rfl rfl ?s1 rfl rfl ?_
  case si => exact info_size Try.sizeOf42
  case s1 => first | rfl | (repeat (first | exact one_nil | (apply one_cons; · first | rfl | assumption | exact one_bif rfl rfl)))
  clear H; intro w H
  refine sNil ?_
  refine hK8 _ _ ?_; clear hK8
  refine wp_ret ?_
  refine bRetC Try.results77 F rfl Try.underlying42 rfl H 4 rfl Try.sizeOf42 rfl ?_
  first
  | exact Ans.ok (by unfold storeP; rw [hr9]; show (signP c [61] t9).bind _ = _; rw [hr14]; show (argP' c t9.next).bind _ = _; rw [hr18]; exact if_pos k1) ⟨rfl, _, _, H.selT 5 [0, 1, 2] rfl rfl⟩
  | exact Ans.ok (by unfold storeP; rw [hr9]; show (signP c [61] t9).bind _ = _; rw [hr14]; show (argP' c t9.next).bind _ = _; rw [hr18]; exact if_neg k1) ⟨rfl, _, _, H.selT 5 [0, 1, 2] rfl rfl⟩
end Go.Proofs.Ytbdjlmdejlklkaa
