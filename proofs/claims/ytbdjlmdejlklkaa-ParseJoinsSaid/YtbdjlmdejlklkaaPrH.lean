/-
  WALK2. Package parse: assign. Conditions: the parser, its tokens and names lie in memory.
-/
import Derived.Test.YtbdjlmdejlklkaaPrE
set_option linter.unusedSimpArgs false
set_option linter.unusedVariables false
namespace Go.Proofs.Ytbdjlmdejlklkaa
open Go.RowKit
set_option maxRecDepth 100000
theorem move_names {c : PX} {d : UInt8} {s : PS} : (moveP' c d s).All fun _ t => t.names = s.names := by
  unfold moveP' failP
  refine argP_all.bind fun x s1 _ h1 => ?_
  cases fnP c s1 with
  | none => exact .no
  | some f => exact argP_all.bind fun y s2 _ h2 => .ok (by rw [h2.2.1, h1.2.1]; rfl)
set_option maxHeartbeats 16000000 in
theorem passign_any {W w0 : World} {rs : List Res} {c : PX} (hc : c.Ok) {A : Option Addr} {C bp : Nat} {S : Nat → Prop} {s : PS} {B : Option Addr} {D : Nat} {X : List Value} (hp : s.pos ≤ 998000) (hnl : s.names.length ≤ c.lim) (H : Own W none w0 (.blk bp (parC c A C s B D X) 59 :: .held S A 3 (rowsT c.ts) :: .nms W c.fixed B D s.names :: rs)) :
    Calls Try.prog 76 #[.pointer (some ⟨bp, 0, none⟩)] w0 fun e w' => Ans W rs (assignP c s) (fun v t e w' => e = .returned (.agg v.cells.toArray) ∧ ∃ B D, Own W none w' (.blk bp (parC c A C t B D X) 59 :: .held S A 3 (rowsT c.ts) :: .nms W c.fixed B D t.names :: rs)) e w' := by
  refine enterF Try.func76 rfl Try.ntmps76 rfl (fun a F => ?_)
  refine cSeq (fun K1 hK1 => ?_)
  refine cReg ?_
  refine sAl H Try.zeroValue42 F rfl rfl ?_
  clear F a H; intro b2 a w F H
  refine sNil ?_
  refine hK1 _ _ ?_; clear hK1
  refine cSeq (fun K2 hK2 => ?_)
  refine cReg ?_
  refine sMv F rfl rfl rfl ?_;clear F a;intro a F
  refine sNc F rfl rfl rfl ?_;clear F a;intro a F
  refine sFa (f := 0) (k := 0) Try.underlying59 rfl Try.sizeOf57 rfl rfl F rfl rfl rfl ?_;clear F a;intro a F
  refine sCallP Try.call79 F rfl rfl rfl (preg_any hc (by omega) (H.selT 4 [1, 2, 3, 0] rfl rfl)) ?_
  rintro e w hq9
  rcases hq9.cases with ⟨p9, e9, hn7, rfl, H⟩ | ⟨v7, t7, hr7, rfl, H⟩
  ·
   refine .inl ⟨_, rfl, ?_⟩
   exact And.intro F.nod (Ans.no (by unfold assignP; simp only [hn7, Rs.bind]) H.tail.tail)
  obtain rfl := (regQ_all v7 t7 hr7).2.1
  refine .inr ⟨_, rfl, ?_⟩
  clear F a; intro a F
  refine sBd (places := [(0, 1), (1, 1), (2, 1), (3, 2), (5, 2), (7, 1), (8, 1), (9, 1)]) Try.zeroValue42 Try.underlying42 (by kernel_rfl) F rfl rfl rfl rfl ?_;clear F a;intro a F
  refine sAl H Try.zeroValue42 F rfl rfl ?_
  clear F a H; intro b3 a w F H
  refine sSr H 0 ?si F rfl rfl rfl ?s1 rfl rfl ?_
  case si => exact info_size Try.sizeOf42
  case s1 => first | rfl | (repeat (first | exact one_nil | (apply one_cons; · first | rfl | assumption | exact one_bif rfl rfl)))
  clear H; intro w H
  refine sNil ?_
  refine hK2 _ _ ?_; clear hK2
  refine cSeq (fun K3 hK3 => ?_)
  refine cReg ?_
  refine sMv F rfl rfl rfl ?_;clear F a;intro a F
  refine sNc F rfl rfl rfl ?_;clear F a;intro a F
  refine sFa (f := 0) (k := 0) Try.underlying59 rfl Try.sizeOf57 rfl rfl F rfl rfl rfl ?_;clear F a;intro a F
  refine sCallP Try.call72 F rfl rfl rfl (psign_any [61] hc (by (try simp only [PS.next]); omega) (H.selT 5 [1, 2, 3, 0, 4] rfl rfl)) ?_
  rintro e w hq9
  rcases hq9.cases with ⟨p9, e9, hn12, rfl, H⟩ | ⟨v12, t12, hr12, rfl, H⟩
  ·
   refine .inl ⟨_, rfl, ?_⟩
   exact And.intro F.nod (Ans.no (by unfold assignP; simp only [hr7, hn12, Rs.bind]) H.tail.tail.tail)
  obtain rfl := (signP_all v12 t12 hr12).2
  refine .inr ⟨_, rfl, ?_⟩
  clear F a; intro a F
  refine sNil ?_
  refine hK3 _ _ ?_; clear hK3
  refine cSeq (fun K4 hK4 => ?_)
  refine wp_block ?_
  refine cSeq (fun K5 hK5 => ?_)
  refine cReg ?_
  refine sMv F rfl rfl rfl ?_;clear F a;intro a F
  refine sNc F rfl rfl rfl ?_;clear F a;intro a F
  refine sFa (f := 0) (k := 0) Try.underlying59 rfl Try.sizeOf57 rfl rfl F rfl rfl rfl ?_;clear F a;intro a F
  refine sCall Try.call78 F rfl rfl rfl (ptakes_any [115, 119, 97, 112] hc (by (try simp only [PS.next]); omega) H) ?_
  rintro e w ⟨rfl, H⟩
  refine ⟨_, rfl, ?_⟩
  clear F a; intro a F
  refine sAs F rfl rfl rfl ?_;clear F a;intro a F
  refine sNil ?_
  refine hK5 _ _ ?_; clear hK5
  refine cIf F rfl (fun h15 => ?_) (fun h15 => ?_)
  ·
   rw [if_pos h15] at H
   refine cRegRO (by kernel_rfl) (H.sel [1] rfl rfl) ?_
   replace H := H.drew
   refine eTakeF (k := 0) (i := 0) rfl (by kernel_rfl) F rfl rfl rfl (fun w => rMv F rfl) (H.sel [1] rfl rfl) (fun _ _ _ h => h) ?_;clear F a;intro a F
   refine eTakeF (k := 1) (i := 1) rfl (by kernel_rfl) F rfl rfl rfl (fun w => rMv F rfl) (H.sel [1] rfl rfl) (fun _ _ _ h => h) ?_;clear F a;intro a F
   refine eTake (k := 2) (i := 2) rfl (by kernel_rfl) F rfl rfl rfl rfl (fun w H => rNc F rfl) (H.sel [1] rfl rfl) (fun _ _ _ h => h) ?_;clear F a;intro a F
   refine eTakeF (k := 3) (i := 3) rfl (by kernel_rfl) F rfl rfl rfl (fun w => rFa (f := 1) (k := 3) Try.underlying59 rfl Try.sizeOf29 rfl rfl F rfl) (H.sel [1] rfl rfl) (fun _ _ _ h => h) ?_;clear F a;intro a F
   refine eTakeF (k := 4) (i := 6) rfl (by kernel_rfl) F rfl rfl rfl (fun w => rMv F rfl) (H.sel [1] rfl rfl) (fun _ _ _ h => h) ?_;clear F a;intro a F
   refine eTake (k := 5) (i := 7) rfl (by kernel_rfl) F rfl rfl rfl rfl (fun w H => rNc F rfl) (H.sel [1] rfl rfl) (fun _ _ _ h => h) ?_;clear F a;intro a F
   refine eTakeF (k := 6) (i := 8) rfl (by kernel_rfl) F rfl rfl rfl (fun w => rFa (f := 0) (k := 0) Try.underlying59 rfl Try.sizeOf57 rfl rfl F rfl) (H.sel [1] rfl rfl) (fun _ _ _ h => h) ?_;clear F a;intro a F
   refine eOne (k := 7) (i := 4) rfl (by kernel_rfl) F rfl (oV F rfl rfl (rLd Try.isAgg29 F rfl (H.cell 0 rfl rfl)) ?_)
   clear F a; intro a F
   refine eKeep (H.sel [1] rfl rfl) ?_
   refine eOne (k := 8) (i := 5) rfl (by kernel_rfl) F rfl (oCallP Try.call71 F rfl rfl (ploc_any (s := s.next.next.next) hc (by (try simp only [PS.next]); omega) (by exact hnl) H) ?_)
   rintro e w hq9
   rcases hq9.cases with ⟨p9, e9, hn25, rfl, H⟩ | ⟨v25, t25, hr25, rfl, B25, D25, H⟩
   ·
    refine .inl ⟨_, rfl, ?_⟩
    exact And.intro F.nod (Ans.no (by unfold assignP; simp only [hr7, hr12, h15, hn25, Rs.bind, if_true, Bool.false_eq_true, if_false, reduceCtorEq]) H.tail.tail)
   obtain ⟨hn6, hp25⟩ := loc_six (s := s.next.next.next) hnl v25 t25 hr25; simp only [PS.next] at hp25
   refine .inr ⟨_, rfl, ?_⟩
   clear F a; intro a F
   refine eKeep (H.sel [1] rfl rfl) ?_
   refine eOne (k := 9) (i := 9) rfl (by kernel_rfl) F rfl (oCallP Try.call86 F rfl rfl (parg_any hc (by (try simp only [PS.next]); omega) H) ?_)
   rintro e w hq9
   rcases hq9.cases with ⟨p9, e9, hn29, rfl, H⟩ | ⟨v29, t29, hr29, rfl, H⟩
   ·
    refine .inl ⟨_, rfl, ?_⟩
    exact And.intro F.nod (Ans.no (by unfold assignP; simp only [hr7, hr12, h15, hr25, hn29, Rs.bind, if_true, Bool.false_eq_true, if_false, reduceCtorEq]) H.tail.tail.tail)
   obtain rfl := (argP_all v29 t29 hr29).2.1
   refine .inr ⟨_, rfl, ?_⟩
   clear F a; intro a F
   refine ePartO (by kernel_rfl) H ?_
   refine eTakeF (k := 10) (i := 10) rfl (by kernel_rfl) F rfl rfl rfl (fun w => rFa (f := 0) (k := 0) Try.underlying42 rfl Try.sizeOf5 rfl rfl F rfl) H (fun _ _ _ h => h) ?_;clear F a;intro a F
   refine eOne (k := 11) (i := 11) rfl (by kernel_rfl) F rfl (oSt H 3 Try.sizeOf5 F rfl rfl rfl rfl rfl ?_)
   clear H; intro w H
   refine ePartO (by kernel_rfl) H ?_
   refine eTakeF (k := 12) (i := 12) rfl (by kernel_rfl) F rfl rfl rfl (fun w => rFa (f := 2) (k := 2) Try.underlying42 rfl Try.sizeOf5 rfl rfl F rfl) H (fun _ _ _ h => h) ?_;clear F a;intro a F
   refine eOne (k := 13) (i := 13) rfl (by kernel_rfl) F rfl (oSt H 3 Try.sizeOf5 F rfl rfl rfl rfl rfl ?_)
   clear H; intro w H
   refine ePartO (by kernel_rfl) H ?_
   refine eTakeF (k := 14) (i := 14) rfl (by kernel_rfl) F rfl rfl rfl (fun w => rFa (f := 3) (k := 3) Try.underlying42 rfl Try.sizeOf40 rfl rfl F rfl) H (fun _ _ _ h => h) ?_;clear F a;intro a F
   refine eOne (k := 15) (i := 15) rfl (by kernel_rfl) F rfl (oSr H 3 ?si F rfl rfl ?s1 rfl rfl ?_)
   case si => exact info_size Try.sizeOf40
   case s1 => first | rfl | (repeat (first | exact one_nil | (apply one_cons; · first | rfl | assumption | exact one_bif rfl rfl)))
   clear H; intro w H
   refine ePartO (by kernel_rfl) H ?_
   refine eNil (k := 16) (by kernel_rfl) ?_
   refine hK4 _ _ ?_; clear hK4
   refine cSeq (fun K6 hK6 => ?_)
   refine cReg ?_
   refine sLr Try.underlying42 rfl ?si F rfl rfl rfl (H.whole 3 rfl) ?_
   case si => exact info_size Try.sizeOf42
   clear F a; intro a F
   refine sSr H 4 ?si F rfl rfl rfl ?s1 rfl rfl ?_
   case si => exact info_size Try.sizeOf42
   case s1 => first | rfl | (repeat (first | exact one_nil | (apply one_cons; · first | rfl | assumption | exact one_bif rfl rfl)))
   clear H; intro w H
   refine sNil ?_
   refine hK6 _ _ ?_; clear hK6
   refine wp_ret ?_
   refine bRetC Try.results76 F rfl Try.underlying42 rfl H 4 rfl Try.sizeOf42 rfl ?_
   first
   | exact Ans.ok (v := { zIns with op := 4, dst := v7, loc := v25, aR := v29.1, aN := v29.2 }) (by unfold assignP; simp only [hr7, hr12, h15, hr25, hr29, Rs.bind, if_true, Bool.false_eq_true, if_false, reduceCtorEq]) ⟨rfl, _, _, H.selT 5 [0, 1, 2] rfl rfl⟩
   | exact Ans.ok (v := { zIns with op := 5, dst := v7, loc := v43, aR := v47.1, aN := v47.2 }) (by unfold assignP; simp only [hr7, hr12, h15, h33, hr43, hr47, Rs.bind, if_true, Bool.false_eq_true, if_false, reduceCtorEq]) ⟨rfl, _, _, H.selT 5 [0, 1, 2] rfl rfl⟩
   | exact Ans.ok (v := { zIns with op := 6, dst := v7, loc := v61, aR := v65.1, aN := v65.2, bR := v69.1, bN := v69.2 }) (by unfold assignP; simp only [hr7, hr12, h15, h33, h51, hr61, hr65, hr69, Rs.bind, if_true, Bool.false_eq_true, if_false, reduceCtorEq]) ⟨rfl, _, _, H.selT 5 [0, 1, 2] rfl rfl⟩
   | exact Ans.ok (v := { zIns with op := 1, dst := v7, loc := v85, mode := 1 }) (by unfold assignP; simp only [hr7, hr12, h15, h33, h51, h74, hr85, h91, Rs.bind, if_true, Bool.false_eq_true, if_false, reduceCtorEq]) ⟨rfl, _, _, H.selT 5 [0, 1, 2] rfl rfl⟩
   | exact Ans.ok (v := { zIns with op := 1, dst := v7, loc := v85 }) (by unfold assignP; simp only [hr7, hr12, h15, h33, h51, h74, hr85, h91, Rs.bind, if_true, Bool.false_eq_true, if_false, reduceCtorEq]) ⟨rfl, _, _, H.selT 5 [0, 1, 2] rfl rfl⟩
   | exact Ans.ok (v := v14) (by unfold assignP; simp only [hr7, hr12, h15, h33, h51, h74, hr14, Rs.bind, if_true, Bool.false_eq_true, if_false, reduceCtorEq]) ⟨rfl, _, _, H.selT 5 [0, 1, 2] rfl rfl⟩
  rw [if_neg (by rw [h15]; exact Bool.false_ne_true)] at H
  refine cSeq (fun K7 hK7 => ?_)
  refine cReg ?_
  refine sMv F rfl rfl rfl ?_;clear F a;intro a F
  refine sNc F rfl rfl rfl ?_;clear F a;intro a F
  refine sFa (f := 0) (k := 0) Try.underlying59 rfl Try.sizeOf57 rfl rfl F rfl rfl rfl ?_;clear F a;intro a F
  refine sCall Try.call78 F rfl rfl rfl (ptakes_any [102, 101, 116, 99, 104] hc (by (try simp only [PS.next]); omega) H) ?_
  rintro e w ⟨rfl, H⟩
  refine ⟨_, rfl, ?_⟩
  clear F a; intro a F
  refine sAs F rfl rfl rfl ?_;clear F a;intro a F
  refine sNil ?_
  refine hK7 _ _ ?_; clear hK7
  refine cIf F rfl (fun h33 => ?_) (fun h33 => ?_)
  ·
   rw [if_pos h33] at H
   refine cRegRO (by kernel_rfl) (H.sel [1] rfl rfl) ?_
   replace H := H.drew
   refine eTakeF (k := 0) (i := 0) rfl (by kernel_rfl) F rfl rfl rfl (fun w => rMv F rfl) (H.sel [1] rfl rfl) (fun _ _ _ h => h) ?_;clear F a;intro a F
   refine eTakeF (k := 1) (i := 1) rfl (by kernel_rfl) F rfl rfl rfl (fun w => rMv F rfl) (H.sel [1] rfl rfl) (fun _ _ _ h => h) ?_;clear F a;intro a F
   refine eTake (k := 2) (i := 2) rfl (by kernel_rfl) F rfl rfl rfl rfl (fun w H => rNc F rfl) (H.sel [1] rfl rfl) (fun _ _ _ h => h) ?_;clear F a;intro a F
   refine eTakeF (k := 3) (i := 3) rfl (by kernel_rfl) F rfl rfl rfl (fun w => rFa (f := 1) (k := 3) Try.underlying59 rfl Try.sizeOf29 rfl rfl F rfl) (H.sel [1] rfl rfl) (fun _ _ _ h => h) ?_;clear F a;intro a F
   refine eTakeF (k := 4) (i := 6) rfl (by kernel_rfl) F rfl rfl rfl (fun w => rMv F rfl) (H.sel [1] rfl rfl) (fun _ _ _ h => h) ?_;clear F a;intro a F
   refine eTake (k := 5) (i := 7) rfl (by kernel_rfl) F rfl rfl rfl rfl (fun w H => rNc F rfl) (H.sel [1] rfl rfl) (fun _ _ _ h => h) ?_;clear F a;intro a F
   refine eTakeF (k := 6) (i := 8) rfl (by kernel_rfl) F rfl rfl rfl (fun w => rFa (f := 0) (k := 0) Try.underlying59 rfl Try.sizeOf57 rfl rfl F rfl) (H.sel [1] rfl rfl) (fun _ _ _ h => h) ?_;clear F a;intro a F
   refine eOne (k := 7) (i := 4) rfl (by kernel_rfl) F rfl (oV F rfl rfl (rLd Try.isAgg29 F rfl (H.cell 0 rfl rfl)) ?_)
   clear F a; intro a F
   refine eKeep (H.sel [1] rfl rfl) ?_
   refine eOne (k := 8) (i := 5) rfl (by kernel_rfl) F rfl (oCallP Try.call71 F rfl rfl (ploc_any (s := s.next.next.next) hc (by (try simp only [PS.next]); omega) (by exact hnl) H) ?_)
   rintro e w hq9
   rcases hq9.cases with ⟨p9, e9, hn43, rfl, H⟩ | ⟨v43, t43, hr43, rfl, B43, D43, H⟩
   ·
    refine .inl ⟨_, rfl, ?_⟩
    exact And.intro F.nod (Ans.no (by unfold assignP; simp only [hr7, hr12, h15, h33, hn43, Rs.bind, if_true, Bool.false_eq_true, if_false, reduceCtorEq]) H.tail.tail)
   obtain ⟨hn6, hp43⟩ := loc_six (s := s.next.next.next) hnl v43 t43 hr43; simp only [PS.next] at hp43
   refine .inr ⟨_, rfl, ?_⟩
   clear F a; intro a F
   refine eKeep (H.sel [1] rfl rfl) ?_
   refine eOne (k := 9) (i := 9) rfl (by kernel_rfl) F rfl (oCallP Try.call86 F rfl rfl (parg_any hc (by (try simp only [PS.next]); omega) H) ?_)
   rintro e w hq9
   rcases hq9.cases with ⟨p9, e9, hn47, rfl, H⟩ | ⟨v47, t47, hr47, rfl, H⟩
   ·
    refine .inl ⟨_, rfl, ?_⟩
    exact And.intro F.nod (Ans.no (by unfold assignP; simp only [hr7, hr12, h15, h33, hr43, hn47, Rs.bind, if_true, Bool.false_eq_true, if_false, reduceCtorEq]) H.tail.tail.tail)
   obtain rfl := (argP_all v47 t47 hr47).2.1
   refine .inr ⟨_, rfl, ?_⟩
   clear F a; intro a F
   refine ePartO (by kernel_rfl) H ?_
   refine eTakeF (k := 10) (i := 10) rfl (by kernel_rfl) F rfl rfl rfl (fun w => rFa (f := 0) (k := 0) Try.underlying42 rfl Try.sizeOf5 rfl rfl F rfl) H (fun _ _ _ h => h) ?_;clear F a;intro a F
   refine eOne (k := 11) (i := 11) rfl (by kernel_rfl) F rfl (oSt H 3 Try.sizeOf5 F rfl rfl rfl rfl rfl ?_)
   clear H; intro w H
   refine ePartO (by kernel_rfl) H ?_
   refine eTakeF (k := 12) (i := 12) rfl (by kernel_rfl) F rfl rfl rfl (fun w => rFa (f := 2) (k := 2) Try.underlying42 rfl Try.sizeOf5 rfl rfl F rfl) H (fun _ _ _ h => h) ?_;clear F a;intro a F
   refine eOne (k := 13) (i := 13) rfl (by kernel_rfl) F rfl (oSt H 3 Try.sizeOf5 F rfl rfl rfl rfl rfl ?_)
   clear H; intro w H
   refine ePartO (by kernel_rfl) H ?_
   refine eTakeF (k := 14) (i := 14) rfl (by kernel_rfl) F rfl rfl rfl (fun w => rFa (f := 3) (k := 3) Try.underlying42 rfl Try.sizeOf40 rfl rfl F rfl) H (fun _ _ _ h => h) ?_;clear F a;intro a F
   refine eOne (k := 15) (i := 15) rfl (by kernel_rfl) F rfl (oSr H 3 ?si F rfl rfl ?s1 rfl rfl ?_)
   case si => exact info_size Try.sizeOf40
   case s1 => first | rfl | (repeat (first | exact one_nil | (apply one_cons; · first | rfl | assumption | exact one_bif rfl rfl)))
   clear H; intro w H
   refine ePartO (by kernel_rfl) H ?_
   refine eNil (k := 16) (by kernel_rfl) ?_
   refine hK4 _ _ ?_; clear hK4
   refine cSeq (fun K8 hK8 => ?_)
   refine cReg ?_
   refine sLr Try.underlying42 rfl ?si F rfl rfl rfl (H.whole 3 rfl) ?_
   case si => exact info_size Try.sizeOf42
   clear F a; intro a F
   refine sSr H 4 ?si F rfl rfl rfl ?s1 rfl rfl ?_
   case si => exact info_size Try.sizeOf42
   case s1 => first | rfl | (repeat (first | exact one_nil | (apply one_cons; · first | rfl | assumption | exact one_bif rfl rfl)))
   clear H; intro w H
   refine sNil ?_
   refine hK8 _ _ ?_; clear hK8
   refine wp_ret ?_
   refine bRetC Try.results76 F rfl Try.underlying42 rfl H 4 rfl Try.sizeOf42 rfl ?_
   first
   | exact Ans.ok (v := { zIns with op := 4, dst := v7, loc := v25, aR := v29.1, aN := v29.2 }) (by unfold assignP; simp only [hr7, hr12, h15, hr25, hr29, Rs.bind, if_true, Bool.false_eq_true, if_false, reduceCtorEq]) ⟨rfl, _, _, H.selT 5 [0, 1, 2] rfl rfl⟩
   | exact Ans.ok (v := { zIns with op := 5, dst := v7, loc := v43, aR := v47.1, aN := v47.2 }) (by unfold assignP; simp only [hr7, hr12, h15, h33, hr43, hr47, Rs.bind, if_true, Bool.false_eq_true, if_false, reduceCtorEq]) ⟨rfl, _, _, H.selT 5 [0, 1, 2] rfl rfl⟩
   | exact Ans.ok (v := { zIns with op := 6, dst := v7, loc := v61, aR := v65.1, aN := v65.2, bR := v69.1, bN := v69.2 }) (by unfold assignP; simp only [hr7, hr12, h15, h33, h51, hr61, hr65, hr69, Rs.bind, if_true, Bool.false_eq_true, if_false, reduceCtorEq]) ⟨rfl, _, _, H.selT 5 [0, 1, 2] rfl rfl⟩
   | exact Ans.ok (v := { zIns with op := 1, dst := v7, loc := v85, mode := 1 }) (by unfold assignP; simp only [hr7, hr12, h15, h33, h51, h74, hr85, h91, Rs.bind, if_true, Bool.false_eq_true, if_false, reduceCtorEq]) ⟨rfl, _, _, H.selT 5 [0, 1, 2] rfl rfl⟩
   | exact Ans.ok (v := { zIns with op := 1, dst := v7, loc := v85 }) (by unfold assignP; simp only [hr7, hr12, h15, h33, h51, h74, hr85, h91, Rs.bind, if_true, Bool.false_eq_true, if_false, reduceCtorEq]) ⟨rfl, _, _, H.selT 5 [0, 1, 2] rfl rfl⟩
   | exact Ans.ok (v := v14) (by unfold assignP; simp only [hr7, hr12, h15, h33, h51, h74, hr14, Rs.bind, if_true, Bool.false_eq_true, if_false, reduceCtorEq]) ⟨rfl, _, _, H.selT 5 [0, 1, 2] rfl rfl⟩
  rw [if_neg (by rw [h33]; exact Bool.false_ne_true)] at H
  refine cSeq (fun K9 hK9 => ?_)
  refine cReg ?_
  refine sMv F rfl rfl rfl ?_;clear F a;intro a F
  refine sNc F rfl rfl rfl ?_;clear F a;intro a F
  refine sFa (f := 0) (k := 0) Try.underlying59 rfl Try.sizeOf57 rfl rfl F rfl rfl rfl ?_;clear F a;intro a F
  refine sCall Try.call78 F rfl rfl rfl (ptakes_any [99, 97, 115] hc (by (try simp only [PS.next]); omega) H) ?_
  rintro e w ⟨rfl, H⟩
  refine ⟨_, rfl, ?_⟩
  clear F a; intro a F
  refine sAs F rfl rfl rfl ?_;clear F a;intro a F
  refine sNil ?_
  refine hK9 _ _ ?_; clear hK9
  refine cIf F rfl (fun h51 => ?_) (fun h51 => ?_)
  ·
   rw [if_pos h51] at H
   refine cRegRO (by kernel_rfl) (H.sel [1] rfl rfl) ?_
   replace H := H.drew
   refine eTakeF (k := 0) (i := 0) rfl (by kernel_rfl) F rfl rfl rfl (fun w => rMv F rfl) (H.sel [1] rfl rfl) (fun _ _ _ h => h) ?_;clear F a;intro a F
   refine eTakeF (k := 1) (i := 1) rfl (by kernel_rfl) F rfl rfl rfl (fun w => rMv F rfl) (H.sel [1] rfl rfl) (fun _ _ _ h => h) ?_;clear F a;intro a F
   refine eTake (k := 2) (i := 2) rfl (by kernel_rfl) F rfl rfl rfl rfl (fun w H => rNc F rfl) (H.sel [1] rfl rfl) (fun _ _ _ h => h) ?_;clear F a;intro a F
   refine eTakeF (k := 3) (i := 3) rfl (by kernel_rfl) F rfl rfl rfl (fun w => rFa (f := 1) (k := 3) Try.underlying59 rfl Try.sizeOf29 rfl rfl F rfl) (H.sel [1] rfl rfl) (fun _ _ _ h => h) ?_;clear F a;intro a F
   refine eTakeF (k := 4) (i := 6) rfl (by kernel_rfl) F rfl rfl rfl (fun w => rMv F rfl) (H.sel [1] rfl rfl) (fun _ _ _ h => h) ?_;clear F a;intro a F
   refine eTake (k := 5) (i := 7) rfl (by kernel_rfl) F rfl rfl rfl rfl (fun w H => rNc F rfl) (H.sel [1] rfl rfl) (fun _ _ _ h => h) ?_;clear F a;intro a F
   refine eTakeF (k := 6) (i := 8) rfl (by kernel_rfl) F rfl rfl rfl (fun w => rFa (f := 0) (k := 0) Try.underlying59 rfl Try.sizeOf57 rfl rfl F rfl) (H.sel [1] rfl rfl) (fun _ _ _ h => h) ?_;clear F a;intro a F
   refine eTakeF (k := 7) (i := 10) rfl (by kernel_rfl) F rfl rfl rfl (fun w => rMv F rfl) (H.sel [1] rfl rfl) (fun _ _ _ h => h) ?_;clear F a;intro a F
   refine eTake (k := 8) (i := 11) rfl (by kernel_rfl) F rfl rfl rfl rfl (fun w H => rNc F rfl) (H.sel [1] rfl rfl) (fun _ _ _ h => h) ?_;clear F a;intro a F
   refine eTakeF (k := 9) (i := 12) rfl (by kernel_rfl) F rfl rfl rfl (fun w => rFa (f := 0) (k := 0) Try.underlying59 rfl Try.sizeOf57 rfl rfl F rfl) (H.sel [1] rfl rfl) (fun _ _ _ h => h) ?_;clear F a;intro a F
   refine eOne (k := 10) (i := 4) rfl (by kernel_rfl) F rfl (oV F rfl rfl (rLd Try.isAgg29 F rfl (H.cell 0 rfl rfl)) ?_)
   clear F a; intro a F
   refine eKeep (H.sel [1] rfl rfl) ?_
   refine eOne (k := 11) (i := 5) rfl (by kernel_rfl) F rfl (oCallP Try.call71 F rfl rfl (ploc_any (s := s.next.next.next) hc (by (try simp only [PS.next]); omega) (by exact hnl) H) ?_)
   rintro e w hq9
   rcases hq9.cases with ⟨p9, e9, hn61, rfl, H⟩ | ⟨v61, t61, hr61, rfl, B61, D61, H⟩
   ·
    refine .inl ⟨_, rfl, ?_⟩
    exact And.intro F.nod (Ans.no (by unfold assignP; simp only [hr7, hr12, h15, h33, h51, hn61, Rs.bind, if_true, Bool.false_eq_true, if_false, reduceCtorEq]) H.tail.tail)
   obtain ⟨hn6, hp61⟩ := loc_six (s := s.next.next.next) hnl v61 t61 hr61; simp only [PS.next] at hp61
   refine .inr ⟨_, rfl, ?_⟩
   clear F a; intro a F
   refine eKeep (H.sel [1] rfl rfl) ?_
   refine eOne (k := 12) (i := 9) rfl (by kernel_rfl) F rfl (oCallP Try.call86 F rfl rfl (parg_any hc (by (try simp only [PS.next]); omega) H) ?_)
   rintro e w hq9
   rcases hq9.cases with ⟨p9, e9, hn65, rfl, H⟩ | ⟨v65, t65, hr65, rfl, H⟩
   ·
    refine .inl ⟨_, rfl, ?_⟩
    exact And.intro F.nod (Ans.no (by unfold assignP; simp only [hr7, hr12, h15, h33, h51, hr61, hn65, Rs.bind, if_true, Bool.false_eq_true, if_false, reduceCtorEq]) H.tail.tail.tail)
   obtain rfl := (argP_all v65 t65 hr65).2.1
   refine .inr ⟨_, rfl, ?_⟩
   clear F a; intro a F
   refine eKeep (H.sel [1] rfl rfl) ?_
   refine eOne (k := 13) (i := 13) rfl (by kernel_rfl) F rfl (oCallP Try.call86 F rfl rfl (parg_any hc (by (try simp only [PS.next]); omega) H) ?_)
   rintro e w hq9
   rcases hq9.cases with ⟨p9, e9, hn69, rfl, H⟩ | ⟨v69, t69, hr69, rfl, H⟩
   ·
    refine .inl ⟨_, rfl, ?_⟩
    exact And.intro F.nod (Ans.no (by unfold assignP; simp only [hr7, hr12, h15, h33, h51, hr61, hr65, hn69, Rs.bind, if_true, Bool.false_eq_true, if_false, reduceCtorEq]) H.tail.tail.tail)
   obtain rfl := (argP_all v69 t69 hr69).2.1
   refine .inr ⟨_, rfl, ?_⟩
   clear F a; intro a F
   refine ePartO (by kernel_rfl) H ?_
   refine eTakeF (k := 14) (i := 14) rfl (by kernel_rfl) F rfl rfl rfl (fun w => rFa (f := 0) (k := 0) Try.underlying42 rfl Try.sizeOf5 rfl rfl F rfl) H (fun _ _ _ h => h) ?_;clear F a;intro a F
   refine eOne (k := 15) (i := 15) rfl (by kernel_rfl) F rfl (oSt H 3 Try.sizeOf5 F rfl rfl rfl rfl rfl ?_)
   clear H; intro w H
   refine ePartO (by kernel_rfl) H ?_
   refine eTakeF (k := 16) (i := 16) rfl (by kernel_rfl) F rfl rfl rfl (fun w => rFa (f := 2) (k := 2) Try.underlying42 rfl Try.sizeOf5 rfl rfl F rfl) H (fun _ _ _ h => h) ?_;clear F a;intro a F
   refine eOne (k := 17) (i := 17) rfl (by kernel_rfl) F rfl (oSt H 3 Try.sizeOf5 F rfl rfl rfl rfl rfl ?_)
   clear H; intro w H
   refine ePartO (by kernel_rfl) H ?_
   refine eTakeF (k := 18) (i := 18) rfl (by kernel_rfl) F rfl rfl rfl (fun w => rFa (f := 3) (k := 3) Try.underlying42 rfl Try.sizeOf40 rfl rfl F rfl) H (fun _ _ _ h => h) ?_;clear F a;intro a F
   refine eOne (k := 19) (i := 19) rfl (by kernel_rfl) F rfl (oSr H 3 ?si F rfl rfl ?s1 rfl rfl ?_)
   case si => exact info_size Try.sizeOf40
   case s1 => first | rfl | (repeat (first | exact one_nil | (apply one_cons; · first | rfl | assumption | exact one_bif rfl rfl)))
   clear H; intro w H
   refine ePartO (by kernel_rfl) H ?_
   refine eTakeF (k := 20) (i := 20) rfl (by kernel_rfl) F rfl rfl rfl (fun w => rFa (f := 4) (k := 5) Try.underlying42 rfl Try.sizeOf40 rfl rfl F rfl) H (fun _ _ _ h => h) ?_;clear F a;intro a F
   refine eOne (k := 21) (i := 21) rfl (by kernel_rfl) F rfl (oSr H 3 ?si F rfl rfl ?s1 rfl rfl ?_)
   case si => exact info_size Try.sizeOf40
   case s1 => first | rfl | (repeat (first | exact one_nil | (apply one_cons; · first | rfl | assumption | exact one_bif rfl rfl)))
   clear H; intro w H
   refine ePartO (by kernel_rfl) H ?_
   refine eNil (k := 22) (by kernel_rfl) ?_
   refine hK4 _ _ ?_; clear hK4
   refine cSeq (fun K10 hK10 => ?_)
   refine cReg ?_
   refine sLr Try.underlying42 rfl ?si F rfl rfl rfl (H.whole 3 rfl) ?_
   case si => exact info_size Try.sizeOf42
   clear F a; intro a F
   refine sSr H 4 ?si F rfl rfl rfl ?s1 rfl rfl ?_
   case si => exact info_size Try.sizeOf42
   case s1 => first | rfl | (repeat (first | exact one_nil | (apply one_cons; · first | rfl | assumption | exact one_bif rfl rfl)))
   clear H; intro w H
   refine sNil ?_
   refine hK10 _ _ ?_; clear hK10
   refine wp_ret ?_
   refine bRetC Try.results76 F rfl Try.underlying42 rfl H 4 rfl Try.sizeOf42 rfl ?_
   first
   | exact Ans.ok (v := { zIns with op := 4, dst := v7, loc := v25, aR := v29.1, aN := v29.2 }) (by unfold assignP; simp only [hr7, hr12, h15, hr25, hr29, Rs.bind, if_true, Bool.false_eq_true, if_false, reduceCtorEq]) ⟨rfl, _, _, H.selT 5 [0, 1, 2] rfl rfl⟩
   | exact Ans.ok (v := { zIns with op := 5, dst := v7, loc := v43, aR := v47.1, aN := v47.2 }) (by unfold assignP; simp only [hr7, hr12, h15, h33, hr43, hr47, Rs.bind, if_true, Bool.false_eq_true, if_false, reduceCtorEq]) ⟨rfl, _, _, H.selT 5 [0, 1, 2] rfl rfl⟩
   | exact Ans.ok (v := { zIns with op := 6, dst := v7, loc := v61, aR := v65.1, aN := v65.2, bR := v69.1, bN := v69.2 }) (by unfold assignP; simp only [hr7, hr12, h15, h33, h51, hr61, hr65, hr69, Rs.bind, if_true, Bool.false_eq_true, if_false, reduceCtorEq]) ⟨rfl, _, _, H.selT 5 [0, 1, 2] rfl rfl⟩
   | exact Ans.ok (v := { zIns with op := 1, dst := v7, loc := v85, mode := 1 }) (by unfold assignP; simp only [hr7, hr12, h15, h33, h51, h74, hr85, h91, Rs.bind, if_true, Bool.false_eq_true, if_false, reduceCtorEq]) ⟨rfl, _, _, H.selT 5 [0, 1, 2] rfl rfl⟩
   | exact Ans.ok (v := { zIns with op := 1, dst := v7, loc := v85 }) (by unfold assignP; simp only [hr7, hr12, h15, h33, h51, h74, hr85, h91, Rs.bind, if_true, Bool.false_eq_true, if_false, reduceCtorEq]) ⟨rfl, _, _, H.selT 5 [0, 1, 2] rfl rfl⟩
   | exact Ans.ok (v := v14) (by unfold assignP; simp only [hr7, hr12, h15, h33, h51, h74, hr14, Rs.bind, if_true, Bool.false_eq_true, if_false, reduceCtorEq]) ⟨rfl, _, _, H.selT 5 [0, 1, 2] rfl rfl⟩
  rw [if_neg (by rw [h51]; exact Bool.false_ne_true)] at H
  refine cSeq (fun K11 hK11 => ?_)
  refine cReg ?_
  refine sMv F rfl rfl rfl ?_;clear F a;intro a F
  refine sNc F rfl rfl rfl ?_;clear F a;intro a F
  refine sFa (f := 0) (k := 0) Try.underlying59 rfl Try.sizeOf57 rfl rfl F rfl rfl rfl ?_;clear F a;intro a F
  refine sCall Try.call43 F rfl rfl rfl (pword_any hc (by (try simp only [PS.next]); omega) H) ?_
  rintro e w ⟨rfl, H⟩
  refine ⟨_, rfl, ?_⟩
  clear F a; intro a F
  refine sCall Try.call12 F rfl rfl rfl (name_any (c.word s.next.next.pos) _ (hc.wordLe _) _ rfl) ?_
  rintro e w ⟨rfl, rfl⟩
  refine ⟨_, rfl, ?_⟩
  clear F a; intro a F
  refine sAs F rfl rfl rfl ?_;clear F a;intro a F
  refine sNil ?_
  refine hK11 _ _ ?_; clear hK11
  refine cIf F rfl (fun h74 => ?_) (fun h74 => ?_)
  ·
   refine cSeq (fun K12 hK12 => ?_)
   refine cReg ?_
   refine sMv F rfl rfl rfl ?_;clear F a;intro a F
   refine sMv F rfl rfl rfl ?_;clear F a;intro a F
   refine sNc F rfl rfl rfl ?_;clear F a;intro a F
   refine sFa (f := 1) (k := 3) Try.underlying59 rfl Try.sizeOf29 rfl rfl F rfl rfl rfl ?_;clear F a;intro a F
   refine sLd Try.isAgg29 F rfl rfl rfl (H.cell 0 rfl rfl) ?_;clear F a;intro a F
   refine sCallP Try.call71 F rfl rfl rfl (ploc_any (s := s.next.next) hc (by (try simp only [PS.next]); omega) (by exact hnl) H) ?_
   rintro e w hq9
   rcases hq9.cases with ⟨p9, e9, hn85, rfl, H⟩ | ⟨v85, t85, hr85, rfl, B85, D85, H⟩
   ·
    refine .inl ⟨_, rfl, ?_⟩
    exact And.intro F.nod (Ans.no (by unfold assignP; simp only [hr7, hr12, h15, h33, h51, h74, hn85, Rs.bind, if_true, Bool.false_eq_true, if_false, reduceCtorEq]) H.tail.tail)
   obtain ⟨hn6, hp85⟩ := loc_six (s := s.next.next) hnl v85 t85 hr85; simp only [PS.next] at hp85
   refine .inr ⟨_, rfl, ?_⟩
   clear F a; intro a F
   refine sFa (f := 0) (k := 0) Try.underlying42 rfl Try.sizeOf5 rfl rfl F rfl rfl rfl ?_;clear F a;intro a F
   refine sSt H 3 Try.sizeOf5 F rfl rfl rfl rfl rfl rfl ?_
   clear H; intro w H
   refine sFa (f := 2) (k := 2) Try.underlying42 rfl Try.sizeOf5 rfl rfl F rfl rfl rfl ?_;clear F a;intro a F
   refine sSt H 3 Try.sizeOf5 F rfl rfl rfl rfl rfl rfl ?_
   clear H; intro w H
   refine sNil ?_
   refine hK12 _ _ ?_; clear hK12
   refine cSeq (fun K13 hK13 => ?_)
   refine cReg ?_
   refine sMv F rfl rfl rfl ?_;clear F a;intro a F
   refine sNc F rfl rfl rfl ?_;clear F a;intro a F
   refine sFa (f := 0) (k := 0) Try.underlying59 rfl Try.sizeOf57 rfl rfl F rfl rfl rfl ?_;clear F a;intro a F
   refine sCall Try.call78 F rfl rfl rfl (ptakes_any [97, 99, 113] hc (by (try simp only [PS.next]); omega) H) ?_
   rintro e w ⟨rfl, H⟩
   refine ⟨_, rfl, ?_⟩
   clear F a; intro a F
   refine sNil ?_
   refine hK13 _ _ ?_; clear hK13
   refine cIf F rfl (fun h91 => ?_) (fun h91 => ?_)
   ·
    rw [if_pos h91] at H
    refine cReg ?_
    refine sFa (f := 6) (k := 8) Try.underlying42 rfl Try.sizeOf5 rfl rfl F rfl rfl rfl ?_;clear F a;intro a F
    refine sSt H 3 Try.sizeOf5 F rfl rfl rfl rfl rfl rfl ?_
    clear H; intro w H
    refine sNil ?_
    refine hK4 _ _ ?_; clear hK4
    refine cSeq (fun K14 hK14 => ?_)
    refine cReg ?_
    refine sLr Try.underlying42 rfl ?si F rfl rfl rfl (H.whole 3 rfl) ?_
    case si => exact info_size Try.sizeOf42
    clear F a; intro a F
    refine sSr H 4 ?si F rfl rfl rfl ?s1 rfl rfl ?_
    case si => exact info_size Try.sizeOf42
    case s1 => first | rfl | (repeat (first | exact one_nil | (apply one_cons; · first | rfl | assumption | exact one_bif rfl rfl)))
    clear H; intro w H
    refine sNil ?_
    refine hK14 _ _ ?_; clear hK14
    refine wp_ret ?_
    refine bRetC Try.results76 F rfl Try.underlying42 rfl H 4 rfl Try.sizeOf42 rfl ?_
    first
    | exact Ans.ok (v := { zIns with op := 4, dst := v7, loc := v25, aR := v29.1, aN := v29.2 }) (by unfold assignP; simp only [hr7, hr12, h15, hr25, hr29, Rs.bind, if_true, Bool.false_eq_true, if_false, reduceCtorEq]) ⟨rfl, _, _, H.selT 5 [0, 1, 2] rfl rfl⟩
    | exact Ans.ok (v := { zIns with op := 5, dst := v7, loc := v43, aR := v47.1, aN := v47.2 }) (by unfold assignP; simp only [hr7, hr12, h15, h33, hr43, hr47, Rs.bind, if_true, Bool.false_eq_true, if_false, reduceCtorEq]) ⟨rfl, _, _, H.selT 5 [0, 1, 2] rfl rfl⟩
    | exact Ans.ok (v := { zIns with op := 6, dst := v7, loc := v61, aR := v65.1, aN := v65.2, bR := v69.1, bN := v69.2 }) (by unfold assignP; simp only [hr7, hr12, h15, h33, h51, hr61, hr65, hr69, Rs.bind, if_true, Bool.false_eq_true, if_false, reduceCtorEq]) ⟨rfl, _, _, H.selT 5 [0, 1, 2] rfl rfl⟩
    | exact Ans.ok (v := { zIns with op := 1, dst := v7, loc := v85, mode := 1 }) (by unfold assignP; simp only [hr7, hr12, h15, h33, h51, h74, hr85, h91, Rs.bind, if_true, Bool.false_eq_true, if_false, reduceCtorEq]) ⟨rfl, _, _, H.selT 5 [0, 1, 2] rfl rfl⟩
    | exact Ans.ok (v := { zIns with op := 1, dst := v7, loc := v85 }) (by unfold assignP; simp only [hr7, hr12, h15, h33, h51, h74, hr85, h91, Rs.bind, if_true, Bool.false_eq_true, if_false, reduceCtorEq]) ⟨rfl, _, _, H.selT 5 [0, 1, 2] rfl rfl⟩
    | exact Ans.ok (v := v14) (by unfold assignP; simp only [hr7, hr12, h15, h33, h51, h74, hr14, Rs.bind, if_true, Bool.false_eq_true, if_false, reduceCtorEq]) ⟨rfl, _, _, H.selT 5 [0, 1, 2] rfl rfl⟩
   rw [if_neg (by rw [h91]; exact Bool.false_ne_true)] at H
   refine wp_skip ?_
   refine hK4 _ _ ?_; clear hK4
   refine cSeq (fun K15 hK15 => ?_)
   refine cReg ?_
   refine sLr Try.underlying42 rfl ?si F rfl rfl rfl (H.whole 3 rfl) ?_
   case si => exact info_size Try.sizeOf42
   clear F a; intro a F
   refine sSr H 4 ?si F rfl rfl rfl ?s1 rfl rfl ?_
   case si => exact info_size Try.sizeOf42
   case s1 => first | rfl | (repeat (first | exact one_nil | (apply one_cons; · first | rfl | assumption | exact one_bif rfl rfl)))
   clear H; intro w H
   refine sNil ?_
   refine hK15 _ _ ?_; clear hK15
   refine wp_ret ?_
   refine bRetC Try.results76 F rfl Try.underlying42 rfl H 4 rfl Try.sizeOf42 rfl ?_
   first
   | exact Ans.ok (v := { zIns with op := 4, dst := v7, loc := v25, aR := v29.1, aN := v29.2 }) (by unfold assignP; simp only [hr7, hr12, h15, hr25, hr29, Rs.bind, if_true, Bool.false_eq_true, if_false, reduceCtorEq]) ⟨rfl, _, _, H.selT 5 [0, 1, 2] rfl rfl⟩
   | exact Ans.ok (v := { zIns with op := 5, dst := v7, loc := v43, aR := v47.1, aN := v47.2 }) (by unfold assignP; simp only [hr7, hr12, h15, h33, hr43, hr47, Rs.bind, if_true, Bool.false_eq_true, if_false, reduceCtorEq]) ⟨rfl, _, _, H.selT 5 [0, 1, 2] rfl rfl⟩
   | exact Ans.ok (v := { zIns with op := 6, dst := v7, loc := v61, aR := v65.1, aN := v65.2, bR := v69.1, bN := v69.2 }) (by unfold assignP; simp only [hr7, hr12, h15, h33, h51, hr61, hr65, hr69, Rs.bind, if_true, Bool.false_eq_true, if_false, reduceCtorEq]) ⟨rfl, _, _, H.selT 5 [0, 1, 2] rfl rfl⟩
   | exact Ans.ok (v := { zIns with op := 1, dst := v7, loc := v85, mode := 1 }) (by unfold assignP; simp only [hr7, hr12, h15, h33, h51, h74, hr85, h91, Rs.bind, if_true, Bool.false_eq_true, if_false, reduceCtorEq]) ⟨rfl, _, _, H.selT 5 [0, 1, 2] rfl rfl⟩
   | exact Ans.ok (v := { zIns with op := 1, dst := v7, loc := v85 }) (by unfold assignP; simp only [hr7, hr12, h15, h33, h51, h74, hr85, h91, Rs.bind, if_true, Bool.false_eq_true, if_false, reduceCtorEq]) ⟨rfl, _, _, H.selT 5 [0, 1, 2] rfl rfl⟩
   | exact Ans.ok (v := v14) (by unfold assignP; simp only [hr7, hr12, h15, h33, h51, h74, hr14, Rs.bind, if_true, Bool.false_eq_true, if_false, reduceCtorEq]) ⟨rfl, _, _, H.selT 5 [0, 1, 2] rfl rfl⟩
  refine cReg ?_
  refine sMv F rfl rfl rfl ?_;clear F a;intro a F
  refine sCallP Try.call87 F rfl rfl rfl (pmove_any v7 hc (by (try simp only [PS.next]); omega) (H.selT 5 [0, 1, 3, 2, 4] rfl rfl)) ?_
  rintro e w hq9
  rcases hq9.cases with ⟨p9, e9, hn14, rfl, H⟩ | ⟨v14, t14, hr14, rfl, H⟩
  ·
   refine .inl ⟨_, rfl, ?_⟩
   exact And.intro F.nod (Ans.no (by unfold assignP; simp only [hr7, hr12, h15, h33, h51, h74, hn14, Rs.bind, if_true, Bool.false_eq_true, if_false, reduceCtorEq]) H.tail.tail)
  rw [← show t14.names = s.names from move_names (s := s.next.next) v14 t14 hr14] at H
  refine .inr ⟨_, rfl, ?_⟩
  clear F a; intro a F
  refine sNil ?_
  refine hK4 _ _ ?_; clear hK4
  refine cSeq (fun K16 hK16 => ?_)
  refine cReg ?_
  refine sLr Try.underlying42 rfl ?si F rfl rfl rfl (H.whole 2 rfl) ?_
  case si => exact info_size Try.sizeOf42
  clear F a; intro a F
  refine sSr H 4 ?si F rfl rfl rfl ?s1 rfl rfl ?_
  case si => exact info_size Try.sizeOf42
  case s1 => first | rfl | (repeat (first | exact one_nil | (apply one_cons; · first | rfl | assumption | exact one_bif rfl rfl)))
  clear H; intro w H
  refine sNil ?_
  refine hK16 _ _ ?_; clear hK16
  refine wp_ret ?_
  refine bRetC Try.results76 F rfl Try.underlying42 rfl H 4 rfl Try.sizeOf42 rfl ?_
  first
  | exact Ans.ok (v := { zIns with op := 4, dst := v7, loc := v25, aR := v29.1, aN := v29.2 }) (by unfold assignP; simp only [hr7, hr12, h15, hr25, hr29, Rs.bind, if_true, Bool.false_eq_true, if_false, reduceCtorEq]) ⟨rfl, _, _, H.selT 5 [0, 1, 3] rfl rfl⟩
  | exact Ans.ok (v := { zIns with op := 5, dst := v7, loc := v43, aR := v47.1, aN := v47.2 }) (by unfold assignP; simp only [hr7, hr12, h15, h33, hr43, hr47, Rs.bind, if_true, Bool.false_eq_true, if_false, reduceCtorEq]) ⟨rfl, _, _, H.selT 5 [0, 1, 3] rfl rfl⟩
  | exact Ans.ok (v := { zIns with op := 6, dst := v7, loc := v61, aR := v65.1, aN := v65.2, bR := v69.1, bN := v69.2 }) (by unfold assignP; simp only [hr7, hr12, h15, h33, h51, hr61, hr65, hr69, Rs.bind, if_true, Bool.false_eq_true, if_false, reduceCtorEq]) ⟨rfl, _, _, H.selT 5 [0, 1, 3] rfl rfl⟩
  | exact Ans.ok (v := { zIns with op := 1, dst := v7, loc := v85, mode := 1 }) (by unfold assignP; simp only [hr7, hr12, h15, h33, h51, h74, hr85, h91, Rs.bind, if_true, Bool.false_eq_true, if_false, reduceCtorEq]) ⟨rfl, _, _, H.selT 5 [0, 1, 3] rfl rfl⟩
  | exact Ans.ok (v := { zIns with op := 1, dst := v7, loc := v85 }) (by unfold assignP; simp only [hr7, hr12, h15, h33, h51, h74, hr85, h91, Rs.bind, if_true, Bool.false_eq_true, if_false, reduceCtorEq]) ⟨rfl, _, _, H.selT 5 [0, 1, 3] rfl rfl⟩
  | exact Ans.ok (v := v14) (by unfold assignP; simp only [hr7, hr12, h15, h33, h51, h74, hr14, Rs.bind, if_true, Bool.false_eq_true, if_false, reduceCtorEq]) ⟨rfl, _, _, H.selT 5 [0, 1, 3] rfl rfl⟩
end Go.Proofs.Ytbdjlmdejlklkaa
