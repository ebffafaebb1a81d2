/-
  WALK2. The law of chapter 07: CheckBack answers true where the program is not valid or the numbers are no permutations. Conditions: what it is handed lies in memory; block 0 holds the table of needs.
-/
import Derived.Test.YtfcidfljidkcaaaDoorTuG
import Derived.Test.YtfcidfljidkcaaaDoorLfB
set_option linter.unusedSimpArgs false
set_option linter.unusedVariables false
namespace Go.Proofs.YtfcidfljidkcaaaDoor
open Go.RowKit
set_option maxRecDepth 100000
theorem small_of {p : Prg} (h0 : rightErr p = 0) : Small p := by
  have V := valid h0
  refine ⟨by have := V.locs6; omega, by have := V.locs6; have := V.init; omega, by have := V.thr4; omega, fun t ht => ?_⟩
  obtain ⟨j, hj⟩ := List.mem_iff_getElem?.1 ht
  have := V.long j t hj
  omega
def BackOk (p : Prg) (T L : List Int) : Prop := rightErr p = 0 ∧ IsPerm p.threads.length T ∧ IsPerm p.locs.length L
theorem turn_no (cs : List Value) (p : Prg) (LA : Option Addr) (LC : Nat) (IA : Option Addr) (IC : Nat) (TA : Option Addr) (TC h : Nat) (ccs : List Value) (A : Option Addr) (C : Nat) (T : List Int) (B : Option Addr) (D : Nat) (L : List Int) (w0 : World)
    (hp : ProgIn w0 cs p LA LC IA IC TA TC h ccs) (hN : NeedsAt w0) (hs : rightErr p = 0 → Slim h p.cond) (hA : RowsAt w0 A 1 (intsZ T)) (hB : RowsAt w0 B 1 (intsZ L)) (hTl : T.length ≤ 9223372036854775807) (hLl : L.length ≤ 9223372036854775807) (hno : ¬ BackOk p T L) :
    Calls Tryd.prog 6 #[.agg cs.toArray, .slice A T.length C, .slice B L.length D] w0 fun e w' => ∃ er : Int, e = .returned (.tuple #[.agg zeroPr.toArray, .int .i64 er]) ∧ er ≠ 0 ∧ Below w0.heap.size w0 w' := by
  refine (Turn_any cs p LA LC IA IC TA TC h ccs A C T B D L _ _ w0 hp hN hs hA hB rfl rfl hTl hLl).mono ?_
  rintro e w' (⟨h1, h2, h3⟩ | ⟨_, _, h2, h3⟩ | ⟨h1, h2, h3, _⟩)
  · exact ⟨_, h2, h1, h3⟩
  · exact ⟨_, h2, by decide, h3⟩
  · exact absurd ⟨h1, h2, h3⟩ hno
set_option maxHeartbeats 4000000 in
theorem back_no (cs : List Value) (p : Prg) (LA : Option Addr) (LC : Nat) (IA : Option Addr) (IC : Nat) (TA : Option Addr) (TC h : Nat) (ccs : List Value) (f : By) (A : Option Addr) (C : Nat) (T : List Int) (B : Option Addr) (D : Nat) (L : List Int) (w0 : World)
    (hp : ProgCapIn w0 cs p LA LC IA IC TA TC h ccs) (hN : NeedsAt w0) (hA : RowsAt w0 A 1 (intsZ T)) (hB : RowsAt w0 B 1 (intsZ L)) (hTl : T.length ≤ 9223372036854775807) (hLl : L.length ≤ 9223372036854775807) (hno : ¬ BackOk p T L) :
    Calls Tryd.prog 3 #[.agg cs.toArray, .agg (bs 38 f).toArray, .slice A T.length C, .slice B L.length D] w0 fun e w' => e = .returned (.bool true) ∧ Below w0.heap.size w0 w' := by
  obtain ⟨a1, a2, a3, a4, a5, a6, a7, rfl⟩ := condShape hp.cond.at
  have hcs := hp.prog.cs
  simp only [List.cons_append, List.nil_append] at hcs
  subst hcs
  have H := Own.start w0 none
  refine enterF Tryd.func3 rfl Tryd.ntmps3 rfl (fun a F => ?_)
  refine cSeq (fun K1 hK1 => ?_)
  refine cReg ?_
  refine sBx H F rfl rfl rfl ?_
  clear F a H; intro b4 a w F H
  refine sBxB H F rfl rfl rfl ?_
  clear F a H; intro b5 a w F H
  refine sAs F rfl rfl rfl ?_;clear F a;intro a F
  refine sNil ?_
  refine hK1 _ _ ?_; clear hK1
  refine cSeq (fun K2 hK2 => ?_)
  refine cSeq (fun K3 hK3 => ?_)
  refine cReg ?_
  refine sCall Tryd.call4 F rfl rfl rfl (awake7_any _ (hN.own H)) ?_
  rintro e w ⟨rfl, hb⟩
  replace H := H.grow hb; clear hb
  refine ⟨_, rfl, ?_⟩
  clear F a; intro a F
  refine sNot F rfl rfl rfl ?_;clear F a;intro a F
  refine sNil ?_
  refine hK3 _ _ ?_; clear hK3
  refine cIf F rfl (fun h19 => ?_) (fun h19 => ?_)
  ·
   replace h19 := notT h19
   exact absurd h19 (by decide)
  replace h19 := notF h19
  refine wp_skip ?_
  refine hK2 _ _ ?_; clear hK2
  refine cSeq (fun K4 hK4 => ?_)
  refine cSeq (fun K5 hK5 => ?_)
  refine cReg ?_
  refine sLr Tryd.underlying29 rfl ?si F rfl rfl rfl (H.whole 1 rfl) ?_
  case si => exact info_size Tryd.sizeOf29
  clear F a; intro a F
  refine sCall Tryd.call5 F rfl rfl rfl (great_any _ p LA LC IA IC TA TC h _ _ (hp.own H)) ?_
  rintro e w ⟨g21, rfl, hg21, hb⟩
  replace H := H.grow hb; clear hb
  refine ⟨_, rfl, ?_⟩
  clear F a; intro a F
  refine sMv F rfl rfl rfl ?_;clear F a;intro a F
  refine F.split 22 rfl ?_ ?_ <;> (clear F; intro h22 F)
  ·
   refine sSk F rfl rfl ?_;clear F a;intro a F
   refine sSk F rfl rfl ?_;clear F a;intro a F
   refine sSk F rfl rfl ?_;clear F a;intro a F
   refine sPk F rfl rfl rfl rfl ?_;clear F a;intro a F
   refine sMv F rfl rfl rfl ?_;clear F a;intro a F
   refine sSk F rfl rfl ?_;clear F a;intro a F
   refine sSk F rfl rfl ?_;clear F a;intro a F
   refine sSk F rfl rfl ?_;clear F a;intro a F
   refine sPk F rfl rfl rfl rfl ?_;clear F a;intro a F
   refine sNil ?_
   refine hK5 _ _ ?_; clear hK5
   refine cIfT F rfl ?_
   refine cSeq (fun K6 hK6 => ?_)
   refine cReg ?_
   refine sAs F rfl rfl rfl ?_;clear F a;intro a F
   refine sNil ?_
   refine hK6 _ _ ?_; clear hK6
   refine wp_ret ?_
   simp only [Exit.then]
   refine bRet Tryd.results3 F rfl ?_
   exact ⟨rfl, H.below⟩
  refine sMv F rfl rfl rfl ?_;clear F a;intro a F
  refine sLen Tryd.underlying35 F rfl rfl rfl ?_;clear F a;intro a F
  refine sBin F rfl rfl rfl rfl bGtr ?_;clear F a;intro a F
  refine sPk F rfl rfl rfl rfl ?_;clear F a;intro a F
  refine sMv F rfl rfl rfl ?_;clear F a;intro a F
  refine F.split 27 rfl ?_ ?_ <;> (clear F; intro h27 F)
  ·
   replace h27 := of_decide_eq_true h27
   refine sSk F rfl rfl ?_;clear F a;intro a F
   refine sSk F rfl rfl ?_;clear F a;intro a F
   refine sSk F rfl rfl ?_;clear F a;intro a F
   refine sPk F rfl rfl rfl rfl ?_;clear F a;intro a F
   refine sNil ?_
   refine hK5 _ _ ?_; clear hK5
   refine cIfT F rfl ?_
   refine cSeq (fun K7 hK7 => ?_)
   refine cReg ?_
   refine sAs F rfl rfl rfl ?_;clear F a;intro a F
   refine sNil ?_
   refine hK7 _ _ ?_; clear hK7
   refine wp_ret ?_
   simp only [Exit.then]
   refine bRet Tryd.results3 F rfl ?_
   exact ⟨rfl, H.below⟩
  replace h27 := of_decide_eq_false h27
  refine sMv F rfl rfl rfl ?_;clear F a;intro a F
  refine sLen Tryd.underlying35 F rfl rfl rfl ?_;clear F a;intro a F
  refine sBin F rfl rfl rfl rfl bGtr ?_;clear F a;intro a F
  refine sPk F rfl rfl rfl rfl ?_;clear F a;intro a F
  refine sNil ?_
  refine hK5 _ _ ?_; clear hK5
  refine cIf F rfl (fun h31 => ?_) (fun h31 => ?_)
  ·
   replace h31 := of_decide_eq_true h31
   refine cSeq (fun K8 hK8 => ?_)
   refine cReg ?_
   refine sAs F rfl rfl rfl ?_;clear F a;intro a F
   refine sNil ?_
   refine hK8 _ _ ?_; clear hK8
   refine wp_ret ?_
   simp only [Exit.then]
   refine bRet Tryd.results3 F rfl ?_
   exact ⟨rfl, H.below⟩
  replace h31 := of_decide_eq_false h31
  refine wp_skip ?_
  refine hK4 _ _ ?_; clear hK4
  refine cSeq (fun K9 hK9 => ?_)
  refine cReg ?_
  refine sLr Tryd.underlying29 rfl ?si F rfl rfl rfl (H.whole 1 rfl) ?_
  case si => exact info_size Tryd.sizeOf29
  clear F a; intro a F
  refine sMv F rfl rfl rfl ?_;clear F a;intro a F
  refine sMv F rfl rfl rfl ?_;clear F a;intro a F
  refine sCall Tryd.call6 F rfl rfl rfl (turn_no _ p LA LC IA IC TA TC h _ A C T B D L _ (hp.prog.own H) (hN.own H) (fun h0 => slimT_of hp.cond.at (hg21 h22 (small_of h0)) (by omega)) (hA.own H) (hB.own H) hTl hLl hno) ?_
  rintro e w ⟨er36, rfl, hne36, hb⟩
  replace H := H.grow hb; clear hb
  refine ⟨_, rfl, ?_⟩
  clear F a; intro a F
  refine sMv F rfl rfl rfl ?_;clear F a;intro a F
  refine sExt F rfl rfl rfl rfl ?_;clear F a;intro a F
  refine sExt F rfl rfl rfl rfl ?_;clear F a;intro a F
  refine sAl H Tryd.zeroValue29 F rfl rfl ?_
  clear F a H; intro b9 a w F H
  refine sSr H 0 ?si F rfl rfl rfl ?s1 rfl rfl ?_
  case si => exact info_size Tryd.sizeOf29
  case s1 => first | rfl | (repeat (first | exact one_nil | (apply one_cons; · first | rfl | assumption | exact one_bif rfl rfl)))
  clear H; intro w H
  refine sAs F rfl rfl rfl ?_;clear F a;intro a F
  refine sNil ?_
  refine hK9 _ _ ?_; clear hK9
  refine cSeq (fun K10 hK10 => ?_)
  refine cReg ?_
  refine sLrB Tryd.underlying34 rfl Tryd.sizeOf34 F rfl rfl rfl (H.whole 1 rfl) ?_;clear F a;intro a F
  refine sMv F rfl rfl rfl ?_;clear F a;intro a F
  refine sMv F rfl rfl rfl ?_;clear F a;intro a F
  refine sCall Tryd.call7 F rfl rfl rfl (finalT_any f A C T B D L _ _ _ (hA.own H) (hB.own H) rfl rfl hTl hLl) ?_
  rintro e w ⟨g43, er43, rfl, _, hb⟩
  replace H := H.grow hb; clear hb
  refine ⟨_, rfl, ?_⟩
  clear F a; intro a F
  refine sMv F rfl rfl rfl ?_;clear F a;intro a F
  refine sExt F rfl rfl rfl rfl ?_;clear F a;intro a F
  refine sExt F rfl rfl rfl rfl ?_;clear F a;intro a F
  refine sAlB H zB34 F rfl rfl ?_
  clear F a H; intro b11 a w F H
  refine sSrB H 0 Tryd.sizeOf34 F rfl rfl rfl rfl (by omega) ?_
  clear H; intro w H
  rw [lay_all] at H
  refine sAs F rfl rfl rfl ?_;clear F a;intro a F
  refine sNil ?_
  refine hK10 _ _ ?_; clear hK10
  refine cSeq (fun K11 hK11 => ?_)
  refine cSeq (fun K12 hK12 => ?_)
  refine cReg ?_
  refine sMv F rfl rfl rfl ?_;clear F a;intro a F
  refine sBin F rfl rfl rfl rfl bNeq ?_;clear F a;intro a F
  refine sNil ?_
  refine hK12 _ _ ?_; clear hK12
  refine cIf F rfl (fun h47 => ?_) (fun h47 => ?_)
  ·
   replace h47 := bneT h47
   refine cSeq (fun K13 hK13 => ?_)
   refine cReg ?_
   refine sAs F rfl rfl rfl ?_;clear F a;intro a F
   refine sNil ?_
   refine hK13 _ _ ?_; clear hK13
   refine wp_ret ?_
   simp only [Exit.then]
   refine bRet Tryd.results3 F rfl ?_
   exact ⟨rfl, H.below⟩
  replace h47 := bneF h47
  exact absurd h47 hne36
end Go.Proofs.YtfcidfljidkcaaaDoor
