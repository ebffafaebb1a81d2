/-
  WALK2. seisinkit: SizeProg; the law's great. Conditions: the program lies in memory.
-/
import Derived.Test.YtmfdpnjgljlkbaaDoorPgC
import Derived.Test.YtmfdpnjgljlkbaaDoorKtF
set_option linter.unusedSimpArgs false
set_option linter.unusedVariables false
namespace Go.Proofs.YtmfdpnjgljlkbaaDoor
open Go.RowKit
set_option maxRecDepth 100000

section
variable {P : Program} {t : TypeId} {x y : Operand} {n m : Int}
theorem bAddW : BinR P .add t x y (.int .i64 n) (.int .i64 m) (.int .i64 (IntKind.i64.wrap (n + m))) := fun w => by
  have : (do eqGuard .add t x y (.int .i64 n) (.int .i64 m); binOp .add t (.int .i64 n) (.int .i64 m) : Sem Value).run P w = .ok (.int .i64 (IntKind.i64.wrap (n + m))) w := by simp [eqGuard, binOp, Op.intArith, go_sem]
  exact this
end
theorem wrapI {n : Int} (h1 : -9223372036854775808 ≤ n) (h2 : n ≤ 9223372036854775807) : IntKind.i64.wrap n = n := by
  simp [IntKind.wrap, IntKind.signed, IntKind.bits, IntKind.min, IntKind.max]
  omega
/-- A program of few locations, initial values, threads and instructions. -/
def Small (p : Prg) : Prop := p.locs.length ≤ 1000 ∧ p.init.length ≤ 1000 ∧ p.threads.length ≤ 1000 ∧ ∀ t ∈ p.threads, t.length ≤ 1000
set_option maxHeartbeats 4000000 in
theorem sizeProg_any (cs : List Value) (p : Prg) (LA : Option Addr) (LC : Nat) (IA : Option Addr) (IC : Nat) (TA : Option Addr) (TC h : Nat) (ccs : List Value) (most : Nat) (w0 : World) (hp : ProgCapIn w0 cs p LA LC IA IC TA TC h ccs) (hm : most ≤ 100000) :
    Calls Tryd.prog 38 #[.agg cs.toArray, .int .i64 (most : Int)] w0 fun e w' => ∃ r : Int, e = .returned (.int .i64 r) ∧ (Small p → r ≤ (most : Int) → sizeC p.cond ≤ most) ∧ Below w0.heap.size w0 w' := by
  obtain ⟨a1, a2, a3, a4, a5, a6, a7, rfl⟩ := condShape hp.cond.at
  have hcs := hp.prog.cs
  simp only [List.cons_append, List.nil_append] at hcs
  subst hcs
  have hl1 := hp.prog.locsN
  have hl2 := hp.prog.initN
  have hl3 := hp.prog.threadsN
  have H := Own.start w0 none
  refine enterF Tryd.func38 rfl Tryd.ntmps38 rfl (fun a F => ?_)
  refine cSeq (fun K1 hK1 => ?_)
  refine cReg ?_
  refine sBx H F rfl rfl rfl ?_
  clear F a H; intro b2 a w F H
  refine sAs F rfl rfl rfl ?_;clear F a;intro a F
  refine sNil ?_
  refine hK1 _ _ ?_; clear hK1
  refine cSeq (fun K2 hK2 => ?_)
  refine cReg ?_
  refine sFa (f := 1) (k := 1) Tryd.underlying37 rfl Tryd.sizeOf33 rfl rfl F rfl rfl rfl ?_;clear F a;intro a F
  refine sLd Tryd.isAgg33 F rfl rfl rfl (H.cell 0 rfl rfl) ?_;clear F a;intro a F
  refine sLen Tryd.underlying33 F rfl rfl rfl ?_;clear F a;intro a F
  refine sFa (f := 2) (k := 2) Tryd.underlying37 rfl Tryd.sizeOf34 rfl rfl F rfl rfl rfl ?_;clear F a;intro a F
  refine sLd Tryd.isAgg34 F rfl rfl rfl (H.cell 0 rfl rfl) ?_;clear F a;intro a F
  refine sLen Tryd.underlying34 F rfl rfl rfl ?_;clear F a;intro a F
  refine sBin F rfl rfl rfl rfl bAddW ?_;clear F a;intro a F
  refine sFa (f := 3) (k := 3) Tryd.underlying37 rfl Tryd.sizeOf35 rfl rfl F rfl rfl rfl ?_;clear F a;intro a F
  refine sLd Tryd.isAgg35 F rfl rfl rfl (H.cell 0 rfl rfl) ?_;clear F a;intro a F
  refine sLen Tryd.underlying35 F rfl rfl rfl ?_;clear F a;intro a F
  refine sBin F rfl rfl rfl rfl bAddW ?_;clear F a;intro a F
  refine sAs F rfl rfl rfl ?_;clear F a;intro a F
  refine sNil ?_
  refine hK2 _ _ ?_; clear hK2
  refine cSeq (fun K3 hK3 => ?_)
  refine cSeq (fun K4 hK4 => ?_)
  refine cReg ?_
  refine sAs F rfl rfl rfl ?_;clear F a;intro a F
  refine sNil ?_
  refine hK4 _ _ ?_; clear hK4
  refine wp_block ?_
  refine cLoopR [1, 2] (fun m ups w => ∃ (i : Nat) (n : Int), m = p.threads.length - i ∧ ups = [(5, .int .i64 n), (6, .int .i64 ((i : Nat) : Int))] ∧ i ≤ p.threads.length ∧ (Small p → 0 ≤ n ∧ n ≤ 3000 + 1000 * i) ∧ Own w0 none w [.blk b2 ([.string p.name, .slice LA p.locs.length LC, .slice IA p.init.length IC, .slice TA p.threads.length TC, b8 p.ask] ++ [Go.Proofs.YtmfdpnjgljlkbaaDoor.b8 a1, Go.Proofs.YtmfdpnjgljlkbaaDoor.b8 a2, Go.Proofs.YtmfdpnjgljlkbaaDoor.b8 a3, Go.Proofs.YtmfdpnjgljlkbaaDoor.b8 a4, .slice a5 a6 a7]) 37]) F (p.threads.length) [(5, .int .i64 (IntKind.i64.wrap (IntKind.i64.wrap (((p.locs.length : Nat) : Int) + ((p.init.length : Nat) : Int)) + ((p.threads.length : Nat) : Int)))), (6, .int .i64 ((0 : Nat) : Int))] (by repeat (first | exact SubR.nil | (apply SubR.cons; · rfl))) ?_ ?_ ?_
  · refine ⟨0, _, rfl, rfl, by omega, fun hs => ?_, H.sel [0] rfl rfl⟩
    obtain ⟨h1, h2, h3, _⟩ := hs
    rw [wrapI (n := ((p.locs.length : Nat) : Int) + ((p.init.length : Nat) : Int)) (by omega) (by omega), wrapI (by omega) (by omega)]
    omega
  · repeat (first | exact trivial | refine Le.cons rfl ?_)
  clear F
  clear H
  intro m ups a w hI F
  obtain ⟨i, n, rfl, rfl, hi, hn, H⟩ := hI
  refine cSeq (fun K5 hK5 => ?_)
  refine cSeq (fun K6 hK6 => ?_)
  refine cReg ?_
  refine sMv F rfl rfl rfl ?_;clear F a;intro a F
  refine sFa (f := 3) (k := 3) Tryd.underlying37 rfl Tryd.sizeOf35 rfl rfl F rfl rfl rfl ?_;clear F a;intro a F
  refine sLd Tryd.isAgg35 F rfl rfl rfl (H.cell 0 rfl rfl) ?_;clear F a;intro a F
  refine sLen Tryd.underlying35 F rfl rfl rfl ?_;clear F a;intro a F
  refine sBin F rfl rfl rfl rfl bLss ?_;clear F a;intro a F
  refine sMv F rfl rfl rfl ?_;clear F a;intro a F
  refine F.split 23 rfl ?_ ?_ <;> (clear F; intro h23 F)
  ·
   replace h23 := of_decide_eq_true h23
   refine sMv F rfl rfl rfl ?_;clear F a;intro a F
   refine sMv F rfl rfl rfl ?_;clear F a;intro a F
   refine sBin F rfl rfl rfl rfl bLeq ?_;clear F a;intro a F
   refine sPk F rfl rfl rfl rfl ?_;clear F a;intro a F
   refine sNil ?_
   refine hK6 _ _ ?_; clear hK6
   refine cIf F rfl (fun h27 => ?_) (fun h27 => ?_)
   ·
    replace h27 := of_decide_eq_true h27
    obtain ⟨t, ht⟩ : ∃ t, p.threads[i]? = some t := ⟨_, List.getElem?_eq_getElem (by omega)⟩
    obtain ⟨bT, oT, XT, XC, rfl, hTx, _, htl, htc⟩ := hp.threads i t ht
    refine wp_skip ?_
    refine hK5 _ _ ?_; clear hK5
    refine cSeq (fun K7 hK7 => ?_)
    refine wp_block ?_
    refine cReg ?_
    refine sMv F rfl rfl rfl ?_;clear F a;intro a F
    refine sFa (f := 3) (k := 3) Tryd.underlying37 rfl Tryd.sizeOf35 rfl rfl F rfl rfl rfl ?_;clear F a;intro a F
    refine sLd Tryd.isAgg35 F rfl rfl rfl (H.cell 0 rfl rfl) ?_;clear F a;intro a F
    refine sMv F rfl rfl rfl ?_;clear F a;intro a F
    refine sIx Tryd.underlying35 Tryd.sizeOf22 F rfl rfl rfl rfl ?_ ?_
    focus (first | omega | decide | (simp; omega))
    clear F a; intro a F
    refine sLd Tryd.isAgg22 F rfl rfl rfl (H.arg hTx) ?_;clear F a;intro a F
    refine sLen Tryd.underlying22 F rfl rfl rfl ?_;clear F a;intro a F
    refine sBin F rfl rfl rfl rfl bAddW ?_;clear F a;intro a F
    refine sAs F rfl rfl rfl ?_;clear F a;intro a F
    refine sNil ?_
    refine hK7 _ _ ?_; clear hK7
    refine cReg ?_
    refine sMv F rfl rfl rfl ?_;clear F a;intro a F
    refine sBin F rfl rfl rfl rfl (bAddN (j := 1) ?_) ?_
    focus omega
    clear F a; intro a F
    refine sAs F rfl rfl rfl ?_;clear F a;intro a F
    refine sNil ?_
    (refine ⟨_, by omega, _, ⟨i + 1, _, rfl, rfl, by omega, fun hs => ?_, H.sel [0] rfl rfl⟩, F.to (by repeat (first | exact trivial | refine Le.cons rfl ?_))⟩
     obtain ⟨hn1, hn2⟩ := hn hs
     have ht1 := hs.2.2.2 t (List.mem_of_getElem? ht)
     rw [wrapI (by omega) (by omega)]
     omega)
   replace h27 := of_decide_eq_false h27
   refine wp_exit ?_
   refine hK3 _ _ ?_; clear hK3
   refine cSeq (fun K8 hK8 => ?_)
   refine cReg ?_
   refine sMv F rfl rfl rfl ?_;clear F a;intro a F
   refine sFa (f := 5) (k := 5) Tryd.underlying37 rfl Tryd.sizeOf25 rfl rfl F rfl rfl rfl ?_;clear F a;intro a F
   refine sLr Tryd.underlying25 rfl ?si F rfl rfl rfl (H.range 0 rfl _ 5) ?_
   case si => exact info_size Tryd.sizeOf25
   clear F a; intro a F
   refine sMv F rfl rfl rfl ?_;clear F a;intro a F
   refine sBin F rfl rfl rfl rfl (bAddI ?_) ?_
   focus omega
   clear F a; intro a F
   refine sCall Tryd.call7 F rfl rfl rfl (sizeCond_any h (most + 1) _ p.cond _ (hp.cond.own H) (by omega) (by omega)) ?_
   rintro e w ⟨n43, rfl, hn1, hn2, hb⟩
   replace H := H.grow hb; clear hb
   refine ⟨_, rfl, ?_⟩
   clear F a; intro a F
   refine sBin F rfl rfl rfl rfl bAddW ?_;clear F a;intro a F
   refine sAs F rfl rfl rfl ?_;clear F a;intro a F
   refine sNil ?_
   refine hK8 _ _ ?_; clear hK8
   refine wp_ret ?_
   refine bRet Tryd.results38 F rfl ?_
   refine ⟨_, rfl, fun hs hr => ?_, H.below⟩
   obtain ⟨hk1, hk2⟩ := hn hs
   have ht3 := hs.2.2.1
   rw [wrapI (by omega) (by omega)] at hr
   rw [hn2 (by omega)]
   omega
  replace h23 := of_decide_eq_false h23
  refine sSk F rfl rfl ?_;clear F a;intro a F
  refine sSk F rfl rfl ?_;clear F a;intro a F
  refine sSk F rfl rfl ?_;clear F a;intro a F
  refine sPk F rfl rfl rfl rfl ?_;clear F a;intro a F
  refine sNil ?_
  refine hK6 _ _ ?_; clear hK6
  refine cIfF F rfl ?_
  refine wp_exit ?_
  refine hK3 _ _ ?_; clear hK3
  refine cSeq (fun K9 hK9 => ?_)
  refine cReg ?_
  refine sMv F rfl rfl rfl ?_;clear F a;intro a F
  refine sFa (f := 5) (k := 5) Tryd.underlying37 rfl Tryd.sizeOf25 rfl rfl F rfl rfl rfl ?_;clear F a;intro a F
  refine sLr Tryd.underlying25 rfl ?si F rfl rfl rfl (H.range 0 rfl _ 5) ?_
  case si => exact info_size Tryd.sizeOf25
  clear F a; intro a F
  refine sMv F rfl rfl rfl ?_;clear F a;intro a F
  refine sBin F rfl rfl rfl rfl (bAddI ?_) ?_
  focus omega
  clear F a; intro a F
  refine sCall Tryd.call7 F rfl rfl rfl (sizeCond_any h (most + 1) _ p.cond _ (hp.cond.own H) (by omega) (by omega)) ?_
  rintro e w ⟨n43, rfl, hn1, hn2, hb⟩
  replace H := H.grow hb; clear hb
  refine ⟨_, rfl, ?_⟩
  clear F a; intro a F
  refine sBin F rfl rfl rfl rfl bAddW ?_;clear F a;intro a F
  refine sAs F rfl rfl rfl ?_;clear F a;intro a F
  refine sNil ?_
  refine hK9 _ _ ?_; clear hK9
  refine wp_ret ?_
  refine bRet Tryd.results38 F rfl ?_
  refine ⟨_, rfl, fun hs hr => ?_, H.below⟩
  obtain ⟨hk1, hk2⟩ := hn hs
  have ht3 := hs.2.2.1
  rw [wrapI (by omega) (by omega)] at hr
  rw [hn2 (by omega)]
  omega
set_option maxHeartbeats 4000000 in
theorem great_any (cs : List Value) (p : Prg) (LA : Option Addr) (LC : Nat) (IA : Option Addr) (IC : Nat) (TA : Option Addr) (TC h : Nat) (ccs : List Value) (w0 : World) (hp : ProgCapIn w0 cs p LA LC IA IC TA TC h ccs) :
    Calls Tryd.prog 15 #[.agg cs.toArray] w0 fun e w' => ∃ g : Bool, e = .returned (.bool g) ∧ (g = false → Small p → sizeC p.cond ≤ 400) ∧ Below w0.heap.size w0 w' := by
  obtain ⟨a1, a2, a3, a4, a5, a6, a7, rfl⟩ := condShape hp.cond.at
  have hcs := hp.prog.cs
  simp only [List.cons_append, List.nil_append] at hcs
  subst hcs
  have hl1 := hp.prog.locsN
  have H := Own.start w0 none
  refine enterF Tryd.func15 rfl Tryd.ntmps15 rfl (fun a F => ?_)
  refine cSeq (fun K1 hK1 => ?_)
  refine cReg ?_
  refine sBx H F rfl rfl rfl ?_
  clear F a H; intro b1 a w F H
  refine sAs F rfl rfl rfl ?_;clear F a;intro a F
  refine sNil ?_
  refine hK1 _ _ ?_; clear hK1
  refine cSeq (fun K2 hK2 => ?_)
  refine cSeq (fun K3 hK3 => ?_)
  refine cReg ?_
  refine sLr Tryd.underlying37 rfl ?si F rfl rfl rfl (H.whole 0 rfl) ?_
  case si => exact info_size Tryd.sizeOf37
  clear F a; intro a F
  refine sCall Tryd.call38 F rfl rfl rfl (sizeProg_any _ p LA LC IA IC TA TC h _ 400 _ (hp.own H) (by omega)) ?_
  rintro e w ⟨r6, rfl, hr6, hb⟩
  replace H := H.grow hb; clear hb
  refine ⟨_, rfl, ?_⟩
  clear F a; intro a F
  refine sBin F rfl rfl rfl rfl bGtr ?_;clear F a;intro a F
  refine sNil ?_
  refine hK3 _ _ ?_; clear hK3
  refine cIf F rfl (fun h7 => ?_) (fun h7 => ?_)
  ·
   replace h7 := of_decide_eq_true h7
   refine cSeq (fun K4 hK4 => ?_)
   refine cReg ?_
   refine sAs F rfl rfl rfl ?_;clear F a;intro a F
   refine sNil ?_
   refine hK4 _ _ ?_; clear hK4
   refine wp_ret ?_
   simp only [Exit.then]
   refine bRet Tryd.results15 F rfl ?_
   first | exact ⟨true, rfl, fun h => (by cases h), H.below⟩ | exact ⟨_, rfl, fun _ hs => hr6 hs (by omega), H.below⟩
  replace h7 := of_decide_eq_false h7
  refine wp_skip ?_
  refine hK2 _ _ ?_; clear hK2
  refine cSeq (fun K5 hK5 => ?_)
  refine cReg ?_
  refine sFa (f := 0) (k := 0) Tryd.underlying37 rfl Tryd.sizeOf9 rfl rfl F rfl rfl rfl ?_;clear F a;intro a F
  refine sLd Tryd.isAgg9 F rfl rfl rfl (H.cell 0 rfl rfl) ?_;clear F a;intro a F
  refine sLenS Tryd.underlying9 F rfl rfl rfl ?_;clear F a;intro a F
  refine sAs F rfl rfl rfl ?_;clear F a;intro a F
  refine sNil ?_
  refine hK5 _ _ ?_; clear hK5
  refine cSeq (fun K6 hK6 => ?_)
  refine cSeq (fun K7 hK7 => ?_)
  refine cReg ?_
  refine sAs F rfl rfl rfl ?_;clear F a;intro a F
  refine sNil ?_
  refine hK7 _ _ ?_; clear hK7
  refine wp_block ?_
  refine cLoopR [1] (fun m ups w => ∃ (i : Nat) (n : Int), m = p.locs.length - i ∧ ups = [(3, .int .i64 n), (4, .int .i64 ((i : Nat) : Int))] ∧ i ≤ p.locs.length ∧ Own w0 none w [.blk b1 ([.string p.name, .slice LA p.locs.length LC, .slice IA p.init.length IC, .slice TA p.threads.length TC, b8 p.ask] ++ [Go.Proofs.YtmfdpnjgljlkbaaDoor.b8 a1, Go.Proofs.YtmfdpnjgljlkbaaDoor.b8 a2, Go.Proofs.YtmfdpnjgljlkbaaDoor.b8 a3, Go.Proofs.YtmfdpnjgljlkbaaDoor.b8 a4, .slice a5 a6 a7]) 37]) F (p.locs.length) [(3, .int .i64 ((p.name.size : Nat) : Int)), (4, .int .i64 ((0 : Nat) : Int))] (by repeat (first | exact SubR.nil | (apply SubR.cons; · rfl))) ?_ ?_ ?_
  · exact ⟨0, _, rfl, rfl, by omega, H.sel [0] rfl rfl⟩
  · repeat (first | exact trivial | refine Le.cons rfl ?_)
  clear F
  clear H
  intro m ups a w hI F
  obtain ⟨i, n, rfl, rfl, hi, H⟩ := hI
  refine cSeq (fun K8 hK8 => ?_)
  refine cSeq (fun K9 hK9 => ?_)
  refine cReg ?_
  refine sMv F rfl rfl rfl ?_;clear F a;intro a F
  refine sFa (f := 1) (k := 1) Tryd.underlying37 rfl Tryd.sizeOf33 rfl rfl F rfl rfl rfl ?_;clear F a;intro a F
  refine sLd Tryd.isAgg33 F rfl rfl rfl (H.cell 0 rfl rfl) ?_;clear F a;intro a F
  refine sLen Tryd.underlying33 F rfl rfl rfl ?_;clear F a;intro a F
  refine sBin F rfl rfl rfl rfl bLss ?_;clear F a;intro a F
  refine sMv F rfl rfl rfl ?_;clear F a;intro a F
  refine F.split 16 rfl ?_ ?_ <;> (clear F; intro h16 F)
  ·
   replace h16 := of_decide_eq_true h16
   refine sMv F rfl rfl rfl ?_;clear F a;intro a F
   refine sBin F rfl rfl rfl rfl bLeq ?_;clear F a;intro a F
   refine sPk F rfl rfl rfl rfl ?_;clear F a;intro a F
   refine sNil ?_
   refine hK9 _ _ ?_; clear hK9
   refine cIf F rfl (fun h19 => ?_) (fun h19 => ?_)
   ·
    replace h19 := of_decide_eq_true h19
    obtain ⟨s, hs⟩ : ∃ s, p.locs[i]? = some s := ⟨_, List.getElem?_eq_getElem (by omega)⟩
    obtain ⟨bL, oL, rfl, hLx⟩ := mapAt hp.prog.locs hs
    refine wp_skip ?_
    refine hK8 _ _ ?_; clear hK8
    refine cSeq (fun K10 hK10 => ?_)
    refine wp_block ?_
    refine cReg ?_
    refine sMv F rfl rfl rfl ?_;clear F a;intro a F
    refine sFa (f := 1) (k := 1) Tryd.underlying37 rfl Tryd.sizeOf33 rfl rfl F rfl rfl rfl ?_;clear F a;intro a F
    refine sLd Tryd.isAgg33 F rfl rfl rfl (H.cell 0 rfl rfl) ?_;clear F a;intro a F
    refine sMv F rfl rfl rfl ?_;clear F a;intro a F
    refine sIx Tryd.underlying33 Tryd.sizeOf9 F rfl rfl rfl rfl ?_ ?_
    focus (first | omega | decide | (simp; omega))
    clear F a; intro a F
    refine sLd Tryd.isAgg9 F rfl rfl rfl (H.arg (hLx 0 _ rfl)) ?_;clear F a;intro a F
    refine sLenS Tryd.underlying9 F rfl rfl rfl ?_;clear F a;intro a F
    refine sBin F rfl rfl rfl rfl bAddW ?_;clear F a;intro a F
    refine sAs F rfl rfl rfl ?_;clear F a;intro a F
    refine sNil ?_
    refine hK10 _ _ ?_; clear hK10
    refine cReg ?_
    refine sMv F rfl rfl rfl ?_;clear F a;intro a F
    refine sBin F rfl rfl rfl rfl (bAddN (j := 1) ?_) ?_
    focus omega
    clear F a; intro a F
    refine sAs F rfl rfl rfl ?_;clear F a;intro a F
    refine sNil ?_
    exact ⟨_, by omega, _, ⟨i + 1, _, rfl, rfl, by omega, H.sel [0] rfl rfl⟩, F.to (by repeat (first | exact trivial | refine Le.cons rfl ?_))⟩
   replace h19 := of_decide_eq_false h19
   refine wp_exit ?_
   refine hK6 _ _ ?_; clear hK6
   refine cSeq (fun K11 hK11 => ?_)
   refine cReg ?_
   refine sMv F rfl rfl rfl ?_;clear F a;intro a F
   refine sBin F rfl rfl rfl rfl bGtr ?_;clear F a;intro a F
   refine sAs F rfl rfl rfl ?_;clear F a;intro a F
   refine sNil ?_
   refine hK11 _ _ ?_; clear hK11
   refine wp_ret ?_
   refine bRet Tryd.results15 F rfl ?_
   first | exact ⟨true, rfl, fun h => (by cases h), H.below⟩ | exact ⟨_, rfl, fun _ hs => hr6 hs (by omega), H.below⟩
  replace h16 := of_decide_eq_false h16
  refine sSk F rfl rfl ?_;clear F a;intro a F
  refine sSk F rfl rfl ?_;clear F a;intro a F
  refine sPk F rfl rfl rfl rfl ?_;clear F a;intro a F
  refine sNil ?_
  refine hK9 _ _ ?_; clear hK9
  refine cIfF F rfl ?_
  refine wp_exit ?_
  refine hK6 _ _ ?_; clear hK6
  refine cSeq (fun K12 hK12 => ?_)
  refine cReg ?_
  refine sMv F rfl rfl rfl ?_;clear F a;intro a F
  refine sBin F rfl rfl rfl rfl bGtr ?_;clear F a;intro a F
  refine sAs F rfl rfl rfl ?_;clear F a;intro a F
  refine sNil ?_
  refine hK12 _ _ ?_; clear hK12
  refine wp_ret ?_
  refine bRet Tryd.results15 F rfl ?_
  first | exact ⟨true, rfl, fun h => (by cases h), H.below⟩ | exact ⟨_, rfl, fun _ hs => hr6 hs (by omega), H.below⟩
end Go.Proofs.YtmfdpnjgljlkbaaDoor
