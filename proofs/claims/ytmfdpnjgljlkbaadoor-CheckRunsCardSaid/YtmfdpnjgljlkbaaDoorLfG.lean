/-
  WALK2. The law of chapter 07: CheckRuns answers true. Conditions: what it is handed lies in memory; the condition's rows are not too long; block 0 holds the table of needs.
-/
import Derived.Test.YtmfdpnjgljlkbaaDoorLfE
import Derived.Test.YtmfdpnjgljlkbaaDoorLfF
import Derived.Test.YtmfdpnjgljlkbaaDoorOpD
set_option linter.unusedSimpArgs false
set_option linter.unusedVariables false
namespace Go.Proofs.YtmfdpnjgljlkbaaDoor
open Go.RowKit
set_option maxRecDepth 100000

section
variable {P : Program} {l : List Oper} {Q : Exit → Act → World → Prop} {N : Nat} {a : Act} {env : List (Nat × Value)} {rest : List Oper} {d : Tmp} {ty : TypeId} {pos : String} {af : Array Edge} {g : Option (Nat × Bool)} {w : World}
/-- string(bytes). -/
theorem sCvS {s t e : TypeId} {x : Operand} {A : Option Addr} {c : Nat} {xs : List UInt8} (hs : P.underlying s = some (.slice e)) (he : P.underlying e = some (.int .u8)) (ht : P.underlying t = some .string) (F : Has N a env) (hg : wants l env g = true) (hN : Nat.blt d N = true)
    (hx : ev env x = some (.slice A xs.length c)) (h0 : 0 < xs.length) (hc : RowsAt w A 1 (xs.map b1))
    (K : ∀ a, Has N a ((d, .string ⟨xs.toArray⟩) :: env) → wpList P l.toArray Q rest a w) : wpList P l.toArray Q (⟨some d, .convert s t x, ty, pos, af, g⟩ :: rest) a w := by
  obtain ⟨b, o, rfl, _⟩ := mapAt hc (List.getElem?_eq_getElem h0)
  have h := run_convert_bytes_back (P := P) w s t e ⟨b, o, none⟩ c xs hs he ht (fun j hj => by
    obtain ⟨b', o', he, hv⟩ := mapAt hc (List.getElem?_eq_getElem hj)
    cases he
    have := hv 0 _ rfl
    rw [Nat.mul_one, Nat.add_zero] at this
    rw [Addr.add_mid]
    exact this)
  exact stepV F hg rfl hN (show (execOp a.eval ⟨some d, .convert s t x, ty, pos, af, g⟩).run P w = .ok (.value (.string ⟨xs.toArray⟩)) w by
    simp only [execOp, F.eval hx, Sem.run_bind, h, Result.andThen_ok]
    rfl) K
end
theorem runP_pos (l : List Ins) (s : By) (loads : List UInt8) : 0 < (runP l s loads).length := by rw [runP, List.length_append, List.length_map, List.length_range]; omega
set_option maxHeartbeats 4000000 in
theorem checkRuns_err (cs : List Value) (p : Prg) (LA : Option Addr) (LC : Nat) (IA : Option Addr) (IC : Nat) (TA : Option Addr) (TC h : Nat) (ccs : List Value) (s : By) (BA : Option Addr) (BC : Nat) (loads : List UInt8) (w0 : World) (hp : ProgCapIn w0 cs p LA LC IA IC TA TC h ccs) (hN : NeedsAt w0) (hL : RowsAt w0 BA 1 (loads.map b1)) (hll : loads.length ≤ 9223372036854775807) (hsl : Slim h p.cond) (h0 : rightErr p ≠ 0) :
    Calls Tryd.prog 5 #[.agg cs.toArray, .agg (bs 8 s).toArray, .slice BA loads.length BC] w0 fun e w' => e = .returned (.bool true) ∧ Below w0.heap.size w0 w' := by
  have hP : ProgAt w0 cs p := ⟨_, _, _, _, _, _, _, _, hp.prog⟩
  obtain ⟨a1, a2, a3, a4, a5, a6, a7, rfl⟩ := condShape hp.cond.at
  have hcs := hp.prog.cs
  simp only [List.cons_append, List.nil_append] at hcs
  subst hcs
  have H := Own.start w0 none
  refine enterF Tryd.func5 rfl Tryd.ntmps5 rfl (fun a F => ?_)
  refine cSeq (fun K1 hK1 => ?_)
  refine cReg ?_
  refine sBx H F rfl rfl rfl ?_
  clear F a H; intro b3 a w F H
  refine sBxB H F rfl rfl rfl ?_
  clear F a H; intro b4 a w F H
  refine sAs F rfl rfl rfl ?_;clear F a;intro a F
  refine sNil ?_
  refine hK1 _ _ ?_; clear hK1
  refine cSeq (fun K2 hK2 => ?_)
  refine cSeq (fun K3 hK3 => ?_)
  refine cReg ?_
  refine sCall Tryd.call8 F rfl rfl rfl (awake7_any _ (hN.own H)) ?_
  rintro e w ⟨rfl, hb⟩
  replace H := H.grow hb; clear hb
  refine ⟨_, rfl, ?_⟩
  clear F a; intro a F
  refine sNot F rfl rfl rfl ?_;clear F a;intro a F
  refine sNil ?_
  refine hK3 _ _ ?_; clear hK3
  refine cIf F rfl (fun h13 => ?_) (fun h13 => ?_)
  ·
   replace h13 := notT h13
   exact absurd h13 (by decide)
  replace h13 := notF h13
  refine wp_skip ?_
  refine hK2 _ _ ?_; clear hK2
  refine cSeq (fun K4 hK4 => ?_)
  refine cReg ?_
  refine sLr Tryd.underlying37 rfl ?si F rfl rfl rfl (H.whole 1 rfl) ?_
  case si => exact info_size Tryd.sizeOf37
  clear F a; intro a F
  refine sCall Tryd.call16 F rfl rfl rfl (Fold_any _ p LA LC IA IC TA TC h _ _ (hp.prog.own H) (hN.own H) (fun h => absurd h h0) (fun h => absurd h h0) (fun h => absurd h h0)) ?_
  rintro e w h17
  rcases h17 with ⟨_, rfl, hb⟩ | ⟨h17, _⟩
  case inr => exact absurd h17 h0
  replace H := H.grow hb; clear hb
  refine ⟨_, rfl, ?_⟩
  clear F a; intro a F
  refine sMv F rfl rfl rfl ?_;clear F a;intro a F
  refine sExt F rfl rfl rfl rfl ?_;clear F a;intro a F
  refine sExt F rfl rfl rfl rfl ?_;clear F a;intro a F
  refine sAl H Tryd.zeroValue37 F rfl rfl ?_
  clear F a H; intro b7 a w F H
  refine sSr H 0 ?si F rfl rfl rfl ?s1 rfl rfl ?_
  case si => exact info_size Tryd.sizeOf37
  case s1 => first | rfl | (repeat (first | exact one_nil | (apply one_cons; · first | rfl | assumption | exact one_bif rfl rfl)))
  clear H; intro w H
  refine sAs F rfl rfl rfl ?_;clear F a;intro a F
  refine sNil ?_
  refine hK4 _ _ ?_; clear hK4
  refine cSeq (fun K5 hK5 => ?_)
  refine cSeq (fun K6 hK6 => ?_)
  refine cReg ?_
  refine sLr Tryd.underlying37 rfl ?si F rfl rfl rfl (H.whole 2 rfl) ?_
  case si => exact info_size Tryd.sizeOf37
  clear F a; intro a F
  refine sCall Tryd.call15 F rfl rfl rfl (great_any _ p LA LC IA IC TA TC h _ _ (hp.own H)) ?_
  rintro e w ⟨g14, rfl, hg14, hb⟩
  replace H := H.grow hb; clear hb
  refine ⟨_, rfl, ?_⟩
  clear F a; intro a F
  refine sMv F rfl rfl rfl ?_;clear F a;intro a F
  refine F.split 21 rfl ?_ ?_ <;> (clear F; intro h21 F)
  ·
   refine sSk F rfl rfl ?_;clear F a;intro a F
   refine sSk F rfl rfl ?_;clear F a;intro a F
   refine sPk F rfl rfl rfl rfl ?_;clear F a;intro a F
   refine sNil ?_
   refine hK6 _ _ ?_; clear hK6
   refine cIfT F rfl ?_
   refine cSeq (fun K7 hK7 => ?_)
   refine cReg ?_
   refine sAs F rfl rfl rfl ?_;clear F a;intro a F
   refine sNil ?_
   refine hK7 _ _ ?_; clear hK7
   refine wp_ret ?_
   simp only [Exit.then]
   refine bRet Tryd.results5 F rfl ?_
   exact ⟨rfl, H.below⟩
  refine sMv F rfl rfl rfl ?_;clear F a;intro a F
  refine sBin F rfl rfl rfl rfl bNeq ?_;clear F a;intro a F
  refine sPk F rfl rfl rfl rfl ?_;clear F a;intro a F
  refine sNil ?_
  refine hK6 _ _ ?_; clear hK6
  refine cIf F rfl (fun h24 => ?_) (fun h24 => ?_)
  ·
   replace h24 := bneT h24
   refine cSeq (fun K8 hK8 => ?_)
   refine cReg ?_
   refine sAs F rfl rfl rfl ?_;clear F a;intro a F
   refine sNil ?_
   refine hK8 _ _ ?_; clear hK8
   refine wp_ret ?_
   simp only [Exit.then]
   refine bRet Tryd.results5 F rfl ?_
   exact ⟨rfl, H.below⟩
  replace h24 := bneF h24
  exact absurd h24 h0
set_option maxHeartbeats 16000000 in
theorem checkRuns_ok (cs : List Value) (p : Prg) (LA : Option Addr) (LC : Nat) (IA : Option Addr) (IC : Nat) (TA : Option Addr) (TC h : Nat) (ccs : List Value) (s : By) (BA : Option Addr) (BC : Nat) (loads : List UInt8) (w0 : World) (hp : ProgCapIn w0 cs p LA LC IA IC TA TC h ccs) (hN : NeedsAt w0) (hL : RowsAt w0 BA 1 (loads.map b1)) (hll : loads.length ≤ 9223372036854775807) (hsl : Slim h p.cond) (h0 : rightErr p = 0) :
    Calls Tryd.prog 5 #[.agg cs.toArray, .agg (bs 8 s).toArray, .slice BA loads.length BC] w0 fun e w' => e = .returned (.bool true) ∧ Below w0.heap.size w0 w' := by
  have V := valid h0
  have hf := foldPre_of h0
  have hV1 := V.thr1
  have hV4 := V.thr4
  obtain ⟨l0, hl0⟩ : ∃ l, p.threads[0]? = some l := ⟨_, List.getElem?_eq_getElem (by omega)⟩
  obtain ⟨bT, oT, _, _, rfl, _⟩ := hp.threads 0 l0 hl0
  have hP : ProgAt w0 cs p := ⟨_, _, _, _, _, _, _, _, hp.prog⟩
  obtain ⟨a1, a2, a3, a4, a5, a6, a7, rfl⟩ := condShape hp.cond.at
  have hcs := hp.prog.cs
  simp only [List.cons_append, List.nil_append] at hcs
  subst hcs
  have H := Own.start w0 none
  refine enterF Tryd.func5 rfl Tryd.ntmps5 rfl (fun a F => ?_)
  refine cSeq (fun K1 hK1 => ?_)
  refine cReg ?_
  refine sBx H F rfl rfl rfl ?_
  clear F a H; intro b3 a w F H
  refine sBxB H F rfl rfl rfl ?_
  clear F a H; intro b4 a w F H
  refine sAs F rfl rfl rfl ?_;clear F a;intro a F
  refine sNil ?_
  refine hK1 _ _ ?_; clear hK1
  refine cSeq (fun K2 hK2 => ?_)
  refine cSeq (fun K3 hK3 => ?_)
  refine cReg ?_
  refine sCall Tryd.call8 F rfl rfl rfl (awake7_any _ (hN.own H)) ?_
  rintro e w ⟨rfl, hb⟩
  replace H := H.grow hb; clear hb
  refine ⟨_, rfl, ?_⟩
  clear F a; intro a F
  refine sNot F rfl rfl rfl ?_;clear F a;intro a F
  refine sNil ?_
  refine hK3 _ _ ?_; clear hK3
  refine cIf F rfl (fun h13 => ?_) (fun h13 => ?_)
  ·
   replace h13 := notT h13
   exact absurd h13 (by decide)
  replace h13 := notF h13
  refine wp_skip ?_
  refine hK2 _ _ ?_; clear hK2
  refine cSeq (fun K4 hK4 => ?_)
  refine cReg ?_
  refine sLr Tryd.underlying37 rfl ?si F rfl rfl rfl (H.whole 1 rfl) ?_
  case si => exact info_size Tryd.sizeOf37
  clear F a; intro a F
  refine sCall Tryd.call16 F rfl rfl rfl (Fold_any _ p LA LC IA IC _ TC h _ _ (hp.prog.own H) (hN.own H) (fun _ => hsl) (fun _ => by have := V.locs6; omega) (fun _ => hf)) ?_
  rintro e w h17
  rcases h17 with ⟨h17, _⟩ | ⟨_, v17, rfl, h17⟩
  case inl => exact absurd h0 h17
  obtain ⟨LA2, LC2, S1, IA2, IC2, S2, TA2, TC2, rows, S3, ccs2, S4, rfl, hLC2, hrl, hr1, H2⟩ := h17
  obtain ⟨d1, d2, d3, d4, A6, m6, C6, rfl⟩ := condShape (H2.pred 0 _ rfl : TreeIn S4 _ h ccs2 p.cond).at
  obtain ⟨r00, hr00⟩ : ∃ r, rows[0]? = some r := ⟨_, List.getElem?_eq_getElem (by omega)⟩
  obtain ⟨bQ, oQ, rfl, _⟩ := H2.rowsAt 1 rfl hr1 (by decide) 0 _ hr00
  replace H := H.join H2; clear H2
  refine ⟨_, rfl, ?_⟩
  clear F a; intro a F
  refine sMv F rfl rfl rfl ?_;clear F a;intro a F
  refine sExt F rfl rfl rfl rfl ?_;clear F a;intro a F
  refine sExt F rfl rfl rfl rfl ?_;clear F a;intro a F
  refine sAl H Tryd.zeroValue37 F rfl rfl ?_
  clear F a H; intro b7 a w F H
  refine sSr H 0 ?si F rfl rfl rfl ?s1 rfl rfl ?_
  case si => exact info_size Tryd.sizeOf37
  case s1 => first | rfl | (repeat (first | exact one_nil | (apply one_cons; · first | rfl | assumption | exact one_bif rfl rfl)))
  clear H; intro w H
  refine sAs F rfl rfl rfl ?_;clear F a;intro a F
  refine sNil ?_
  refine hK4 _ _ ?_; clear hK4
  refine cSeq (fun K5 hK5 => ?_)
  refine cSeq (fun K6 hK6 => ?_)
  refine cReg ?_
  refine sLr Tryd.underlying37 rfl ?si F rfl rfl rfl (H.whole 7 rfl) ?_
  case si => exact info_size Tryd.sizeOf37
  clear F a; intro a F
  refine sCall Tryd.call15 F rfl rfl rfl (great_any _ p LA LC IA IC _ TC h _ _ (hp.own H)) ?_
  rintro e w ⟨g14, rfl, hg14, hb⟩
  replace H := H.grow hb; clear hb
  refine ⟨_, rfl, ?_⟩
  clear F a; intro a F
  refine sMv F rfl rfl rfl ?_;clear F a;intro a F
  refine F.split 21 rfl ?_ ?_ <;> (clear F; intro h21 F)
  ·
   refine sSk F rfl rfl ?_;clear F a;intro a F
   refine sSk F rfl rfl ?_;clear F a;intro a F
   refine sPk F rfl rfl rfl rfl ?_;clear F a;intro a F
   refine sNil ?_
   refine hK6 _ _ ?_; clear hK6
   refine cIfT F rfl ?_
   refine cSeq (fun K7 hK7 => ?_)
   refine cReg ?_
   refine sAs F rfl rfl rfl ?_;clear F a;intro a F
   refine sNil ?_
   refine hK7 _ _ ?_; clear hK7
   refine wp_ret ?_
   simp only [Exit.then]
   refine bRet Tryd.results5 F rfl ?_
   exact ⟨rfl, H.below⟩
  refine sMv F rfl rfl rfl ?_;clear F a;intro a F
  refine sBin F rfl rfl rfl rfl bNeq ?_;clear F a;intro a F
  refine sPk F rfl rfl rfl rfl ?_;clear F a;intro a F
  refine sNil ?_
  refine hK6 _ _ ?_; clear hK6
  refine cIf F rfl (fun h24 => ?_) (fun h24 => ?_)
  ·
   replace h24 := bneT h24
   refine cSeq (fun K8 hK8 => ?_)
   refine cReg ?_
   refine sAs F rfl rfl rfl ?_;clear F a;intro a F
   refine sNil ?_
   refine hK8 _ _ ?_; clear hK8
   refine wp_ret ?_
   simp only [Exit.then]
   refine bRet Tryd.results5 F rfl ?_
   exact ⟨rfl, H.below⟩
  replace h24 := bneF h24
  refine wp_skip ?_
  refine hK5 _ _ ?_; clear hK5
  refine cSeq (fun K9 hK9 => ?_)
  refine cSeq (fun K10 hK10 => ?_)
  refine cReg ?_
  refine sAs F rfl rfl rfl ?_;clear F a;intro a F
  refine sNil ?_
  refine hK10 _ _ ?_; clear hK10
  refine wp_block ?_
  refine cLoopR [2, 3, 4, 7] (fun m ups w => ∃ t : Nat, m = p.threads.length - t ∧ ups = [(9, .int .i64 ((t : Nat) : Int))] ∧ t ≤ p.threads.length ∧ Own w0 none w [.rws 22 1 (.slice (some ⟨bQ, oQ, none⟩) p.threads.length TC2) rows, .grove S3 rows (p.threads.map foldP), .blk b7 ([.string p.name, .slice LA2 p.locs.length LC2, .slice IA2 p.init.length IC2, .slice (some ⟨bQ, oQ, none⟩) p.threads.length TC2, Go.Proofs.YtmfdpnjgljlkbaaDoor.b8 p.ask] ++ [Go.Proofs.YtmfdpnjgljlkbaaDoor.b8 d1, Go.Proofs.YtmfdpnjgljlkbaaDoor.b8 d2, Go.Proofs.YtmfdpnjgljlkbaaDoor.b8 d3, Go.Proofs.YtmfdpnjgljlkbaaDoor.b8 d4, .slice A6 m6 C6]) 37, .blk b4 (bs 8 s) 52, .blk b3 ([.string p.name, .slice LA p.locs.length LC, .slice IA p.init.length IC, .slice (some ⟨bT, oT, none⟩) p.threads.length TC, Go.Proofs.YtmfdpnjgljlkbaaDoor.b8 p.ask] ++ [Go.Proofs.YtmfdpnjgljlkbaaDoor.b8 a1, Go.Proofs.YtmfdpnjgljlkbaaDoor.b8 a2, Go.Proofs.YtmfdpnjgljlkbaaDoor.b8 a3, Go.Proofs.YtmfdpnjgljlkbaaDoor.b8 a4, .slice a5 a6 a7]) 37]) F (p.threads.length) [(9, .int .i64 ((0 : Nat) : Int))] (by repeat (first | exact SubR.nil | (apply SubR.cons; · rfl))) ?_ ?_ ?_
  · exact ⟨0, rfl, rfl, by omega, H.sel [2, 3, 0, 6, 7] rfl rfl⟩
  · repeat (first | exact trivial | refine Le.cons rfl ?_)
  clear F
  clear H
  intro m ups a w hI F
  obtain ⟨t, rfl, rfl, ht, H⟩ := hI
  refine cSeq (fun K11 hK11 => ?_)
  refine cSeq (fun K12 hK12 => ?_)
  refine cReg ?_
  refine sMv F rfl rfl rfl ?_;clear F a;intro a F
  refine sFa (f := 3) (k := 3) Tryd.underlying37 rfl Tryd.sizeOf35 rfl rfl F rfl rfl rfl ?_;clear F a;intro a F
  refine sLd Tryd.isAgg35 F rfl rfl rfl (H.cell 4 rfl rfl) ?_;clear F a;intro a F
  refine sLen Tryd.underlying35 F rfl rfl rfl ?_;clear F a;intro a F
  refine sBin F rfl rfl rfl rfl bLss ?_;clear F a;intro a F
  refine sNil ?_
  refine hK12 _ _ ?_; clear hK12
  refine cIf F rfl (fun h29 => ?_) (fun h29 => ?_)
  ·
   replace h29 := of_decide_eq_true h29
   obtain ⟨l, hl⟩ : ∃ l, p.threads[t]? = some l := ⟨_, List.getElem?_eq_getElem (by omega)⟩
   obtain ⟨_, _, XT, XC, he, hTx, hTr, htl, htc⟩ := hp.threads t l hl
   cases he
   obtain ⟨r, hr⟩ : ∃ r, rows[t]? = some r := ⟨_, List.getElem?_eq_getElem (by omega)⟩
   have hlq : (p.threads.map foldP)[t]? = some (foldP l) := by rw [List.getElem?_map, hl]; rfl
   obtain ⟨B, C, rfl, _⟩ := (H.pred 1 _ rfl : groveP S3 _ rows (p.threads.map foldP)) t r _ hr hlq
   have hrow : ∀ w, Own w0 none w [.rws 22 1 (.slice (some ⟨bQ, oQ, none⟩) p.threads.length TC2) rows, .grove S3 rows (p.threads.map foldP), .blk b7 ([.string p.name, .slice LA2 p.locs.length LC2, .slice IA2 p.init.length IC2, .slice (some ⟨bQ, oQ, none⟩) p.threads.length TC2, Go.Proofs.YtmfdpnjgljlkbaaDoor.b8 p.ask] ++ [Go.Proofs.YtmfdpnjgljlkbaaDoor.b8 d1, Go.Proofs.YtmfdpnjgljlkbaaDoor.b8 d2, Go.Proofs.YtmfdpnjgljlkbaaDoor.b8 d3, Go.Proofs.YtmfdpnjgljlkbaaDoor.b8 d4, .slice A6 m6 C6]) 37, .blk b4 (bs 8 s) 52, .blk b3 ([.string p.name, .slice LA p.locs.length LC, .slice IA p.init.length IC, .slice (some ⟨bT, oT, none⟩) p.threads.length TC, Go.Proofs.YtmfdpnjgljlkbaaDoor.b8 p.ask] ++ [Go.Proofs.YtmfdpnjgljlkbaaDoor.b8 a1, Go.Proofs.YtmfdpnjgljlkbaaDoor.b8 a2, Go.Proofs.YtmfdpnjgljlkbaaDoor.b8 a3, Go.Proofs.YtmfdpnjgljlkbaaDoor.b8 a4, .slice a5 a6 a7]) 37] → w.cell? ⟨bQ, oQ + t * 1, none⟩ = some (.slice B (foldP l).length C) := fun w H => by
    obtain ⟨b, o, he, hx⟩ := H.rowsAt 0 rfl hr1 (by decide) t _ hr
    cases he
    exact hx 0 _ rfl
   have hgr : ∀ w, Own w0 none w [.rws 22 1 (.slice (some ⟨bQ, oQ, none⟩) p.threads.length TC2) rows, .grove S3 rows (p.threads.map foldP), .blk b7 ([.string p.name, .slice LA2 p.locs.length LC2, .slice IA2 p.init.length IC2, .slice (some ⟨bQ, oQ, none⟩) p.threads.length TC2, Go.Proofs.YtmfdpnjgljlkbaaDoor.b8 p.ask] ++ [Go.Proofs.YtmfdpnjgljlkbaaDoor.b8 d1, Go.Proofs.YtmfdpnjgljlkbaaDoor.b8 d2, Go.Proofs.YtmfdpnjgljlkbaaDoor.b8 d3, Go.Proofs.YtmfdpnjgljlkbaaDoor.b8 d4, .slice A6 m6 C6]) 37, .blk b4 (bs 8 s) 52, .blk b3 ([.string p.name, .slice LA p.locs.length LC, .slice IA p.init.length IC, .slice (some ⟨bT, oT, none⟩) p.threads.length TC, Go.Proofs.YtmfdpnjgljlkbaaDoor.b8 p.ask] ++ [Go.Proofs.YtmfdpnjgljlkbaaDoor.b8 a1, Go.Proofs.YtmfdpnjgljlkbaaDoor.b8 a2, Go.Proofs.YtmfdpnjgljlkbaaDoor.b8 a3, Go.Proofs.YtmfdpnjgljlkbaaDoor.b8 a4, .slice a5 a6 a7]) 37] → RowsAt w B 10 ((foldP l).map Ins.cells) := fun w H i cs hi => by
    obtain ⟨B', C', he, hB⟩ := (H.pred 1 _ rfl : groveP S3 _ rows (p.threads.map foldP)) t _ _ hr hlq
    cases he
    obtain ⟨b, o, h1, _, h2⟩ := hB i cs hi
    exact ⟨b, o, h1, h2⟩
   obtain ⟨hl12, hvl⟩ := hf.2.2 l (List.mem_of_getElem? hl)
   have hlen : (foldP l).length ≤ l.length := outP_length _ _ _
   refine wp_skip ?_
   refine hK11 _ _ ?_; clear hK11
   refine cSeq (fun K13 hK13 => ?_)
   refine wp_block ?_
   refine cSeq (fun K14 hK14 => ?_)
   refine cRegRO (by kernel_rfl) H ?_
   replace H := H.drew
   refine eTakeF (k := 0) (i := 0) rfl (by kernel_rfl) F rfl rfl rfl (fun w => rFa (f := 3) (k := 3) Tryd.underlying37 rfl Tryd.sizeOf35 rfl rfl F rfl) H (fun _ _ _ h => h) ?_;clear F a;intro a F
   refine eTake (k := 1) (i := 1) rfl (by kernel_rfl) F rfl rfl rfl rfl (fun w H => rLd Tryd.isAgg35 F rfl (H.cell 4 rfl rfl)) H (fun _ _ _ h => h) ?_;clear F a;intro a F
   refine eTakeF (k := 2) (i := 2) rfl (by kernel_rfl) F rfl rfl rfl (fun w => rMv F rfl) H (fun _ _ _ h => h) ?_;clear F a;intro a F
   refine eTakeF (k := 3) (i := 3) rfl (by kernel_rfl) F rfl rfl rfl (fun w => rIx Tryd.underlying35 Tryd.sizeOf22 F rfl rfl ?_) H (fun _ _ _ h => h) ?_
   focus (first | omega | decide | (simp; omega))
   clear F a; intro a F
   refine eTake (k := 4) (i := 4) rfl (by kernel_rfl) F rfl rfl rfl rfl (fun w H => rLd Tryd.isAgg22 F rfl (H.arg hTx)) H (fun _ _ _ h => h) ?_;clear F a;intro a F
   refine eTake (k := 5) (i := 5) rfl (by kernel_rfl) F rfl rfl rfl rfl (fun w H => rLrB Tryd.underlying52 rfl Tryd.sizeOf52 F rfl (H.whole 3 rfl)) H (fun _ _ _ h => h) ?_;clear F a;intro a F
   refine eTakeF (k := 6) (i := 6) rfl (by kernel_rfl) F rfl rfl rfl (fun w => rMv F rfl) H (fun _ _ _ h => h) ?_;clear F a;intro a F
   refine eTakeF (k := 7) (i := 8) rfl (by kernel_rfl) F rfl rfl rfl (fun w => rFa (f := 3) (k := 3) Tryd.underlying37 rfl Tryd.sizeOf35 rfl rfl F rfl) H (fun _ _ _ h => h) ?_;clear F a;intro a F
   refine eTake (k := 8) (i := 9) rfl (by kernel_rfl) F rfl rfl rfl rfl (fun w H => rLd Tryd.isAgg35 F rfl (H.cell 2 rfl rfl)) H (fun _ _ _ h => h) ?_;clear F a;intro a F
   refine eTakeF (k := 9) (i := 10) rfl (by kernel_rfl) F rfl rfl rfl (fun w => rMv F rfl) H (fun _ _ _ h => h) ?_;clear F a;intro a F
   refine eTakeF (k := 10) (i := 11) rfl (by kernel_rfl) F rfl rfl rfl (fun w => rIx Tryd.underlying35 Tryd.sizeOf22 F rfl rfl ?_) H (fun _ _ _ h => h) ?_
   focus (first | omega | decide | (simp; omega))
   clear F a; intro a F
   refine eTake (k := 11) (i := 12) rfl (by kernel_rfl) F rfl rfl rfl rfl (fun w H => rLd Tryd.isAgg22 F rfl (hrow _ (H.sel [0, 1, 2, 3, 4] rfl rfl))) H (fun _ _ _ h => h) ?_;clear F a;intro a F
   refine eTake (k := 12) (i := 13) rfl (by kernel_rfl) F rfl rfl rfl rfl (fun w H => rLrB Tryd.underlying52 rfl Tryd.sizeOf52 F rfl (H.whole 3 rfl)) H (fun _ _ _ h => h) ?_;clear F a;intro a F
   refine eTakeF (k := 13) (i := 14) rfl (by kernel_rfl) F rfl rfl rfl (fun w => rMv F rfl) H (fun _ _ _ h => h) ?_;clear F a;intro a F
   refine eOne (k := 14) (i := 7) rfl (by kernel_rfl) F rfl (oCall Tryd.call23 F rfl rfl (run_any XT XC l s BA BC loads _ (hTr.own H) (by omega) (hL.own H) hll) ?_)
   rintro e w ⟨B39, c39, rfl, H2⟩
   replace H := H.join H2; clear H2
   refine ⟨_, rfl, ?_⟩
   clear F a; intro a F
   refine eKeep H.tail ?_
   refine eOne (k := 15) (i := 15) rfl (by kernel_rfl) F rfl (oCall Tryd.call23 F rfl rfl (run_any B C (foldP l) s BA BC loads _ (hgr _ (H.sel [1, 2, 3, 4, 5] rfl rfl)) (by omega) (hL.own H) hll) ?_)
   rintro e w ⟨B47, c47, rfl, H2⟩
   replace H := H.join H2; clear H2
   refine ⟨_, rfl, ?_⟩
   clear F a; intro a F
   refine ePartO (by kernel_rfl) H ?_
   refine eTakeF (k := 16) (i := 16) rfl (by kernel_rfl) F rfl rfl rfl (fun w => rAs F rfl) H (fun _ _ _ h => h) ?_;clear F a;intro a F
   refine eTakeF (k := 17) (i := 17) rfl (by kernel_rfl) F rfl rfl rfl (fun w => rAs F rfl) H (fun _ _ _ h => h) ?_;clear F a;intro a F
   refine eNil (k := 18) (by kernel_rfl) ?_
   refine hK14 _ _ ?_; clear hK14
   refine cSeq (fun K15 hK15 => ?_)
   refine cReg ?_
   refine sMv F rfl rfl rfl ?_;clear F a;intro a F
   refine sCvS Tryd.underlying34 Tryd.underlying5 Tryd.underlying9 F rfl rfl rfl ((runP_pos _ _ _)) ((H.rowsAt 1 rfl (by simp [b1]) (by decide))) ?_;clear F a;intro a F
   refine sMv F rfl rfl rfl ?_;clear F a;intro a F
   refine sCvS Tryd.underlying34 Tryd.underlying5 Tryd.underlying9 F rfl rfl rfl ((runP_pos _ _ _)) ((H.rowsAt 0 rfl (by simp [b1]) (by decide))) ?_;clear F a;intro a F
   refine sBin F rfl rfl rfl rfl bStrNe ?_;clear F a;intro a F
   refine sNil ?_
   refine hK15 _ _ ?_; clear hK15
   refine cIf F rfl (fun h52 => ?_) (fun h52 => ?_)
   ·
    replace h52 := nbeqT h52
    exact absurd (by rw [runP_fold hvl]) h52
   replace h52 := nbeqF h52
   refine wp_skip ?_
   refine hK13 _ _ ?_; clear hK13
   refine cReg ?_
   refine sMv F rfl rfl rfl ?_;clear F a;intro a F
   refine sBin F rfl rfl rfl rfl (bAddN (j := 1) ?_) ?_
   focus omega
   clear F a; intro a F
   refine sAs F rfl rfl rfl ?_;clear F a;intro a F
   refine sNil ?_
   exact ⟨_, by omega, _, ⟨t + 1, rfl, rfl, by omega, H.sel [2, 3, 4, 5, 6] rfl rfl⟩, F.to (by repeat (first | exact trivial | refine Le.cons rfl ?_))⟩
  replace h29 := of_decide_eq_false h29
  refine wp_exit ?_
  refine hK9 _ _ ?_; clear hK9
  refine cSeq (fun K16 hK16 => ?_)
  refine cReg ?_
  refine sAs F rfl rfl rfl ?_;clear F a;intro a F
  refine sNil ?_
  refine hK16 _ _ ?_; clear hK16
  refine wp_ret ?_
  refine bRet Tryd.results5 F rfl ?_
  exact ⟨rfl, H.below⟩
theorem slim_wide {n : Nat} (hn : n ≤ 4398046510976) : ∀ (h : Nat) (c : Cnd), wideC c ≤ n → Slim h c
  | 0, _, _ => trivial
  | h + 1, .mk _ _ _ _ kids, hw => by
    simp only [wideC, Nat.max_le] at hw
    exact ⟨by omega, fun kid hk => slim_wide hn h kid (wideL_le.1 hw.2 kid hk)⟩
theorem checkRuns_any (cs : List Value) (p : Prg) (s : By) (BA : Option Addr) (BC : Nat) (loads : List UInt8) (w0 : World) (hp : ProgCap w0 cs p) (hN : NeedsAt w0) (hL : RowsAt w0 BA 1 (loads.map b1)) (hll : loads.length ≤ 9223372036854775807) (hw : wideC p.cond ≤ 4398046510976) :
    Calls Tryd.prog 5 #[.agg cs.toArray, .agg (bs 8 s).toArray, .slice BA loads.length BC] w0 fun e w' => e = .returned (.bool true) ∧ Below w0.heap.size w0 w' := by
  obtain ⟨LA, LC, IA, IC, TA, TC, h, ccs, hp⟩ := hp
  have hsl := slim_wide (by omega) h p.cond hw
  by_cases h0 : rightErr p = 0
  · exact checkRuns_ok cs p LA LC IA IC TA TC h ccs s BA BC loads w0 hp hN hL hll hsl h0
  · exact checkRuns_err cs p LA LC IA IC TA TC h ccs s BA BC loads w0 hp hN hL hll hsl h0
end Go.Proofs.YtmfdpnjgljlkbaaDoor
