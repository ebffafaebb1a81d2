/-
  WALK2. Chapter 05: awake. Conditions: none.
-/
import Derived.Test.YtbdjlmdejlklkaaPzX
import Derived.Test.YtbdjlmdejlklkaaEqI
set_option linter.unusedSimpArgs false
set_option linter.unusedVariables false
namespace Go.Proofs.Ytbdjlmdejlklkaa
open Go.RowKit
set_option maxRecDepth 100000
def exS : ByteArray := ⟨#[116, 101, 115, 116, 32, 83, 66, 10, 105, 110, 105, 116, 32, 120, 32, 61, 32, 49, 10, 116, 104, 114, 101, 97, 100, 10, 120, 32, 61, 32, 49, 10, 114, 49, 32, 61, 32, 121, 32, 97, 99, 113, 10, 116, 104, 114, 101, 97, 100, 10, 121, 32, 61, 32, 50, 32, 114, 101, 108, 10, 115, 111, 109, 101, 32, 48, 58, 114, 49, 32, 61, 32, 48, 32, 38, 32, 33, 32, 120, 32, 61, 32, 49, 32, 124, 32, 116, 114, 117, 101, 10]⟩
def exT : ByteArray := ⟨#[116, 101, 115, 116, 32, 97, 10, 116, 104, 114, 101, 97, 100, 10, 115, 111, 109, 101]⟩
def exP : Prg := ⟨⟨#[83, 66]⟩, [⟨#[120]⟩, ⟨#[121]⟩], [1, 0], [[⟨2, 0, 0, false, 1, false, 0, 0, 0, 0⟩, ⟨1, 1, 1, false, 0, false, 0, 0, 1, 0⟩], [⟨2, 0, 1, false, 2, false, 0, 0, 2, 0⟩]], 1, .mk 4 0 0 0 [.mk 3 0 0 0 [.mk 1 0 1 0 [], .mk 5 0 0 0 [.mk 2 0 0 1 []]], .mk 0 0 0 0 []]⟩
theorem exS_p : parseT exS = .inr exP := by kernel_rfl
theorem exT_p : parseT exT = .inl (18, 50) := by kernel_rfl
set_option maxHeartbeats 4000000 in
theorem awake5_any (w0 : World) : Calls Try.prog 8 #[] w0 fun e w' => e = .returned (.bool true) ∧ Below w0.heap.size w0 w' := by
  have H := Own.start w0 none
  refine enterF Try.func8 rfl Try.ntmps8 rfl (fun a F => ?_)
  refine cSeq (fun K1 hK1 => ?_)
  refine cReg ?_
  refine sAs F rfl rfl rfl ?_;clear F a;intro a F
  refine sNil ?_
  refine hK1 _ _ ?_; clear hK1
  refine cSeq (fun K2 hK2 => ?_)
  refine cReg ?_
  refine sCall Try.call11 F rfl rfl rfl (pparse2_any exS (by decide) H) ?_
  rintro e w ⟨p1, pl1, er1, ⟨LA, LC, IA, IC, TA, TC, CA, CC, hr, S1, h1⟩, rfl, hh1, H, hp1⟩
  obtain ⟨rfl, rfl, rfl⟩ := pparse_in hp1 exS_p
  obtain ⟨lb, lo, rfl⟩ := (H.prw 0 rfl).locs.addr (j := 1) rfl
  obtain ⟨ib, io, rfl⟩ := (H.prw 0 rfl).init.addr (j := 1) rfl
  obtain ⟨A0, C0, hA0⟩ := (H.prw 0 rfl).thr.hd (j := 0) rfl
  obtain ⟨A1, C1, hA1⟩ := (H.prw 0 rfl).thr.hd (j := 1) rfl
  obtain ⟨tb, to, rfl⟩ := (H.prw 0 rfl).hdr.addr hA0
  obtain ⟨t0b, t0o, rfl⟩ := ((H.prw 0 rfl).thr.rows (j := 0) rfl hA0).addr (j := 1) rfl
  obtain ⟨t1b, t1o, rfl⟩ := ((H.prw 0 rfl).thr.rows (j := 1) rfl hA1).addr (j := 0) rfl
  obtain ⟨kb, ko, _, _, rfl, _⟩ := tree_kid (H.prw 0 rfl).cond (j := 0) rfl
  refine ⟨_, rfl, ?_⟩
  clear F a; intro a F
  refine sMv F rfl rfl rfl ?_;clear F a;intro a F
  refine sExt F rfl rfl rfl rfl ?_;clear F a;intro a F
  refine sExt F rfl rfl rfl rfl ?_;clear F a;intro a F
  refine sExt F rfl rfl rfl rfl ?_;clear F a;intro a F
  refine sAl H Try.zeroValue33 F rfl rfl ?_
  clear F a H; intro b1 a w F H
  refine sSr H 0 ?si F rfl rfl rfl ?s1 rfl rfl ?_
  case si => exact info_size Try.sizeOf33
  case s1 => first | rfl | (repeat (first | exact one_nil | (apply one_cons; · first | rfl | assumption | exact one_bif rfl rfl)))
  clear H; intro w H
  refine sAs F rfl rfl rfl ?_;clear F a;intro a F
  refine sAs F rfl rfl rfl ?_;clear F a;intro a F
  refine sNil ?_
  refine hK2 _ _ ?_; clear hK2
  refine cSeq (fun K3 hK3 => ?_)
  refine cReg ?_
  refine sCall Try.call11 F rfl rfl rfl (pparse2_any exT (by decide) H) ?_
  rintro e w ⟨p2, pl2, er2, m2, rfl, hh2, H, hp2⟩
  obtain ⟨rfl, rfl, rfl, _⟩ := pparse_out hp2 exT_p
  refine ⟨_, rfl, ?_⟩
  clear F a; intro a F
  refine sMv F rfl rfl rfl ?_;clear F a;intro a F
  refine sExt F rfl rfl rfl rfl ?_;clear F a;intro a F
  refine sExt F rfl rfl rfl rfl ?_;clear F a;intro a F
  refine sExt F rfl rfl rfl rfl ?_;clear F a;intro a F
  refine sAl H Try.zeroValue33 F rfl rfl ?_
  clear F a H; intro b4 a w F H
  refine sSr H 0 ?si F rfl rfl rfl ?s1 rfl rfl ?_
  case si => exact info_size Try.sizeOf33
  case s1 => first | rfl | (repeat (first | exact one_nil | (apply one_cons; · first | rfl | assumption | exact one_bif rfl rfl)))
  clear H; intro w H
  refine sAs F rfl rfl rfl ?_;clear F a;intro a F
  refine sAs F rfl rfl rfl ?_;clear F a;intro a F
  refine sNil ?_
  refine hK3 _ _ ?_; clear hK3
  refine cSeq (fun K4 hK4 => ?_)
  refine cSeq (fun K5 hK5 => ?_)
  refine cReg ?_
  refine sMv F rfl rfl rfl ?_;clear F a;intro a F
  refine sBin F rfl rfl rfl rfl bNeq ?_;clear F a;intro a F
  refine sMv F rfl rfl rfl ?_;clear F a;intro a F
  refine F.split 21 rfl ?_ ?_ <;> (clear F; intro h21 F)
  ·
   replace h21 := bneT h21
   first | exact absurd rfl h21 | cases h21 | exact absurd h21 (by decide)
  replace h21 := bneF h21
  refine sMv F rfl rfl rfl ?_;clear F a;intro a F
  refine sBin F rfl rfl rfl rfl bNeq ?_;clear F a;intro a F
  refine sPk F rfl rfl rfl rfl ?_;clear F a;intro a F
  refine sMv F rfl rfl rfl ?_;clear F a;intro a F
  refine F.split 25 rfl ?_ ?_ <;> (clear F; intro h25 F)
  ·
   replace h25 := bneT h25
   first | exact absurd rfl h25 | cases h25 | exact absurd h25 (by decide)
  replace h25 := bneF h25
  refine sMv F rfl rfl rfl ?_;clear F a;intro a F
  refine sBin F rfl rfl rfl rfl bNeq ?_;clear F a;intro a F
  refine sPk F rfl rfl rfl rfl ?_;clear F a;intro a F
  refine sMv F rfl rfl rfl ?_;clear F a;intro a F
  refine F.split 29 rfl ?_ ?_ <;> (clear F; intro h29 F)
  ·
   replace h29 := bneT h29
   first | exact absurd rfl h29 | cases h29 | exact absurd h29 (by decide)
  replace h29 := bneF h29
  refine sMv F rfl rfl rfl ?_;clear F a;intro a F
  refine sBin F rfl rfl rfl rfl bNeq ?_;clear F a;intro a F
  refine sPk F rfl rfl rfl rfl ?_;clear F a;intro a F
  refine sMv F rfl rfl rfl ?_;clear F a;intro a F
  refine F.split 33 rfl ?_ ?_ <;> (clear F; intro h33 F)
  ·
   replace h33 := bneT h33
   first | exact absurd rfl h33 | cases h33 | exact absurd h33 (by decide)
  replace h33 := bneF h33
  refine sFa (f := 0) (k := 0) Try.underlying33 rfl Try.sizeOf9 rfl rfl F rfl rfl rfl ?_;clear F a;intro a F
  refine sLd Try.isAgg9 F rfl rfl rfl (H.cell 2 rfl rfl) ?_;clear F a;intro a F
  refine sBin F rfl rfl rfl rfl bStrNe ?_;clear F a;intro a F
  refine sPk F rfl rfl rfl rfl ?_;clear F a;intro a F
  refine sMv F rfl rfl rfl ?_;clear F a;intro a F
  refine F.split 38 rfl ?_ ?_ <;> (clear F; intro h38 F)
  ·
   replace h38 := nbeqT h38
   first | exact absurd rfl h38 | cases h38 | exact absurd h38 (by decide)
  replace h38 := nbeqF h38
  refine sFa (f := 1) (k := 1) Try.underlying33 rfl Try.sizeOf29 rfl rfl F rfl rfl rfl ?_;clear F a;intro a F
  refine sLd Try.isAgg29 F rfl rfl rfl (H.cell 2 rfl rfl) ?_;clear F a;intro a F
  refine sLen Try.underlying29 F rfl rfl rfl ?_;clear F a;intro a F
  refine sBin F rfl rfl rfl rfl bNeq ?_;clear F a;intro a F
  refine sPk F rfl rfl rfl rfl ?_;clear F a;intro a F
  refine sMv F rfl rfl rfl ?_;clear F a;intro a F
  refine F.split 44 rfl ?_ ?_ <;> (clear F; intro h44 F)
  ·
   replace h44 := bneT h44
   first | exact absurd rfl h44 | cases h44 | exact absurd h44 (by decide)
  replace h44 := bneF h44
  refine sFa (f := 1) (k := 1) Try.underlying33 rfl Try.sizeOf29 rfl rfl F rfl rfl rfl ?_;clear F a;intro a F
  refine sLd Try.isAgg29 F rfl rfl rfl (H.cell 2 rfl rfl) ?_;clear F a;intro a F
  refine sIx (j := 1) Try.underlying29 Try.sizeOf9 F rfl rfl rfl rfl ?_ ?_
  focus (first | omega | decide | (simp; omega))
  clear F a; intro a F
  refine sLd Try.isAgg9 F rfl rfl rfl ((H.prw 3 rfl).locs.at1 (strC_at (j := 1) rfl)) ?_;clear F a;intro a F
  refine sBin F rfl rfl rfl rfl bStrNe ?_;clear F a;intro a F
  refine sPk F rfl rfl rfl rfl ?_;clear F a;intro a F
  refine sMv F rfl rfl rfl ?_;clear F a;intro a F
  refine F.split 51 rfl ?_ ?_ <;> (clear F; intro h51 F)
  ·
   replace h51 := nbeqT h51
   first | exact absurd rfl h51 | cases h51 | exact absurd h51 (by decide)
  replace h51 := nbeqF h51
  refine sFa (f := 2) (k := 2) Try.underlying33 rfl Try.sizeOf30 rfl rfl F rfl rfl rfl ?_;clear F a;intro a F
  refine sLd Try.isAgg30 F rfl rfl rfl (H.cell 2 rfl rfl) ?_;clear F a;intro a F
  refine sLen Try.underlying30 F rfl rfl rfl ?_;clear F a;intro a F
  refine sBin F rfl rfl rfl rfl bNeq ?_;clear F a;intro a F
  refine sPk F rfl rfl rfl rfl ?_;clear F a;intro a F
  refine sMv F rfl rfl rfl ?_;clear F a;intro a F
  refine F.split 57 rfl ?_ ?_ <;> (clear F; intro h57 F)
  ·
   replace h57 := bneT h57
   first | exact absurd rfl h57 | cases h57 | exact absurd h57 (by decide)
  replace h57 := bneF h57
  refine sFa (f := 2) (k := 2) Try.underlying33 rfl Try.sizeOf30 rfl rfl F rfl rfl rfl ?_;clear F a;intro a F
  refine sLd Try.isAgg30 F rfl rfl rfl (H.cell 2 rfl rfl) ?_;clear F a;intro a F
  refine sIx (j := 0) Try.underlying30 Try.sizeOf5 F rfl rfl rfl rfl ?_ ?_
  focus (first | omega | decide | (simp; omega))
  clear F a; intro a F
  refine sLd Try.isAgg5 F rfl rfl rfl ((H.prw 3 rfl).init.at1 (iniC_at (j := 0) rfl)) ?_;clear F a;intro a F
  refine sBin F rfl rfl rfl rfl (bNeqB (y := 1)) ?_;clear F a;intro a F
  refine sPk F rfl rfl rfl rfl ?_;clear F a;intro a F
  refine sMv F rfl rfl rfl ?_;clear F a;intro a F
  refine F.split 64 rfl ?_ ?_ <;> (clear F; intro h64 F)
  ·
   replace h64 := bneT h64
   first | exact absurd rfl h64 | cases h64 | exact absurd h64 (by decide)
  replace h64 := bneF h64
  refine sFa (f := 2) (k := 2) Try.underlying33 rfl Try.sizeOf30 rfl rfl F rfl rfl rfl ?_;clear F a;intro a F
  refine sLd Try.isAgg30 F rfl rfl rfl (H.cell 2 rfl rfl) ?_;clear F a;intro a F
  refine sIx (j := 1) Try.underlying30 Try.sizeOf5 F rfl rfl rfl rfl ?_ ?_
  focus (first | omega | decide | (simp; omega))
  clear F a; intro a F
  refine sLd Try.isAgg5 F rfl rfl rfl ((H.prw 3 rfl).init.at1 (iniC_at (j := 1) rfl)) ?_;clear F a;intro a F
  refine sBin F rfl rfl rfl rfl (bNeqB (y := 0)) ?_;clear F a;intro a F
  refine sPk F rfl rfl rfl rfl ?_;clear F a;intro a F
  refine sMv F rfl rfl rfl ?_;clear F a;intro a F
  refine F.split 71 rfl ?_ ?_ <;> (clear F; intro h71 F)
  ·
   replace h71 := bneT h71
   first | exact absurd rfl h71 | cases h71 | exact absurd h71 (by decide)
  replace h71 := bneF h71
  refine sFa (f := 3) (k := 3) Try.underlying33 rfl Try.sizeOf31 rfl rfl F rfl rfl rfl ?_;clear F a;intro a F
  refine sLd Try.isAgg31 F rfl rfl rfl (H.cell 2 rfl rfl) ?_;clear F a;intro a F
  refine sLen Try.underlying31 F rfl rfl rfl ?_;clear F a;intro a F
  refine sBin F rfl rfl rfl rfl bNeq ?_;clear F a;intro a F
  refine sPk F rfl rfl rfl rfl ?_;clear F a;intro a F
  refine sMv F rfl rfl rfl ?_;clear F a;intro a F
  refine F.split 77 rfl ?_ ?_ <;> (clear F; intro h77 F)
  ·
   replace h77 := bneT h77
   first | exact absurd rfl h77 | cases h77 | exact absurd h77 (by decide)
  replace h77 := bneF h77
  refine sFa (f := 3) (k := 3) Try.underlying33 rfl Try.sizeOf31 rfl rfl F rfl rfl rfl ?_;clear F a;intro a F
  refine sLd Try.isAgg31 F rfl rfl rfl (H.cell 2 rfl rfl) ?_;clear F a;intro a F
  refine sIx (j := 0) Try.underlying31 Try.sizeOf38 F rfl rfl rfl rfl ?_ ?_
  focus (first | omega | decide | (simp; omega))
  clear F a; intro a F
  refine sLd Try.isAgg38 F rfl rfl rfl ((H.prw 3 rfl).hdr.at1 hA0) ?_;clear F a;intro a F
  refine sLen Try.underlying38 F rfl rfl rfl ?_;clear F a;intro a F
  refine sBin F rfl rfl rfl rfl bNeq ?_;clear F a;intro a F
  refine sPk F rfl rfl rfl rfl ?_;clear F a;intro a F
  refine sMv F rfl rfl rfl ?_;clear F a;intro a F
  refine F.split 85 rfl ?_ ?_ <;> (clear F; intro h85 F)
  ·
   replace h85 := bneT h85
   first | exact absurd rfl h85 | cases h85 | exact absurd h85 (by decide)
  replace h85 := bneF h85
  refine sFa (f := 3) (k := 3) Try.underlying33 rfl Try.sizeOf31 rfl rfl F rfl rfl rfl ?_;clear F a;intro a F
  refine sLd Try.isAgg31 F rfl rfl rfl (H.cell 2 rfl rfl) ?_;clear F a;intro a F
  refine sIx (j := 1) Try.underlying31 Try.sizeOf38 F rfl rfl rfl rfl ?_ ?_
  focus (first | omega | decide | (simp; omega))
  clear F a; intro a F
  refine sLd Try.isAgg38 F rfl rfl rfl ((H.prw 3 rfl).hdr.at1 hA1) ?_;clear F a;intro a F
  refine sLen Try.underlying38 F rfl rfl rfl ?_;clear F a;intro a F
  refine sBin F rfl rfl rfl rfl bNeq ?_;clear F a;intro a F
  refine sPk F rfl rfl rfl rfl ?_;clear F a;intro a F
  refine sMv F rfl rfl rfl ?_;clear F a;intro a F
  refine F.split 93 rfl ?_ ?_ <;> (clear F; intro h93 F)
  ·
   replace h93 := bneT h93
   first | exact absurd rfl h93 | cases h93 | exact absurd h93 (by decide)
  replace h93 := bneF h93
  refine sFa (f := 4) (k := 4) Try.underlying33 rfl Try.sizeOf5 rfl rfl F rfl rfl rfl ?_;clear F a;intro a F
  refine sLd Try.isAgg5 F rfl rfl rfl (H.cell 2 rfl rfl) ?_;clear F a;intro a F
  refine sBin F rfl rfl rfl rfl (bNeqB (y := 1)) ?_;clear F a;intro a F
  refine sPk F rfl rfl rfl rfl ?_;clear F a;intro a F
  refine sNil ?_
  refine hK5 _ _ ?_; clear hK5
  refine cIf F rfl (fun h97 => ?_) (fun h97 => ?_)
  ·
   replace h97 := bneT h97
   first | exact absurd rfl h97 | cases h97 | exact absurd h97 (by decide)
  replace h97 := bneF h97
  refine wp_skip ?_
  refine hK4 _ _ ?_; clear hK4
  refine cSeq (fun K6 hK6 => ?_)
  refine cReg ?_
  refine sBd (places := [(0, 1), (1, 1), (2, 1), (3, 2), (5, 2), (7, 1), (8, 1), (9, 1)]) Try.zeroValue42 Try.underlying42 (by kernel_rfl) F rfl rfl rfl rfl ?_;clear F a;intro a F
  refine sAl H Try.zeroValue42 F rfl rfl ?_
  clear F a H; intro b7 a w F H
  refine sSr H 0 ?si F rfl rfl rfl ?s1 rfl rfl ?_
  case si => exact info_size Try.sizeOf42
  case s1 => first | rfl | (repeat (first | exact one_nil | (apply one_cons; · first | rfl | assumption | exact one_bif rfl rfl)))
  clear H; intro w H
  refine sNil ?_
  refine hK6 _ _ ?_; clear hK6
  refine cSeq (fun K7 hK7 => ?_)
  refine cReg ?_
  refine sBd (places := [(0, 1), (1, 1)]) Try.zeroValue40 Try.underlying40 (by kernel_rfl) F rfl rfl rfl rfl ?_;clear F a;intro a F
  refine sBd (places := [(0, 1), (1, 1), (2, 1), (3, 2), (5, 2), (7, 1), (8, 1), (9, 1)]) Try.zeroValue42 Try.underlying42 (by kernel_rfl) F rfl rfl rfl rfl ?_;clear F a;intro a F
  refine sAl H Try.zeroValue42 F rfl rfl ?_
  clear F a H; intro b8 a w F H
  refine sSr H 0 ?si F rfl rfl rfl ?s1 rfl rfl ?_
  case si => exact info_size Try.sizeOf42
  case s1 => first | rfl | (repeat (first | exact one_nil | (apply one_cons; · first | rfl | assumption | exact one_bif rfl rfl)))
  clear H; intro w H
  refine sNil ?_
  refine hK7 _ _ ?_; clear hK7
  refine cSeq (fun K8 hK8 => ?_)
  refine cRegRO (by kernel_rfl) H ?_
  replace H := H.drew
  refine eTakeF (k := 0) (i := 0) rfl (by kernel_rfl) F rfl rfl rfl (fun w => rFa (f := 3) (k := 3) Try.underlying33 rfl Try.sizeOf31 rfl rfl F rfl) H (fun _ _ _ h => h) ?_;clear F a;intro a F
  refine eTake (k := 1) (i := 1) rfl (by kernel_rfl) F rfl rfl rfl rfl (fun w H => rLd Try.isAgg31 F rfl (H.cell 4 rfl rfl)) H (fun _ _ _ h => h) ?_;clear F a;intro a F
  refine eTakeF (k := 2) (i := 2) rfl (by kernel_rfl) F rfl rfl rfl (fun w => rIx (j := 0) Try.underlying31 Try.sizeOf38 F rfl rfl ?_) H (fun _ _ _ h => h) ?_
  focus (first | omega | decide | (simp; omega))
  clear F a; intro a F
  refine eTake (k := 3) (i := 3) rfl (by kernel_rfl) F rfl rfl rfl rfl (fun w H => rLd Try.isAgg38 F rfl ((H.prw 5 rfl).hdr.at1 hA0)) H (fun _ _ _ h => h) ?_;clear F a;intro a F
  refine eTakeF (k := 4) (i := 4) rfl (by kernel_rfl) F rfl rfl rfl (fun w => rIx (j := 1) Try.underlying38 Try.sizeOf42 F rfl rfl ?_) H (fun _ _ _ h => h) ?_
  focus (first | omega | decide | (simp; omega))
  clear F a; intro a F
  refine eTake (k := 5) (i := 5) rfl (by kernel_rfl) F rfl rfl rfl rfl (fun w H => rLr Try.underlying42 rfl ?si F rfl (((H.prw 5 rfl).thr.rows (j := 0) rfl hA0).row (insC_at (j := 1) rfl))) H (fun _ _ _ h => h) ?_
  case si => exact info_size Try.sizeOf42
  clear F a; intro a F
  refine eTake (k := 6) (i := 6) rfl (by kernel_rfl) F rfl rfl rfl rfl (fun w H => rLr Try.underlying42 rfl ?si F rfl (H.whole 1 rfl)) H (fun _ _ _ h => h) ?_
  case si => exact info_size Try.sizeOf42
  clear F a; intro a F
  refine eTakeF (k := 7) (i := 7) rfl (by kernel_rfl) F rfl rfl rfl (fun w => rBin F rfl rfl (bEqI (u := ⟨1, 1, 1, false, 0, false, 0, 0, 1, 0⟩))) H (fun _ _ _ h => h) ?_;clear F a;intro a F
  refine eTakeF (k := 8) (i := 8) rfl (by kernel_rfl) F rfl rfl rfl (fun w => rMv F rfl) H (fun _ _ _ h => h) ?_;clear F a;intro a F
  refine F.split 109 rfl ?_ ?_ <;> (clear F; intro h109 F)
  ·
   refine eTakeF (k := 9) (i := 9) rfl (by kernel_rfl) F rfl rfl rfl (fun w => rFa (f := 3) (k := 3) Try.underlying33 rfl Try.sizeOf31 rfl rfl F rfl) H (fun _ _ _ h => h) ?_;clear F a;intro a F
   refine eTake (k := 10) (i := 10) rfl (by kernel_rfl) F rfl rfl rfl rfl (fun w H => rLd Try.isAgg31 F rfl (H.cell 4 rfl rfl)) H (fun _ _ _ h => h) ?_;clear F a;intro a F
   refine eTakeF (k := 11) (i := 11) rfl (by kernel_rfl) F rfl rfl rfl (fun w => rIx (j := 1) Try.underlying31 Try.sizeOf38 F rfl rfl ?_) H (fun _ _ _ h => h) ?_
   focus (first | omega | decide | (simp; omega))
   clear F a; intro a F
   refine eTake (k := 12) (i := 12) rfl (by kernel_rfl) F rfl rfl rfl rfl (fun w H => rLd Try.isAgg38 F rfl ((H.prw 5 rfl).hdr.at1 hA1)) H (fun _ _ _ h => h) ?_;clear F a;intro a F
   refine eTakeF (k := 13) (i := 13) rfl (by kernel_rfl) F rfl rfl rfl (fun w => rIx (j := 0) Try.underlying38 Try.sizeOf42 F rfl rfl ?_) H (fun _ _ _ h => h) ?_
   focus (first | omega | decide | (simp; omega))
   clear F a; intro a F
   refine eTake (k := 14) (i := 14) rfl (by kernel_rfl) F rfl rfl rfl rfl (fun w H => rLr Try.underlying42 rfl ?si F rfl (((H.prw 5 rfl).thr.rows (j := 1) rfl hA1).row (insC_at (j := 0) rfl))) H (fun _ _ _ h => h) ?_
   case si => exact info_size Try.sizeOf42
   clear F a; intro a F
   refine eTake (k := 15) (i := 15) rfl (by kernel_rfl) F rfl rfl rfl rfl (fun w H => rLr Try.underlying42 rfl ?si F rfl (H.whole 0 rfl)) H (fun _ _ _ h => h) ?_
   case si => exact info_size Try.sizeOf42
   clear F a; intro a F
   refine eTakeF (k := 16) (i := 16) rfl (by kernel_rfl) F rfl rfl rfl (fun w => rBin F rfl rfl (bEqI (u := ⟨2, 0, 1, false, 2, false, 0, 0, 2, 0⟩))) H (fun _ _ _ h => h) ?_;clear F a;intro a F
   refine eTakeF (k := 17) (i := 17) rfl (by kernel_rfl) F rfl rfl rfl (fun w => rPk F rfl rfl) H (fun _ _ _ h => h) ?_;clear F a;intro a F
   refine eTakeF (k := 18) (i := 18) rfl (by kernel_rfl) F rfl rfl rfl (fun w => rMv F rfl) H (fun _ _ _ h => h) ?_;clear F a;intro a F
   refine F.split 119 rfl ?_ ?_ <;> (clear F; intro h119 F)
   ·
    refine eTakeF (k := 19) (i := 19) rfl (by kernel_rfl) F rfl rfl rfl (fun w => rFa (f := 5) (k := 5) Try.underlying33 rfl Try.sizeOf24 rfl rfl F rfl) H (fun _ _ _ h => h) ?_;clear F a;intro a F
    refine eTakeF (k := 20) (i := 20) rfl (by kernel_rfl) F rfl rfl rfl (fun w => rFa (f := 0) (k := 5) Try.underlying24 rfl Try.sizeOf5 rfl rfl F rfl) H (fun _ _ _ h => h) ?_;clear F a;intro a F
    refine eTake (k := 21) (i := 21) rfl (by kernel_rfl) F rfl rfl rfl rfl (fun w H => rLd Try.isAgg5 F rfl (H.cell 4 rfl rfl)) H (fun _ _ _ h => h) ?_;clear F a;intro a F
    refine eTakeF (k := 22) (i := 22) rfl (by kernel_rfl) F rfl rfl rfl (fun w => rBin F rfl rfl (bEqlB (y := 4))) H (fun _ _ _ h => h) ?_;clear F a;intro a F
    refine eTakeF (k := 23) (i := 23) rfl (by kernel_rfl) F rfl rfl rfl (fun w => rPk F rfl rfl) H (fun _ _ _ h => h) ?_;clear F a;intro a F
    refine eTakeF (k := 24) (i := 24) rfl (by kernel_rfl) F rfl rfl rfl (fun w => rMv F rfl) H (fun _ _ _ h => h) ?_;clear F a;intro a F
    refine F.split 125 rfl ?_ ?_ <;> (clear F; intro h125 F)
    ·
     replace h125 := beqT h125
     refine eTakeF (k := 25) (i := 25) rfl (by kernel_rfl) F rfl rfl rfl (fun w => rFa (f := 5) (k := 5) Try.underlying33 rfl Try.sizeOf24 rfl rfl F rfl) H (fun _ _ _ h => h) ?_;clear F a;intro a F
     refine eTakeF (k := 26) (i := 26) rfl (by kernel_rfl) F rfl rfl rfl (fun w => rFa (f := 4) (k := 9) Try.underlying24 rfl Try.sizeOf22 rfl rfl F rfl) H (fun _ _ _ h => h) ?_;clear F a;intro a F
     refine eTake (k := 27) (i := 27) rfl (by kernel_rfl) F rfl rfl rfl rfl (fun w H => rLd Try.isAgg22 F rfl (H.cell 4 rfl rfl)) H (fun _ _ _ h => h) ?_;clear F a;intro a F
     refine eTake (k := 28) (i := 28) rfl (by kernel_rfl) F rfl rfl rfl rfl (fun w H => rLen Try.underlying22 F rfl) H (fun _ _ _ h => h) ?_;clear F a;intro a F
     refine eTakeF (k := 29) (i := 29) rfl (by kernel_rfl) F rfl rfl rfl (fun w => rBin F rfl rfl bEql) H (fun _ _ _ h => h) ?_;clear F a;intro a F
     refine eTakeF (k := 30) (i := 30) rfl (by kernel_rfl) F rfl rfl rfl (fun w => rPk F rfl rfl) H (fun _ _ _ h => h) ?_;clear F a;intro a F
     refine eTakeF (k := 31) (i := 31) rfl (by kernel_rfl) F rfl rfl rfl (fun w => rMv F rfl) H (fun _ _ _ h => h) ?_;clear F a;intro a F
     refine F.split 132 rfl ?_ ?_ <;> (clear F; intro h132 F)
     ·
      replace h132 := beqT h132
      refine eTakeF (k := 32) (i := 32) rfl (by kernel_rfl) F rfl rfl rfl (fun w => rFa (f := 5) (k := 5) Try.underlying33 rfl Try.sizeOf24 rfl rfl F rfl) H (fun _ _ _ h => h) ?_;clear F a;intro a F
      refine eTakeF (k := 33) (i := 33) rfl (by kernel_rfl) F rfl rfl rfl (fun w => rFa (f := 4) (k := 9) Try.underlying24 rfl Try.sizeOf22 rfl rfl F rfl) H (fun _ _ _ h => h) ?_;clear F a;intro a F
      refine eTake (k := 34) (i := 34) rfl (by kernel_rfl) F rfl rfl rfl rfl (fun w H => rLd Try.isAgg22 F rfl (H.cell 4 rfl rfl)) H (fun _ _ _ h => h) ?_;clear F a;intro a F
      refine eTakeF (k := 35) (i := 35) rfl (by kernel_rfl) F rfl rfl rfl (fun w => rIx (j := 0) Try.underlying22 Try.sizeOf24 F rfl rfl ?_) H (fun _ _ _ h => h) ?_
      focus (first | omega | decide | (simp; omega))
      clear F a; intro a F
      refine eTakeF (k := 36) (i := 36) rfl (by kernel_rfl) F rfl rfl rfl (fun w => rFa (f := 0) Try.underlying24 rfl Try.sizeOf5 rfl rfl F rfl) H (fun _ _ _ h => h) ?_;clear F a;intro a F
      refine eTake (k := 37) (i := 37) rfl (by kernel_rfl) F rfl rfl rfl rfl (fun w H => rLd Try.isAgg5 F rfl (kid_kind (H.prw 5 rfl).cond (j := 0) rfl)) H (fun _ _ _ h => h) ?_;clear F a;intro a F
      refine eTakeF (k := 38) (i := 38) rfl (by kernel_rfl) F rfl rfl rfl (fun w => rBin F rfl rfl (bEqlB (y := 3))) H (fun _ _ _ h => h) ?_;clear F a;intro a F
      refine eTakeF (k := 39) (i := 39) rfl (by kernel_rfl) F rfl rfl rfl (fun w => rPk F rfl rfl) H (fun _ _ _ h => h) ?_;clear F a;intro a F
      refine eTakeF (k := 40) (i := 40) rfl (by kernel_rfl) F rfl rfl rfl (fun w => rMv F rfl) H (fun _ _ _ h => h) ?_;clear F a;intro a F
      refine F.split 141 rfl ?_ ?_ <;> (clear F; intro h141 F)
      ·
       replace h141 := beqT h141
       refine eTakeF (k := 41) (i := 41) rfl (by kernel_rfl) F rfl rfl rfl (fun w => rFa (f := 5) (k := 5) Try.underlying33 rfl Try.sizeOf24 rfl rfl F rfl) H (fun _ _ _ h => h) ?_;clear F a;intro a F
       refine eTake (k := 42) (i := 42) rfl (by kernel_rfl) F rfl rfl rfl rfl (fun w H => rLr Try.underlying24 rfl ?si F rfl (H.range 4 rfl _ 5)) H (fun _ _ _ h => h) ?_
       case si => exact info_size Try.sizeOf24
       clear F a; intro a F
       refine eOne (k := 43) (i := 43) rfl (by kernel_rfl) F rfl (oCall Try.call9 F rfl rfl (pdeep_any _ _ exP.cond _ (H.prw 5 rfl).cond.at (by decide)) ?_)
       rintro e w ⟨rfl, hb⟩
       replace H := H.grow hb; clear hb
       refine ⟨_, rfl, ?_⟩
       clear F a; intro a F
       refine ePartO (by kernel_rfl) H ?_
       refine eTakeF (k := 44) (i := 44) rfl (by kernel_rfl) F rfl rfl rfl (fun w => rBin F rfl rfl bEql) H (fun _ _ _ h => h) ?_;clear F a;intro a F
       refine eTakeF (k := 45) (i := 45) rfl (by kernel_rfl) F rfl rfl rfl (fun w => rPk F rfl rfl) H (fun _ _ _ h => h) ?_;clear F a;intro a F
       refine eTakeF (k := 46) (i := 46) rfl (by kernel_rfl) F rfl rfl rfl (fun w => rAs F rfl) H (fun _ _ _ h => h) ?_;clear F a;intro a F
       refine eNil (k := 47) (by kernel_rfl) ?_
       refine hK8 _ _ ?_; clear hK8
       refine wp_ret ?_
       refine bRet Try.results8 F rfl ?_
       exact ⟨rfl, H.below⟩
      replace h141 := beqF h141
      first | exact absurd rfl h141 | cases h141 | exact absurd h141 (by decide)
     replace h132 := beqF h132
     first | exact absurd rfl h132 | cases h132 | exact absurd h132 (by decide)
    replace h125 := beqF h125
    first | exact absurd rfl h125 | cases h125 | exact absurd h125 (by decide)
   first | exact absurd rfl h119 | cases h119 | exact absurd h119 (by decide)
  first | exact absurd rfl h109 | cases h109 | exact absurd h109 (by decide)
end Go.Proofs.Ytbdjlmdejlklkaa
