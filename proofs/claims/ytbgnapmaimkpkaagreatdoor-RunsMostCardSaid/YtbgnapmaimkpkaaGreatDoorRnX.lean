/-
  WALK2. The laws of chapter 15: out, pass, drain, Finals, awake. Conditions: block 0 holds the table of needs.
-/
import Derived.Test.YtbgnapmaimkpkaaGreatDoorRnW
set_option linter.unusedSimpArgs false
set_option linter.unusedVariables false
namespace Go.Proofs.YtbgnapmaimkpkaaGreatDoor
open Go.RowKit
set_option maxRecDepth 100000
theorem out_any (x y z : UInt8) (w0 : World) :
    Calls Tryz.prog 38 #[Go.Proofs.YtbgnapmaimkpkaaGreatDoor.b8 x, Go.Proofs.YtbgnapmaimkpkaaGreatDoor.b8 y, Go.Proofs.YtbgnapmaimkpkaaGreatDoor.b8 z] w0 fun e w' => e = .returned (.agg (bs 38 (outB x y z)).toArray) ∧ Below w0.heap.size w0 w' := by
  have H := Own.start w0 none
  refine enterF Tryz.func38 rfl Tryz.ntmps38 rfl (fun a F => ?_)
  refine cSeq (fun K1 hK1 => ?_)
  refine cReg ?_
  refine sAlB H zB47 F rfl rfl ?_
  clear F a H; intro b6 a w F H
  refine sNil ?_
  refine hK1 _ _ ?_; clear hK1
  refine cSeq (fun K2 hK2 => ?_)
  refine cReg ?_
  refine sMv F rfl rfl rfl ?_;clear F a;intro a F
  refine sBaB zB45 Tryz.underlying45 Tryz.sizeOf5 F rfl rfl rfl (FillB.one rfl rfl (FillB.one (v := 1) rfl rfl FillB.nil)) ?_;clear F a;intro a F
  refine sBdB (places := [(0, 32), (32, 6)]) zB47 Tryz.underlying47 (by kernel_rfl) F rfl rfl rfl (FillB.row rfl rfl FillB.nil) ?_;clear F a;intro a F
  refine sAlB H zB47 F rfl rfl ?_
  clear F a H; intro b7 a w F H
  refine sSrB H 0 Tryz.sizeOf47 F rfl rfl rfl rfl (by omega) ?_
  clear H; intro w H
  rw [lay_all] at H
  refine sNil ?_
  refine hK2 _ _ ?_; clear hK2
  refine cSeq (fun K3 hK3 => ?_)
  refine cReg ?_
  refine sMv F rfl rfl rfl ?_;clear F a;intro a F
  refine sMv F rfl rfl rfl ?_;clear F a;intro a F
  refine sFa (f := 0) (k := 0) Tryz.underlying47 rfl Tryz.sizeOf44 rfl rfl F rfl rfl rfl ?_;clear F a;intro a F
  refine sIa (j := 0) Tryz.underlying44 Tryz.sizeOf43 F rfl rfl rfl rfl ?_ ?_
  focus (first | omega | decide | (simp; omega))
  clear F a; intro a F
  refine sIa (j := 0) Tryz.underlying43 Tryz.sizeOf5 F rfl rfl rfl rfl ?_ ?_
  focus (first | omega | decide | (simp; omega))
  clear F a; intro a F
  refine sStB H 0 Tryz.sizeOf5 F rfl rfl rfl rfl (by omega) ?_
  clear H; intro w H
  refine sFa (f := 0) (k := 0) Tryz.underlying47 rfl Tryz.sizeOf44 rfl rfl F rfl rfl rfl ?_;clear F a;intro a F
  refine sIa (j := 1) Tryz.underlying44 Tryz.sizeOf43 F rfl rfl rfl rfl ?_ ?_
  focus (first | omega | decide | (simp; omega))
  clear F a; intro a F
  refine sIa (j := 0) Tryz.underlying43 Tryz.sizeOf5 F rfl rfl rfl rfl ?_ ?_
  focus (first | omega | decide | (simp; omega))
  clear F a; intro a F
  refine sStB H 0 Tryz.sizeOf5 F rfl rfl rfl rfl (by omega) ?_
  clear H; intro w H
  refine sNil ?_
  refine hK3 _ _ ?_; clear hK3
  refine cSeq (fun K4 hK4 => ?_)
  refine cReg ?_
  refine sLrB Tryz.underlying47 rfl Tryz.sizeOf47 F rfl rfl rfl (H.whole 0 rfl) ?_;clear F a;intro a F
  refine sSrB H 1 Tryz.sizeOf47 F rfl rfl rfl rfl (by omega) ?_
  clear H; intro w H
  rw [lay_all] at H
  refine sNil ?_
  refine hK4 _ _ ?_; clear hK4
  refine wp_ret ?_
  refine bRetB Tryz.results38 F rfl Tryz.underlying47 rfl Tryz.sizeOf47 H 1 rfl ?_
  refine ⟨?_, H.below⟩
  refine congrArg (fun l : List Value => Ending.returned (.agg l.toArray)) (bs_ext fun i hi => ?_)
  simp only [put, lay, zb, outB]
  by_cases h0 : i = 0
  · subst h0; rfl
  by_cases h8 : i = 8
  · subst h8; rfl
  by_cases h32 : i = 32
  · subst h32; rfl
  by_cases h33 : i = 33
  · subst h33; rfl
  rw [if_neg (by omega), if_neg (by omega), if_neg h0, if_neg h8, if_neg h32, if_neg h33]
  split
  · rw [if_neg (by omega), if_neg (by omega)]
  · rfl
theorem pass15_any (t : UInt8) (w0 : World) :
    Calls Tryz.prog 39 #[Go.Proofs.YtbgnapmaimkpkaaGreatDoor.b8 t] w0 fun e w' => e = .returned (.agg (Pss.mk t false 0).cells.toArray) ∧ Below w0.heap.size w0 w' := by
  have H := Own.start w0 none
  refine enterF Tryz.func39 rfl Tryz.ntmps39 rfl (fun a F => ?_)
  refine cSeq (fun K1 hK1 => ?_)
  refine cReg ?_
  refine sAl H Tryz.zeroValue86 F rfl rfl ?_
  clear F a H; intro b2 a w F H
  refine sNil ?_
  refine hK1 _ _ ?_; clear hK1
  refine cSeq (fun K2 hK2 => ?_)
  refine cReg ?_
  refine sMv F rfl rfl rfl ?_;clear F a;intro a F
  refine sBd (places := [(0, 1), (1, 1), (2, 1)]) Tryz.zeroValue86 Tryz.underlying86 (by kernel_rfl) F rfl rfl rfl rfl ?_;clear F a;intro a F
  refine sSr H 0 ?si F rfl rfl rfl ?s1 rfl rfl ?_
  case si => exact info_size Tryz.sizeOf86
  case s1 => first | rfl | (repeat (first | exact one_nil | (apply one_cons; · first | rfl | assumption | exact one_bif rfl rfl)))
  clear H; intro w H
  refine sNil ?_
  refine hK2 _ _ ?_; clear hK2
  refine wp_ret ?_
  refine bRetC Tryz.results39 F rfl Tryz.underlying86 rfl H 0 rfl Tryz.sizeOf86 rfl ?_
  exact ⟨rfl, H.below⟩
theorem drain15_any (t : UInt8) (w0 : World) :
    Calls Tryz.prog 40 #[Go.Proofs.YtbgnapmaimkpkaaGreatDoor.b8 t] w0 fun e w' => e = .returned (.agg (Pss.mk t true 0).cells.toArray) ∧ Below w0.heap.size w0 w' := by
  have H := Own.start w0 none
  refine enterF Tryz.func40 rfl Tryz.ntmps40 rfl (fun a F => ?_)
  refine cSeq (fun K1 hK1 => ?_)
  refine cReg ?_
  refine sAl H Tryz.zeroValue86 F rfl rfl ?_
  clear F a H; intro b2 a w F H
  refine sNil ?_
  refine hK1 _ _ ?_; clear hK1
  refine cSeq (fun K2 hK2 => ?_)
  refine cReg ?_
  refine sMv F rfl rfl rfl ?_;clear F a;intro a F
  refine sBd (places := [(0, 1), (1, 1), (2, 1)]) Tryz.zeroValue86 Tryz.underlying86 (by kernel_rfl) F rfl rfl rfl rfl ?_;clear F a;intro a F
  refine sSr H 0 ?si F rfl rfl rfl ?s1 rfl rfl ?_
  case si => exact info_size Tryz.sizeOf86
  case s1 => first | rfl | (repeat (first | exact one_nil | (apply one_cons; · first | rfl | assumption | exact one_bif rfl rfl)))
  clear H; intro w H
  refine sNil ?_
  refine hK2 _ _ ?_; clear hK2
  refine wp_ret ?_
  refine bRetC Tryz.results40 F rfl Tryz.underlying86 rfl H 0 rfl Tryz.sizeOf86 rfl ?_
  exact ⟨rfl, H.below⟩
theorem tl_get {l : List By} {i : Nat} {f : By} (h : l[i]? = some f) : (tl l)[i]? = some (toL 38 f) := by
  unfold tl
  rw [List.getElem?_map, h]; rfl
theorem fins12_any (A B : Option Addr) (CA CB : Nat) (l q : List By) (w0 : World) (hA : RowsAt w0 A 38 (l.map (bs 38))) (hB : RowsAt w0 B 38 (q.map (bs 38))) (hl : l.length ≤ 9223372036854775807) (hq : q.length ≤ 9223372036854775807) :
    Calls Tryz.prog 16 #[.slice A l.length CA, .slice B q.length CB] w0 fun e w' => e = .returned (.bool (decide (tl l = tl q))) ∧ Below w0.heap.size w0 w' := by
  have H := Own.start w0 none
  refine enterF Tryz.func16 rfl Tryz.ntmps16 rfl (fun a F => ?_)
  refine cSeq (fun K1 hK1 => ?_)
  refine cReg ?_
  refine sAs F rfl rfl rfl ?_;clear F a;intro a F
  refine sNil ?_
  refine hK1 _ _ ?_; clear hK1
  refine cSeq (fun K2 hK2 => ?_)
  refine cSeq (fun K3 hK3 => ?_)
  refine cReg ?_
  refine sMv F rfl rfl rfl ?_;clear F a;intro a F
  refine sLen Tryz.underlying30 F rfl rfl rfl ?_;clear F a;intro a F
  refine sMv F rfl rfl rfl ?_;clear F a;intro a F
  refine sLen Tryz.underlying30 F rfl rfl rfl ?_;clear F a;intro a F
  refine sBin F rfl rfl rfl rfl bNeq ?_;clear F a;intro a F
  refine sNil ?_
  refine hK3 _ _ ?_; clear hK3
  refine cIf F rfl (fun h10 => ?_) (fun h10 => ?_)
  ·
   replace h10 := bneT h10
   refine cSeq (fun K4 hK4 => ?_)
   refine cReg ?_
   refine sAs F rfl rfl rfl ?_;clear F a;intro a F
   refine sNil ?_
   refine hK4 _ _ ?_; clear hK4
   refine wp_ret ?_
   simp only [Exit.then]
   refine bRet Tryz.results16 F rfl ?_
   first
   | (have hne : tl l ≠ tl q := fun e => by
       have := congrArg List.length e
       rw [tl_len, tl_len] at this
       omega
      rw [show decide (tl l = tl q) = false from decide_eq_false hne]
      exact ⟨rfl, H.below⟩)
   | (have hne : tl l ≠ tl q := fun e => by
       have h1 := tl_get hx
       rw [e, tl_get hy] at h1
       have h2 := toL_eq.1 (Option.some.inj h1).symm
       rw [h2] at h24
       simp at h24
      rw [show decide (tl l = tl q) = false from decide_eq_false hne]
      exact ⟨rfl, H.below⟩)
   | (have he : tl l = tl q := List.ext_getElem? fun i => by
       rcases Nat.lt_or_ge i l.length with h | h
       · exact hsame i (by omega)
       · rw [List.getElem?_eq_none (by rw [tl_len]; omega), List.getElem?_eq_none (by rw [tl_len]; omega)]
      rw [show decide (tl l = tl q) = true from decide_eq_true he]
      exact ⟨rfl, H.below⟩)
  replace h10 := bneF h10
  refine wp_skip ?_
  refine hK2 _ _ ?_; clear hK2
  refine cSeq (fun K5 hK5 => ?_)
  refine cSeq (fun K6 hK6 => ?_)
  refine cReg ?_
  refine sMv F rfl rfl rfl ?_;clear F a;intro a F
  refine sLen Tryz.underlying30 F rfl rfl rfl ?_;clear F a;intro a F
  refine sMv F rfl rfl rfl ?_;clear F a;intro a F
  refine sNil ?_
  refine hK6 _ _ ?_; clear hK6
  refine wp_block ?_
  refine cLoopR [0, 1, 12] (fun m ups w => ∃ j : Nat, m = l.length - j ∧ ups = [(13, .int .i64 ((j : Nat) : Int))] ∧ j ≤ l.length ∧ (∀ i, i < j → (tl l)[i]? = (tl q)[i]?) ∧ Own w0 none w []) F (l.length) [(13, .int .i64 ((0 : Nat) : Int))] (by repeat (first | exact SubR.nil | (apply SubR.cons; · rfl))) ?_ ?_ ?_
  · exact ⟨0, rfl, rfl, by omega, fun i h => absurd h (by omega), H⟩
  · repeat (first | exact trivial | refine Le.cons rfl ?_)
  clear F
  clear H
  intro m ups a w hI F
  obtain ⟨j, rfl, rfl, hj, hsame, H⟩ := hI
  refine cSeq (fun K7 hK7 => ?_)
  refine cReg ?_
  refine sBin F rfl rfl rfl rfl bLss ?_;clear F a;intro a F
  refine sNil ?_
  refine hK7 _ _ ?_; clear hK7
  refine cSeq (fun K8 hK8 => ?_)
  refine cIf F rfl (fun h14 => ?_) (fun h14 => ?_)
  ·
   replace h14 := of_decide_eq_true h14
   have hjl : j < l.length := by omega
   have hjq : j < q.length := by omega
   obtain ⟨x, hx⟩ : ∃ x, l[j]? = some x := ⟨_, List.getElem?_eq_getElem hjl⟩
   obtain ⟨y, hy⟩ : ∃ y, q[j]? = some y := ⟨_, List.getElem?_eq_getElem hjq⟩
   obtain ⟨b1, o1, rfl, hR1⟩ := hA j (bs 38 x) (by rw [List.getElem?_map, hx]; rfl)
   obtain ⟨b2, o2, rfl, hR2⟩ := hB j (bs 38 y) (by rw [List.getElem?_map, hy]; rfl)
   refine wp_skip ?_
   refine hK8 _ _ ?_; clear hK8
   refine cSeq (fun K9 hK9 => ?_)
   refine wp_block ?_
   refine cSeq (fun K10 hK10 => ?_)
   refine cReg ?_
   refine sMv F rfl rfl rfl ?_;clear F a;intro a F
   refine sAs F rfl rfl rfl ?_;clear F a;intro a F
   refine sNil ?_
   refine hK10 _ _ ?_; clear hK10
   refine cSeq (fun K11 hK11 => ?_)
   refine cRegRO (by kernel_rfl) H ?_
   replace H := H.drew
   refine eTakeF (k := 0) (i := 0) rfl (by kernel_rfl) F rfl rfl rfl (fun w => rMv F rfl) (H.sel [] rfl rfl) (fun _ _ _ h => h) ?_;clear F a;intro a F
   refine eTakeF (k := 1) (i := 1) rfl (by kernel_rfl) F rfl rfl rfl (fun w => rMv F rfl) (H.sel [] rfl rfl) (fun _ _ _ h => h) ?_;clear F a;intro a F
   refine eTakeF (k := 2) (i := 2) rfl (by kernel_rfl) F rfl rfl rfl (fun w => rIx Tryz.underlying30 Tryz.sizeOf47 F rfl rfl ?_) (H.sel [] rfl rfl) (fun _ _ _ h => h) ?_
   focus exact hjl
   clear F a; intro a F
   refine eTake (k := 3) (i := 3) rfl (by kernel_rfl) F rfl rfl rfl rfl (fun w H => rLrB Tryz.underlying47 rfl Tryz.sizeOf47 F rfl (H.argR hR1)) (H.sel [] rfl rfl) (fun _ _ _ h => h) ?_;clear F a;intro a F
   refine eTakeF (k := 4) (i := 4) rfl (by kernel_rfl) F rfl rfl rfl (fun w => rMv F rfl) (H.sel [] rfl rfl) (fun _ _ _ h => h) ?_;clear F a;intro a F
   refine eTakeF (k := 5) (i := 5) rfl (by kernel_rfl) F rfl rfl rfl (fun w => rMv F rfl) (H.sel [] rfl rfl) (fun _ _ _ h => h) ?_;clear F a;intro a F
   refine eTakeF (k := 6) (i := 6) rfl (by kernel_rfl) F rfl rfl rfl (fun w => rIx Tryz.underlying30 Tryz.sizeOf47 F rfl rfl ?_) (H.sel [] rfl rfl) (fun _ _ _ h => h) ?_
   focus exact hjq
   clear F a; intro a F
   refine eTake (k := 7) (i := 7) rfl (by kernel_rfl) F rfl rfl rfl rfl (fun w H => rLrB Tryz.underlying47 rfl Tryz.sizeOf47 F rfl (H.argR hR2)) (H.sel [] rfl rfl) (fun _ _ _ h => h) ?_;clear F a;intro a F
   refine eTakeF (k := 8) (i := 8) rfl (by kernel_rfl) F rfl rfl rfl (fun w => rBin F rfl rfl (bNeY eT47 gT47 rfl)) (H.sel [] rfl rfl) (fun _ _ _ h => h) ?_;clear F a;intro a F
   refine eNil (k := 9) (by kernel_rfl) ?_
   refine hK11 _ _ ?_; clear hK11
   refine cIf F rfl (fun h24 => ?_) (fun h24 => ?_)
   ·
    replace h24 := notT h24
    refine cSeq (fun K12 hK12 => ?_)
    refine cReg ?_
    refine sAs F rfl rfl rfl ?_;clear F a;intro a F
    refine sNil ?_
    refine hK12 _ _ ?_; clear hK12
    refine wp_ret ?_
    simp only [Exit.inBlock, Exit.then]
    refine bRet Tryz.results16 F rfl ?_
    first
    | (have hne : tl l ≠ tl q := fun e => by
        have := congrArg List.length e
        rw [tl_len, tl_len] at this
        omega
       rw [show decide (tl l = tl q) = false from decide_eq_false hne]
       exact ⟨rfl, H.below⟩)
    | (have hne : tl l ≠ tl q := fun e => by
        have h1 := tl_get hx
        rw [e, tl_get hy] at h1
        have h2 := toL_eq.1 (Option.some.inj h1).symm
        rw [h2] at h24
        simp at h24
       rw [show decide (tl l = tl q) = false from decide_eq_false hne]
       exact ⟨rfl, H.below⟩)
    | (have he : tl l = tl q := List.ext_getElem? fun i => by
        rcases Nat.lt_or_ge i l.length with h | h
        · exact hsame i (by omega)
        · rw [List.getElem?_eq_none (by rw [tl_len]; omega), List.getElem?_eq_none (by rw [tl_len]; omega)]
       rw [show decide (tl l = tl q) = true from decide_eq_true he]
       exact ⟨rfl, H.below⟩)
   replace h24 := notF h24
   refine wp_skip ?_
   refine hK9 _ _ ?_; clear hK9
   refine cReg ?_
   refine sBin F rfl rfl rfl rfl (bAddN (j := 1) ?_) ?_
   focus omega
   clear F a; intro a F
   refine sMv F rfl rfl rfl ?_;clear F a;intro a F
   refine sNil ?_
   (have he : toL 38 x = toL 38 y := toL_eq.2 (by simpa using h24)
    exact ⟨_, by omega, _, ⟨j + 1, rfl, rfl, by omega, fun i hi => (by
     rcases Nat.lt_or_ge i j with h | h
     · exact hsame i h
     · obtain rfl : i = j := by omega
       rw [tl_get hx, tl_get hy, he]), H.sel [] rfl rfl⟩, F.to (by repeat (first | exact trivial | refine Le.cons rfl ?_))⟩)
  replace h14 := of_decide_eq_false h14
  refine wp_exit ?_
  refine hK5 _ _ ?_; clear hK5
  refine cSeq (fun K13 hK13 => ?_)
  refine cReg ?_
  refine sAs F rfl rfl rfl ?_;clear F a;intro a F
  refine sNil ?_
  refine hK13 _ _ ?_; clear hK13
  refine wp_ret ?_
  refine bRet Tryz.results16 F rfl ?_
  first
  | (have hne : tl l ≠ tl q := fun e => by
      have := congrArg List.length e
      rw [tl_len, tl_len] at this
      omega
     rw [show decide (tl l = tl q) = false from decide_eq_false hne]
     exact ⟨rfl, H.below⟩)
  | (have hne : tl l ≠ tl q := fun e => by
      have h1 := tl_get hx
      rw [e, tl_get hy] at h1
      have h2 := toL_eq.1 (Option.some.inj h1).symm
      rw [h2] at h24
      simp at h24
     rw [show decide (tl l = tl q) = false from decide_eq_false hne]
     exact ⟨rfl, H.below⟩)
  | (have he : tl l = tl q := List.ext_getElem? fun i => by
      rcases Nat.lt_or_ge i l.length with h | h
      · exact hsame i (by omega)
      · rw [List.getElem?_eq_none (by rw [tl_len]; omega), List.getElem?_eq_none (by rw [tl_len]; omega)]
     rw [show decide (tl l = tl q) = true from decide_eq_true he]
     exact ⟨rfl, H.below⟩)
theorem c13_any (cs : List Value) (w0 : World) (hP : ProgAt w0 cs sbP) (hN : NeedsAt w0) :
    Calls Tryz.prog 20 #[.agg cs.toArray, Go.Proofs.YtbgnapmaimkpkaaGreatDoor.b8 1, .int .i64 13] w0 fun e w' => e = .returned (.tuple #[.int .i64 13, .int .i64 3, .int .i64 0]) ∧ Below w0.heap.size w0 w' := by
  have h := count_any cs sbP w0 hP hN 1 13 (by decide) (by decide)
  rw [st_E scR13, scR13] at h
  exact h
theorem c12_any (cs : List Value) (w0 : World) (hP : ProgAt w0 cs sbP) (hN : NeedsAt w0) :
    Calls Tryz.prog 20 #[.agg cs.toArray, Go.Proofs.YtbgnapmaimkpkaaGreatDoor.b8 1, .int .i64 12] w0 fun e w' => ∃ u v : Int, e = .returned (.tuple #[.int .i64 u, .int .i64 v, .int .i64 5]) ∧ Below w0.heap.size w0 w' := by
  have h := count_any cs sbP w0 hP hN 1 12 (by decide) (by decide)
  rw [scE12] at h
  exact h.mono fun _ _ h => ⟨_, _, h⟩
theorem f1000_any (cs : List Value) (w0 : World) (hP : ProgAt w0 cs sbP) (hN : NeedsAt w0) :
    Calls Tryz.prog 19 #[.agg cs.toArray, Go.Proofs.YtbgnapmaimkpkaaGreatDoor.b8 2, .int .i64 1000] w0 fun e w' => ∃ (A : Option Addr) (c : Nat) (l2 : List By), e = .returned (.tuple #[.slice A l2.length c, .int .i64 0]) ∧ tl l2 = tl e4 ∧ Own w0 none w' [.rws 47 38 (.slice A l2.length c) (l2.map (bs 38))] := by
  have h := finals_any cs sbP w0 hP hN 2 1000 (by decide) (by decide)
  rw [st_E tsR1000] at h
  exact h.mono fun _ _ ⟨A, c, l2, h1, h2, h3⟩ => ⟨A, c, l2, h1, ts_finals h2, h3⟩
theorem wts_any (cs : List Value) (w0 : World) (hP : ProgAt w0 cs sbP) (hN : NeedsAt w0) :
    Calls Tryz.prog 21 #[.agg cs.toArray, Go.Proofs.YtbgnapmaimkpkaaGreatDoor.b8 2, .agg (bs 38 (outB 1 0 0)).toArray, .int .i64 1000] w0 fun e w' => ∃ A c, e = .returned (.tuple #[.slice A 6 c, .int .i64 0]) ∧ Own w0 none w' [.rws 86 3 (.slice A 6 c) (([⟨0, false, 0⟩, ⟨0, false, 0⟩, ⟨1, false, 0⟩, ⟨1, false, 0⟩, ⟨0, true, 0⟩, ⟨1, true, 0⟩] : List Pss).map Pss.cells)] := by
  have h := way_any cs sbP w0 hP hN 2 (outB 1 0 0) 1000 (by decide) (by decide)
  rw [way_of tsR1000, wayE_of tsR1000, ts_way, if_pos ts_yes] at h
  exact h
theorem wsc_any (cs : List Value) (w0 : World) (hP : ProgAt w0 cs sbP) (hN : NeedsAt w0) :
    Calls Tryz.prog 21 #[.agg cs.toArray, Go.Proofs.YtbgnapmaimkpkaaGreatDoor.b8 1, .agg (bs 38 (outB 1 1 1)).toArray, .int .i64 1000] w0 fun e w' => ∃ A c, e = .returned (.tuple #[.slice A 4 c, .int .i64 0]) ∧ Own w0 none w' [.rws 86 3 (.slice A 4 c) (([⟨0, false, 0⟩, ⟨1, false, 0⟩, ⟨0, false, 0⟩, ⟨1, false, 0⟩] : List Pss).map Pss.cells)] := by
  have h := way_any cs sbP w0 hP hN 1 (outB 1 1 1) 1000 (by decide) (by decide)
  rw [way_of scR1000, wayE_of scR1000, sc_way, if_pos sc_yes] at h
  exact h
theorem wno_any (cs : List Value) (w0 : World) (hP : ProgAt w0 cs sbP) (hN : NeedsAt w0) :
    Calls Tryz.prog 21 #[.agg cs.toArray, Go.Proofs.YtbgnapmaimkpkaaGreatDoor.b8 1, .agg (bs 38 (outB 7 1 1)).toArray, .int .i64 1000] w0 fun e w' => ∃ v, e = .returned (.tuple #[v, .int .i64 6]) ∧ Below w0.heap.size w0 w' := by
  have h := way_any cs sbP w0 hP hN 1 (outB 7 1 1) 1000 (by decide) (by decide)
  rw [wayE_of scR1000, if_neg (by rw [sc_no]; decide)] at h
  exact h.mono fun _ _ ⟨A, c, h1, h2⟩ => ⟨_, h1, h2.below⟩
set_option maxHeartbeats 1000000 in
theorem awake15_any (w0 : World) (hN : NeedsAt w0) :
    Calls Tryz.prog 14 #[] w0 fun e w' => e = .returned (.bool true) ∧ Below w0.heap.size w0 w' := by
  have H := Own.start w0 none
  refine enterF Tryz.func14 rfl Tryz.ntmps14 rfl (fun a F => ?_)
  refine cSeq (fun K1 hK1 => ?_)
  refine cReg ?_
  refine sAs F rfl rfl rfl ?_;clear F a;intro a F
  refine sNil ?_
  refine hK1 _ _ ?_; clear hK1
  refine cSeq (fun K2 hK2 => ?_)
  refine cReg ?_
  refine sCall Tryz.call37 F rfl rfl rfl (buffering_any _) ?_
  rintro e w ⟨x1, x2, x3, x4, x5, rfl, H2⟩
  replace H := H.join H2; clear H2
  refine ⟨_, rfl, ?_⟩
  clear F a; intro a F
  refine sAl H Tryz.zeroValue29 F rfl rfl ?_
  clear F a H; intro b1 a w F H
  refine sSr H 0 ?si F rfl rfl rfl ?s1 rfl rfl ?_
  case si => exact info_size Tryz.sizeOf29
  case s1 => first | rfl | (repeat (first | exact one_nil | (apply one_cons; · first | rfl | assumption | exact one_bif rfl rfl)))
  clear H; intro w H
  refine sNil ?_
  refine hK2 _ _ ?_; clear hK2
  refine cSeq (fun K3 hK3 => ?_)
  refine cReg ?_
  refine sLr Tryz.underlying29 rfl ?si F rfl rfl rfl (H.whole 0 rfl) ?_
  case si => exact info_size Tryz.sizeOf29
  clear F a; intro a F
  refine sCall Tryz.call20 F rfl rfl rfl (c13_any _ _ (sb_prog (H.sel [1, 2, 3, 4, 5] rfl rfl)) (hN.own H)) ?_
  rintro e w ⟨rfl, hb⟩
  replace H := H.grow hb; clear hb
  refine ⟨_, rfl, ?_⟩
  clear F a; intro a F
  refine sMv F rfl rfl rfl ?_;clear F a;intro a F
  refine sExt F rfl rfl rfl rfl ?_;clear F a;intro a F
  refine sExt F rfl rfl rfl rfl ?_;clear F a;intro a F
  refine sExt F rfl rfl rfl rfl ?_;clear F a;intro a F
  refine sAs F rfl rfl rfl ?_;clear F a;intro a F
  refine sAs F rfl rfl rfl ?_;clear F a;intro a F
  refine sAs F rfl rfl rfl ?_;clear F a;intro a F
  refine sNil ?_
  refine hK3 _ _ ?_; clear hK3
  refine cSeq (fun K4 hK4 => ?_)
  refine cReg ?_
  refine sLr Tryz.underlying29 rfl ?si F rfl rfl rfl (H.whole 0 rfl) ?_
  case si => exact info_size Tryz.sizeOf29
  clear F a; intro a F
  refine sCall Tryz.call20 F rfl rfl rfl (c12_any _ _ (sb_prog (H.sel [1, 2, 3, 4, 5] rfl rfl)) (hN.own H)) ?_
  rintro e w ⟨u12, v12, rfl, hb⟩
  replace H := H.grow hb; clear hb
  refine ⟨_, rfl, ?_⟩
  clear F a; intro a F
  refine sMv F rfl rfl rfl ?_;clear F a;intro a F
  refine sExt F rfl rfl rfl rfl ?_;clear F a;intro a F
  refine sExt F rfl rfl rfl rfl ?_;clear F a;intro a F
  refine sExt F rfl rfl rfl rfl ?_;clear F a;intro a F
  refine sAs F rfl rfl rfl ?_;clear F a;intro a F
  refine sAs F rfl rfl rfl ?_;clear F a;intro a F
  refine sAs F rfl rfl rfl ?_;clear F a;intro a F
  refine sNil ?_
  refine hK4 _ _ ?_; clear hK4
  refine cSeq (fun K5 hK5 => ?_)
  refine cReg ?_
  refine sLr Tryz.underlying29 rfl ?si F rfl rfl rfl (H.whole 0 rfl) ?_
  case si => exact info_size Tryz.sizeOf29
  clear F a; intro a F
  refine sCall Tryz.call19 F rfl rfl rfl (f1000_any _ _ (sb_prog (H.sel [1, 2, 3, 4, 5] rfl rfl)) (hN.own H)) ?_
  rintro e w ⟨AF, cF, l2, rfl, htl, H2⟩
  replace H := H.join H2; clear H2
  refine ⟨_, rfl, ?_⟩
  clear F a; intro a F
  refine sMv F rfl rfl rfl ?_;clear F a;intro a F
  refine sExt F rfl rfl rfl rfl ?_;clear F a;intro a F
  refine sExt F rfl rfl rfl rfl ?_;clear F a;intro a F
  refine sAs F rfl rfl rfl ?_;clear F a;intro a F
  refine sAs F rfl rfl rfl ?_;clear F a;intro a F
  refine sNil ?_
  refine hK5 _ _ ?_; clear hK5
  refine cSeq (fun K6 hK6 => ?_)
  refine cRegRO (by kernel_rfl) H ?_
  replace H := H.drew
  refine eTake (k := 0) (i := 0) rfl (by kernel_rfl) F rfl rfl rfl rfl (fun w H => rLr Tryz.underlying29 rfl ?si F rfl (H.whole 1 rfl)) (H.sel [0, 1, 2, 3, 4, 5, 6] rfl rfl) (fun _ _ _ h => h) ?_
  case si => exact info_size Tryz.sizeOf29
  clear F a; intro a F
  refine eOne (k := 1) (i := 1) rfl (by kernel_rfl) F rfl (oCall Tryz.call38 F rfl rfl (out_any 1 0 0 _) ?_)
  rintro e w ⟨rfl, hb⟩
  replace H := H.grow hb; clear hb
  refine ⟨_, rfl, ?_⟩
  clear F a; intro a F
  refine eKeep (H.sel [0, 1, 2, 3, 4, 5, 6] rfl rfl) ?_
  refine eOne (k := 2) (i := 2) rfl (by kernel_rfl) F rfl (oCall Tryz.call21 F rfl rfl (wts_any _ _ (sb_prog (H.sel [2, 3, 4, 5, 6] rfl rfl)) (hN.own H)) ?_)
  rintro e w ⟨A1, c1, rfl, H2⟩
  replace H := H.join H2; clear H2
  refine ⟨_, rfl, ?_⟩
  clear F a; intro a F
  refine ePartO (by kernel_rfl) H ?_
  refine eTakeF (k := 3) (i := 3) rfl (by kernel_rfl) F rfl rfl rfl (fun w => rMv F rfl) (H.sel [0, 1, 2, 3, 4, 5, 6, 7] rfl rfl) (fun _ _ _ h => h) ?_;clear F a;intro a F
  refine eTakeF (k := 4) (i := 4) rfl (by kernel_rfl) F rfl rfl rfl (fun w => rExt F rfl rfl) (H.sel [0, 1, 2, 3, 4, 5, 6, 7] rfl rfl) (fun _ _ _ h => h) ?_;clear F a;intro a F
  refine eTakeF (k := 5) (i := 5) rfl (by kernel_rfl) F rfl rfl rfl (fun w => rExt F rfl rfl) (H.sel [0, 1, 2, 3, 4, 5, 6, 7] rfl rfl) (fun _ _ _ h => h) ?_;clear F a;intro a F
  refine eTakeF (k := 6) (i := 6) rfl (by kernel_rfl) F rfl rfl rfl (fun w => rAs F rfl) (H.sel [0, 1, 2, 3, 4, 5, 6, 7] rfl rfl) (fun _ _ _ h => h) ?_;clear F a;intro a F
  refine eTakeF (k := 7) (i := 7) rfl (by kernel_rfl) F rfl rfl rfl (fun w => rAs F rfl) (H.sel [0, 1, 2, 3, 4, 5, 6, 7] rfl rfl) (fun _ _ _ h => h) ?_;clear F a;intro a F
  refine eNil (k := 8) (by kernel_rfl) ?_
  refine hK6 _ _ ?_; clear hK6
  refine cSeq (fun K7 hK7 => ?_)
  refine cRegRO (by kernel_rfl) H ?_
  replace H := H.drew
  refine eTake (k := 0) (i := 0) rfl (by kernel_rfl) F rfl rfl rfl rfl (fun w H => rLr Tryz.underlying29 rfl ?si F rfl (H.whole 2 rfl)) (H.sel [0, 1, 2, 3, 4, 5, 6, 7] rfl rfl) (fun _ _ _ h => h) ?_
  case si => exact info_size Tryz.sizeOf29
  clear F a; intro a F
  refine eOne (k := 1) (i := 1) rfl (by kernel_rfl) F rfl (oCall Tryz.call38 F rfl rfl (out_any 1 1 1 _) ?_)
  rintro e w ⟨rfl, hb⟩
  replace H := H.grow hb; clear hb
  refine ⟨_, rfl, ?_⟩
  clear F a; intro a F
  refine eKeep (H.sel [0, 1, 2, 3, 4, 5, 6, 7] rfl rfl) ?_
  refine eOne (k := 2) (i := 2) rfl (by kernel_rfl) F rfl (oCall Tryz.call21 F rfl rfl (wsc_any _ _ (sb_prog (H.sel [3, 4, 5, 6, 7] rfl rfl)) (hN.own H)) ?_)
  rintro e w ⟨A2, c2, rfl, H2⟩
  replace H := H.join H2; clear H2
  refine ⟨_, rfl, ?_⟩
  clear F a; intro a F
  refine ePartO (by kernel_rfl) H ?_
  refine eTakeF (k := 3) (i := 3) rfl (by kernel_rfl) F rfl rfl rfl (fun w => rMv F rfl) (H.sel [0, 1, 2, 3, 4, 5, 6, 7, 8] rfl rfl) (fun _ _ _ h => h) ?_;clear F a;intro a F
  refine eTakeF (k := 4) (i := 4) rfl (by kernel_rfl) F rfl rfl rfl (fun w => rExt F rfl rfl) (H.sel [0, 1, 2, 3, 4, 5, 6, 7, 8] rfl rfl) (fun _ _ _ h => h) ?_;clear F a;intro a F
  refine eTakeF (k := 5) (i := 5) rfl (by kernel_rfl) F rfl rfl rfl (fun w => rExt F rfl rfl) (H.sel [0, 1, 2, 3, 4, 5, 6, 7, 8] rfl rfl) (fun _ _ _ h => h) ?_;clear F a;intro a F
  refine eTakeF (k := 6) (i := 6) rfl (by kernel_rfl) F rfl rfl rfl (fun w => rAs F rfl) (H.sel [0, 1, 2, 3, 4, 5, 6, 7, 8] rfl rfl) (fun _ _ _ h => h) ?_;clear F a;intro a F
  refine eTakeF (k := 7) (i := 7) rfl (by kernel_rfl) F rfl rfl rfl (fun w => rAs F rfl) (H.sel [0, 1, 2, 3, 4, 5, 6, 7, 8] rfl rfl) (fun _ _ _ h => h) ?_;clear F a;intro a F
  refine eNil (k := 8) (by kernel_rfl) ?_
  refine hK7 _ _ ?_; clear hK7
  refine cSeq (fun K8 hK8 => ?_)
  refine cRegRO (by kernel_rfl) H ?_
  replace H := H.drew
  refine eTake (k := 0) (i := 0) rfl (by kernel_rfl) F rfl rfl rfl rfl (fun w H => rLr Tryz.underlying29 rfl ?si F rfl (H.whole 3 rfl)) (H.sel [0, 1, 2, 3, 4, 5, 6, 7, 8] rfl rfl) (fun _ _ _ h => h) ?_
  case si => exact info_size Tryz.sizeOf29
  clear F a; intro a F
  refine eOne (k := 1) (i := 1) rfl (by kernel_rfl) F rfl (oCall Tryz.call38 F rfl rfl (out_any 7 1 1 _) ?_)
  rintro e w ⟨rfl, hb⟩
  replace H := H.grow hb; clear hb
  refine ⟨_, rfl, ?_⟩
  clear F a; intro a F
  refine eKeep (H.sel [0, 1, 2, 3, 4, 5, 6, 7, 8] rfl rfl) ?_
  refine eOne (k := 2) (i := 2) rfl (by kernel_rfl) F rfl (oCall Tryz.call21 F rfl rfl (wno_any _ _ (sb_prog (H.sel [4, 5, 6, 7, 8] rfl rfl)) (hN.own H)) ?_)
  rintro e w ⟨v49, rfl, hb⟩
  replace H := H.grow hb; clear hb
  refine ⟨_, rfl, ?_⟩
  clear F a; intro a F
  refine ePartO (by kernel_rfl) H ?_
  refine eTakeF (k := 3) (i := 3) rfl (by kernel_rfl) F rfl rfl rfl (fun w => rMv F rfl) (H.sel [0, 1, 2, 3, 4, 5, 6, 7, 8] rfl rfl) (fun _ _ _ h => h) ?_;clear F a;intro a F
  refine eTakeF (k := 4) (i := 4) rfl (by kernel_rfl) F rfl rfl rfl (fun w => rExt F rfl rfl) (H.sel [0, 1, 2, 3, 4, 5, 6, 7, 8] rfl rfl) (fun _ _ _ h => h) ?_;clear F a;intro a F
  refine eTakeF (k := 5) (i := 5) rfl (by kernel_rfl) F rfl rfl rfl (fun w => rExt F rfl rfl) (H.sel [0, 1, 2, 3, 4, 5, 6, 7, 8] rfl rfl) (fun _ _ _ h => h) ?_;clear F a;intro a F
  refine eTakeF (k := 6) (i := 6) rfl (by kernel_rfl) F rfl rfl rfl (fun w => rAs F rfl) (H.sel [0, 1, 2, 3, 4, 5, 6, 7, 8] rfl rfl) (fun _ _ _ h => h) ?_;clear F a;intro a F
  refine eTakeF (k := 7) (i := 7) rfl (by kernel_rfl) F rfl rfl rfl (fun w => rAs F rfl) (H.sel [0, 1, 2, 3, 4, 5, 6, 7, 8] rfl rfl) (fun _ _ _ h => h) ?_;clear F a;intro a F
  refine eNil (k := 8) (by kernel_rfl) ?_
  refine hK8 _ _ ?_; clear hK8
  refine cSeq (fun K9 hK9 => ?_)
  refine cReg ?_
  refine sMv F rfl rfl rfl ?_;clear F a;intro a F
  refine sBin F rfl rfl rfl rfl bEql ?_;clear F a;intro a F
  refine sMv F rfl rfl rfl ?_;clear F a;intro a F
  refine F.split 54 rfl ?_ ?_ <;> (clear F; intro h54 F)
  ·
   replace h54 := beqT h54
   refine sMv F rfl rfl rfl ?_;clear F a;intro a F
   refine sBin F rfl rfl rfl rfl bEql ?_;clear F a;intro a F
   refine sPk F rfl rfl rfl rfl ?_;clear F a;intro a F
   refine sMv F rfl rfl rfl ?_;clear F a;intro a F
   refine F.split 58 rfl ?_ ?_ <;> (clear F; intro h58 F)
   ·
    replace h58 := beqT h58
    refine sMv F rfl rfl rfl ?_;clear F a;intro a F
    refine sBin F rfl rfl rfl rfl bEql ?_;clear F a;intro a F
    refine sPk F rfl rfl rfl rfl ?_;clear F a;intro a F
    refine sMv F rfl rfl rfl ?_;clear F a;intro a F
    refine F.split 62 rfl ?_ ?_ <;> (clear F; intro h62 F)
    ·
     replace h62 := beqT h62
     refine sMv F rfl rfl rfl ?_;clear F a;intro a F
     refine sBin F rfl rfl rfl rfl bEql ?_;clear F a;intro a F
     refine sPk F rfl rfl rfl rfl ?_;clear F a;intro a F
     refine sMv F rfl rfl rfl ?_;clear F a;intro a F
     refine F.split 66 rfl ?_ ?_ <;> (clear F; intro h66 F)
     ·
      replace h66 := beqT h66
      refine sMv F rfl rfl rfl ?_;clear F a;intro a F
      refine sCall Tryz.call38 F rfl rfl rfl (out_any 1 0 0 _) ?_
      rintro e w ⟨rfl, hb⟩
      replace H := H.grow hb; clear hb
      refine ⟨_, rfl, ?_⟩
      clear F a; intro a F
      refine sCall Tryz.call38 F rfl rfl rfl (out_any 1 0 1 _) ?_
      rintro e w ⟨rfl, hb⟩
      replace H := H.grow hb; clear hb
      refine ⟨_, rfl, ?_⟩
      clear F a; intro a F
      refine sCall Tryz.call38 F rfl rfl rfl (out_any 1 1 0 _) ?_
      rintro e w ⟨rfl, hb⟩
      replace H := H.grow hb; clear hb
      refine ⟨_, rfl, ?_⟩
      clear F a; intro a F
      refine sCall Tryz.call38 F rfl rfl rfl (out_any 1 1 1 _) ?_
      rintro e w ⟨rfl, hb⟩
      replace H := H.grow hb; clear hb
      refine ⟨_, rfl, ?_⟩
      clear F a; intro a F
      refine sBs H Tryz.underlying30 Tryz.sizeOf47 Tryz.zeroValue47 rfl F rfl rfl rfl rfl rfl ?_
      clear F a H; intro b72 a w F H
      refine sCall Tryz.call16 F rfl rfl rfl (fins12_any AF _ cF _ l2 e4 _ (H.rowsAt 3 rfl (bs38_len _) (by decide)) (RowsAt.ofRange (sz := 38) (rows := e4.map (bs 38)) (H.whole 0 rfl) (bs38_len _)) (by have := (H.rwsLen 3 rfl).2; simp only [maxLen] at this; omega) (by decide)) ?_
      rintro e w ⟨rfl, hb⟩
      replace H := H.grow hb; clear hb
      refine ⟨_, rfl, ?_⟩
      clear F a; intro a F
      refine sPk F rfl rfl rfl rfl ?_;clear F a;intro a F
      refine sMv F rfl rfl rfl ?_;clear F a;intro a F
      refine F.split 75 rfl ?_ ?_ <;> (clear F; intro h75 F)
      ·
       refine sMv F rfl rfl rfl ?_;clear F a;intro a F
       refine sBin F rfl rfl rfl rfl bEql ?_;clear F a;intro a F
       refine sPk F rfl rfl rfl rfl ?_;clear F a;intro a F
       refine sMv F rfl rfl rfl ?_;clear F a;intro a F
       refine F.split 79 rfl ?_ ?_ <;> (clear F; intro h79 F)
       ·
        replace h79 := beqT h79
        refine sMv F rfl rfl rfl ?_;clear F a;intro a F
        refine sCall Tryz.call39 F rfl rfl rfl (pass15_any 0 _) ?_
        rintro e w ⟨rfl, hb⟩
        replace H := H.grow hb; clear hb
        refine ⟨_, rfl, ?_⟩
        clear F a; intro a F
        refine sCall Tryz.call39 F rfl rfl rfl (pass15_any 0 _) ?_
        rintro e w ⟨rfl, hb⟩
        replace H := H.grow hb; clear hb
        refine ⟨_, rfl, ?_⟩
        clear F a; intro a F
        refine sCall Tryz.call39 F rfl rfl rfl (pass15_any 1 _) ?_
        rintro e w ⟨rfl, hb⟩
        replace H := H.grow hb; clear hb
        refine ⟨_, rfl, ?_⟩
        clear F a; intro a F
        refine sCall Tryz.call39 F rfl rfl rfl (pass15_any 1 _) ?_
        rintro e w ⟨rfl, hb⟩
        replace H := H.grow hb; clear hb
        refine ⟨_, rfl, ?_⟩
        clear F a; intro a F
        refine sCall Tryz.call40 F rfl rfl rfl (drain15_any 0 _) ?_
        rintro e w ⟨rfl, hb⟩
        replace H := H.grow hb; clear hb
        refine ⟨_, rfl, ?_⟩
        clear F a; intro a F
        refine sCall Tryz.call40 F rfl rfl rfl (drain15_any 1 _) ?_
        rintro e w ⟨rfl, hb⟩
        replace H := H.grow hb; clear hb
        refine ⟨_, rfl, ?_⟩
        clear F a; intro a F
        refine sBs H Tryz.underlying58 Tryz.sizeOf86 Tryz.zeroValue86 rfl F rfl rfl rfl rfl rfl ?_
        clear F a H; intro b87 a w F H
        refine sCall Tryz.call25 F rfl rfl rfl (passes_any A1 _ c1 _ [⟨0, false, 0⟩, ⟨0, false, 0⟩, ⟨1, false, 0⟩, ⟨1, false, 0⟩, ⟨0, true, 0⟩, ⟨1, true, 0⟩] [⟨0, false, 0⟩, ⟨0, false, 0⟩, ⟨1, false, 0⟩, ⟨1, false, 0⟩, ⟨0, true, 0⟩, ⟨1, true, 0⟩] _ (H.rowsAt 3 rfl (rowX _) (by decide)) (RowsAt.ofRange (sz := 3) (rows := ([⟨0, false, 0⟩, ⟨0, false, 0⟩, ⟨1, false, 0⟩, ⟨1, false, 0⟩, ⟨0, true, 0⟩, ⟨1, true, 0⟩] : List Pss).map Pss.cells) (H.whole 0 rfl) (rowX _)) (by decide) (by decide)) ?_
        rintro e w ⟨rfl, hb⟩
        replace H := H.grow hb; clear hb
        refine ⟨_, rfl, ?_⟩
        clear F a; intro a F
        refine sPk F rfl rfl rfl rfl ?_;clear F a;intro a F
        refine sMv F rfl rfl rfl ?_;clear F a;intro a F
        refine F.split 90 rfl ?_ ?_ <;> (clear F; intro h90 F)
        ·
         refine sMv F rfl rfl rfl ?_;clear F a;intro a F
         refine sBin F rfl rfl rfl rfl bEql ?_;clear F a;intro a F
         refine sPk F rfl rfl rfl rfl ?_;clear F a;intro a F
         refine sMv F rfl rfl rfl ?_;clear F a;intro a F
         refine F.split 94 rfl ?_ ?_ <;> (clear F; intro h94 F)
         ·
          replace h94 := beqT h94
          refine sMv F rfl rfl rfl ?_;clear F a;intro a F
          refine sCall Tryz.call39 F rfl rfl rfl (pass15_any 0 _) ?_
          rintro e w ⟨rfl, hb⟩
          replace H := H.grow hb; clear hb
          refine ⟨_, rfl, ?_⟩
          clear F a; intro a F
          refine sCall Tryz.call39 F rfl rfl rfl (pass15_any 1 _) ?_
          rintro e w ⟨rfl, hb⟩
          replace H := H.grow hb; clear hb
          refine ⟨_, rfl, ?_⟩
          clear F a; intro a F
          refine sCall Tryz.call39 F rfl rfl rfl (pass15_any 0 _) ?_
          rintro e w ⟨rfl, hb⟩
          replace H := H.grow hb; clear hb
          refine ⟨_, rfl, ?_⟩
          clear F a; intro a F
          refine sCall Tryz.call39 F rfl rfl rfl (pass15_any 1 _) ?_
          rintro e w ⟨rfl, hb⟩
          replace H := H.grow hb; clear hb
          refine ⟨_, rfl, ?_⟩
          clear F a; intro a F
          refine sBs H Tryz.underlying58 Tryz.sizeOf86 Tryz.zeroValue86 rfl F rfl rfl rfl rfl rfl ?_
          clear F a H; intro b100 a w F H
          refine sCall Tryz.call25 F rfl rfl rfl (passes_any A2 _ c2 _ [⟨0, false, 0⟩, ⟨1, false, 0⟩, ⟨0, false, 0⟩, ⟨1, false, 0⟩] [⟨0, false, 0⟩, ⟨1, false, 0⟩, ⟨0, false, 0⟩, ⟨1, false, 0⟩] _ (H.rowsAt 3 rfl (rowX _) (by decide)) (RowsAt.ofRange (sz := 3) (rows := ([⟨0, false, 0⟩, ⟨1, false, 0⟩, ⟨0, false, 0⟩, ⟨1, false, 0⟩] : List Pss).map Pss.cells) (H.whole 0 rfl) (rowX _)) (by decide) (by decide)) ?_
          rintro e w ⟨rfl, hb⟩
          replace H := H.grow hb; clear hb
          refine ⟨_, rfl, ?_⟩
          clear F a; intro a F
          refine sPk F rfl rfl rfl rfl ?_;clear F a;intro a F
          refine sMv F rfl rfl rfl ?_;clear F a;intro a F
          refine F.split 103 rfl ?_ ?_ <;> (clear F; intro h103 F)
          ·
           refine sMv F rfl rfl rfl ?_;clear F a;intro a F
           refine sBin F rfl rfl rfl rfl bEql ?_;clear F a;intro a F
           refine sPk F rfl rfl rfl rfl ?_;clear F a;intro a F
           refine sMv F rfl rfl rfl ?_;clear F a;intro a F
           refine F.split 107 rfl ?_ ?_ <;> (clear F; intro h107 F)
           ·
            replace h107 := beqT h107
            refine sMv F rfl rfl rfl ?_;clear F a;intro a F
            refine sBin F rfl rfl rfl rfl bEql ?_;clear F a;intro a F
            refine sPk F rfl rfl rfl rfl ?_;clear F a;intro a F
            refine sAs F rfl rfl rfl ?_;clear F a;intro a F
            refine sNil ?_
            refine hK9 _ _ ?_; clear hK9
            refine wp_ret ?_
            refine bRet Tryz.results14 F rfl ?_
            exact ⟨retB (by kernel_rfl), H.below⟩
           replace h107 := beqF h107
           exact absurd rfl h107
          exact notEq (by kernel_rfl) h103
         replace h94 := beqF h94
         exact absurd rfl h94
        exact notEq (by kernel_rfl) h90
       replace h79 := beqF h79
       exact absurd rfl h79
      exact notEq (decide_eq_true htl) h75
     replace h66 := beqF h66
     exact absurd rfl h66
    replace h62 := beqF h62
    exact absurd rfl h62
   replace h58 := beqF h58
   exact absurd rfl h58
  replace h54 := beqF h54
  exact absurd rfl h54
end Go.Proofs.YtbgnapmaimkpkaaGreatDoor
