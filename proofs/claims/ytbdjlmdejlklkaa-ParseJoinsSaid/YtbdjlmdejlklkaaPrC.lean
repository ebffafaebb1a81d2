/-
  WALK2. Package parse: loc. Conditions: the parser, its tokens and names lie in memory.
-/
import Derived.Test.YtbdjlmdejlklkaaPrB
set_option linter.unusedSimpArgs false
set_option linter.unusedVariables false
namespace Go.Proofs.Ytbdjlmdejlklkaa
open Go.RowKit
set_option maxRecDepth 100000
theorem need_no {c : PX} {b : Bool} {s : PS} {p e : Nat} (h : (if b then Rs.ok () s else failP c s 50) = .no p e) : b = false ∧ c.place s.pos = p ∧ 50 = e := by
  cases b with
  | true => cases h
  | false => cases h; exact ⟨rfl, rfl, rfl⟩
theorem need_ok {c : PX} {b : Bool} {s t : PS} {v : Unit} (h : (if b then Rs.ok () s else failP c s 50) = .ok v t) : b = true ∧ s = t := by
  cases b with
  | true => cases h; exact ⟨rfl, rfl⟩
  | false => cases h
theorem nms_false {W : World} {fx : Bool} {A : Option Addr} {C : Nat} {l : List ByteArray} (h : fx = false) : Res.nms W fx A C l = .rws 9 1 (.slice A l.length C) (strC l) := by subst h; rfl
theorem strC_snoc (l : List ByteArray) (w : ByteArray) : strC l ++ [[.string w]] = strC (l ++ [w]) := by simp [strC]
theorem strC_length (l : List ByteArray) : (strC l).length = l.length := by simp [strC]
theorem idxI_lt {o : Option Nat} : idxI o < 0 ↔ o = none := by
  cases o with
  | none => simp [idxI]
  | some k => simp [idxI]
section
variable {c : PX} {s : PS}
theorem loc_bad (h : nameOk (c.word s.pos) = false) : locP c s = failP c s 50 := by unfold locP; rw [if_neg (by rw [h]; exact Bool.false_ne_true)]
theorem loc_old (h : nameOk (c.word s.pos) = true) {k : Nat} (hi : idxOf (c.word s.pos) s.names 0 = some k) : locP c s = .ok (UInt8.ofNat k) s.next := by unfold locP; rw [if_pos h, hi]
theorem loc_fix (h : nameOk (c.word s.pos) = true) (hi : idxOf (c.word s.pos) s.names 0 = none) (hf : c.fixed = true) : locP c s = failP c s 6 := by unfold locP; rw [if_pos h, hi]; exact if_pos hf
theorem loc_full (h : nameOk (c.word s.pos) = true) (hi : idxOf (c.word s.pos) s.names 0 = none) (hf : ¬ c.fixed = true) (h6 : s.names.length = 6) : locP c s = failP c s 5 := by unfold locP; rw [if_pos h, hi]; exact (if_neg hf).trans (if_pos h6)
theorem loc_new (h : nameOk (c.word s.pos) = true) (hi : idxOf (c.word s.pos) s.names 0 = none) (hf : ¬ c.fixed = true) (h6 : ¬ s.names.length = 6) : locP c s = .ok (UInt8.ofNat s.names.length) ⟨s.pos + 1, s.names ++ [c.word s.pos]⟩ := by unfold locP; rw [if_pos h, hi]; exact (if_neg hf).trans (if_neg h6)
end
theorem b8_rem (k : Nat) : b8 (UInt8.ofNat (k % 256)) = b8 (UInt8.ofNat k) := by
  congr 1
  apply UInt8.toNat_inj.1
  rw [UInt8.toNat_ofNat', UInt8.toNat_ofNat']; omega
theorem ploc_any {W w0 : World} {rs : List Res} {c : PX} (hc : c.Ok) {A : Option Addr} {C bp : Nat} {S : Nat → Prop} {s : PS} {B : Option Addr} {D : Nat} {X : List Value} (hp : s.pos ≤ 999000) (hnl : s.names.length ≤ c.lim) (H : Own W none w0 (.blk bp (parC c A C s B D X) 59 :: .held S A 3 (rowsT c.ts) :: .nms W c.fixed B D s.names :: rs)) :
    Calls Try.prog 71 #[.pointer (some ⟨bp, 0, none⟩), .slice B s.names.length D] w0 fun e w' => Ans W rs (locP c s) (fun v t e w' => e = .returned (b8 v) ∧ ∃ B D, Own W none w' (.blk bp (parC c A C t B D X) 59 :: .held S A 3 (rowsT c.ts) :: .nms W c.fixed B D t.names :: rs)) e w' := by
  have hlim := c.lim_le
  refine enterF Try.func71 rfl Try.ntmps71 rfl (fun a F => ?_)
  refine cSeq (fun K1 hK1 => ?_)
  refine cReg ?_
  refine sAs F rfl rfl rfl ?_;clear F a;intro a F
  refine sNil ?_
  refine hK1 _ _ ?_; clear hK1
  refine cSeq (fun K2 hK2 => ?_)
  refine cReg ?_
  refine sMv F rfl rfl rfl ?_;clear F a;intro a F
  refine sMv F rfl rfl rfl ?_;clear F a;intro a F
  refine sNc F rfl rfl rfl ?_;clear F a;intro a F
  refine sFa (f := 0) (k := 0) Try.underlying59 rfl Try.sizeOf57 rfl rfl F rfl rfl rfl ?_;clear F a;intro a F
  refine sCall Try.call43 F rfl rfl rfl (pword_any hc (by omega) H) ?_
  rintro e w ⟨rfl, H⟩
  refine ⟨_, rfl, ?_⟩
  clear F a; intro a F
  refine sCall Try.call12 F rfl rfl rfl (name_any (c.word s.pos) _ (hc.wordLe _) _ rfl) ?_
  rintro e w ⟨rfl, rfl⟩
  refine ⟨_, rfl, ?_⟩
  clear F a; intro a F
  refine sCallP Try.call60 F rfl rfl rfl (pneed_any _ hc (s := s) (by omega) H) ?_
  rintro e w hq9
  rcases hq9.cases with ⟨p9, e9, hn12, rfl, H⟩ | ⟨v12, t12, hr12, rfl, H⟩
  ·
   refine .inl ⟨_, rfl, ?_⟩
   exact And.intro F.nod (Ans.no (by obtain ⟨h1, rfl, rfl⟩ := need_no hn12; exact loc_bad h1) H.tail)
  obtain ⟨hnm, rfl⟩ := need_ok hr12
  refine .inr ⟨_, rfl, ?_⟩
  clear F a; intro a F
  refine sNil ?_
  refine hK2 _ _ ?_; clear hK2
  refine cSeq (fun K3 hK3 => ?_)
  refine cReg ?_
  refine sMv F rfl rfl rfl ?_;clear F a;intro a F
  refine sMv F rfl rfl rfl ?_;clear F a;intro a F
  refine sNc F rfl rfl rfl ?_;clear F a;intro a F
  refine sFa (f := 0) (k := 0) Try.underlying59 rfl Try.sizeOf57 rfl rfl F rfl rfl rfl ?_;clear F a;intro a F
  refine sCall Try.call43 F rfl rfl rfl (pword_any hc (by omega) H) ?_
  rintro e w ⟨rfl, H⟩
  refine ⟨_, rfl, ?_⟩
  clear F a; intro a F
  refine sCall Try.call83 F rfl rfl rfl (index_any B D s.names (c.word s.pos) _ (nmsAt H 2 rfl) (by omega)) ?_
  rintro e w ⟨rfl, hb⟩
  replace H := H.grow hb; clear hb
  refine ⟨_, rfl, ?_⟩
  clear F a; intro a F
  refine sAs F rfl rfl rfl ?_;clear F a;intro a F
  refine sNil ?_
  refine hK3 _ _ ?_; clear hK3
  refine cSeq (fun K4 hK4 => ?_)
  refine cSeq (fun K5 hK5 => ?_)
  refine cReg ?_
  refine sMv F rfl rfl rfl ?_;clear F a;intro a F
  refine sBin F rfl rfl rfl rfl bLss ?_;clear F a;intro a F
  refine sNil ?_
  refine hK5 _ _ ?_; clear hK5
  refine cIf F rfl (fun h20 => ?_) (fun h20 => ?_)
  ·
   replace h20 := of_decide_eq_true h20
   have hix := idxI_lt.1 h20
   refine cSeq (fun K6 hK6 => ?_)
   refine cReg ?_
   refine sMv F rfl rfl rfl ?_;clear F a;intro a F
   refine sLen Try.underlying29 F rfl rfl rfl ?_;clear F a;intro a F
   refine sAs F rfl rfl rfl ?_;clear F a;intro a F
   refine sNil ?_
   refine hK6 _ _ ?_; clear hK6
   refine cSeq (fun K7 hK7 => ?_)
   refine cSeq (fun K8 hK8 => ?_)
   refine cReg ?_
   refine sMv F rfl rfl rfl ?_;clear F a;intro a F
   refine sNc F rfl rfl rfl ?_;clear F a;intro a F
   refine sFa (f := 2) (k := 4) Try.underlying59 rfl Try.sizeOf4 rfl rfl F rfl rfl rfl ?_;clear F a;intro a F
   refine sLd Try.isAgg4 F rfl rfl rfl (H.cell 0 rfl rfl) ?_;clear F a;intro a F
   refine sNil ?_
   refine hK8 _ _ ?_; clear hK8
   refine cIf F rfl (fun h26 => ?_) (fun h26 => ?_)
   ·
    refine cReg ?_
    refine sMv F rfl rfl rfl ?_;clear F a;intro a F
    refine sNc F rfl rfl rfl ?_;clear F a;intro a F
    refine sFa (f := 0) (k := 0) Try.underlying59 rfl Try.sizeOf57 rfl rfl F rfl rfl rfl ?_;clear F a;intro a F
    refine sCall Try.call27 F rfl rfl rfl (pplace_any hc (s := s) (by omega) H) ?_
    rintro e w ⟨rfl, H⟩
    refine ⟨_, rfl, ?_⟩
    clear F a; intro a F
    refine sCallP Try.call31 F rfl rfl rfl (fail_any _ 6 H) ?_
    rintro e w ⟨rfl, H⟩
    refine .inl ⟨_, rfl, ?_⟩
    exact And.intro F.nod (Ans.no (loc_fix hnm hix h26) H.tail.tail.tail)
   have hfx : ¬ c.fixed = true := by rw [h26]; exact Bool.false_ne_true
   refine wp_skip ?_
   refine hK7 _ _ ?_; clear hK7
   refine cSeq (fun K9 hK9 => ?_)
   refine cSeq (fun K10 hK10 => ?_)
   refine cReg ?_
   refine sMv F rfl rfl rfl ?_;clear F a;intro a F
   refine sBin F rfl rfl rfl rfl bEql ?_;clear F a;intro a F
   refine sNil ?_
   refine hK10 _ _ ?_; clear hK10
   refine cIf F rfl (fun h33 => ?_) (fun h33 => ?_)
   ·
    replace h33 := beqT h33
    have h6 : s.names.length = 6 := by omega
    refine cReg ?_
    refine sMv F rfl rfl rfl ?_;clear F a;intro a F
    refine sNc F rfl rfl rfl ?_;clear F a;intro a F
    refine sFa (f := 0) (k := 0) Try.underlying59 rfl Try.sizeOf57 rfl rfl F rfl rfl rfl ?_;clear F a;intro a F
    refine sCall Try.call27 F rfl rfl rfl (pplace_any hc (s := s) (by omega) H) ?_
    rintro e w ⟨rfl, H⟩
    refine ⟨_, rfl, ?_⟩
    clear F a; intro a F
    refine sCallP Try.call31 F rfl rfl rfl (fail_any _ 5 H) ?_
    rintro e w ⟨rfl, H⟩
    refine .inl ⟨_, rfl, ?_⟩
    exact And.intro F.nod (Ans.no (loc_full hnm hix hfx h6) H.tail.tail.tail)
   replace h33 := beqF h33
   have h6 : ¬ s.names.length = 6 := by omega
   rw [nms_false h26] at H
   refine wp_skip ?_
   refine hK9 _ _ ?_; clear hK9
   refine cRegRO (by kernel_rfl) H ?_
   replace H := H.drew
   refine eTakeF (k := 0) (i := 0) rfl (by kernel_rfl) F rfl rfl rfl (fun w => rMv F rfl) H (fun _ _ _ h => h) ?_;clear F a;intro a F
   refine eTakeF (k := 1) (i := 1) rfl (by kernel_rfl) F rfl rfl rfl (fun w => rMv F rfl) H (fun _ _ _ h => h) ?_;clear F a;intro a F
   refine eTake (k := 2) (i := 2) rfl (by kernel_rfl) F rfl rfl rfl rfl (fun w H => rNc F rfl) H (fun _ _ _ h => h) ?_;clear F a;intro a F
   refine eTakeF (k := 3) (i := 3) rfl (by kernel_rfl) F rfl rfl rfl (fun w => rFa (f := 1) (k := 3) Try.underlying59 rfl Try.sizeOf29 rfl rfl F rfl) H (fun _ _ _ h => h) ?_;clear F a;intro a F
   refine eTake (k := 4) (i := 4) rfl (by kernel_rfl) F rfl rfl rfl rfl (fun w H => rLd Try.isAgg29 F rfl (H.cell 0 rfl rfl)) H (fun _ _ _ h => h) ?_;clear F a;intro a F
   refine eTakeF (k := 5) (i := 5) rfl (by kernel_rfl) F rfl rfl rfl (fun w => rMv F rfl) H (fun _ _ _ h => h) ?_;clear F a;intro a F
   refine eTake (k := 6) (i := 6) rfl (by kernel_rfl) F rfl rfl rfl rfl (fun w H => rNc F rfl) H (fun _ _ _ h => h) ?_;clear F a;intro a F
   refine eTakeF (k := 7) (i := 7) rfl (by kernel_rfl) F rfl rfl rfl (fun w => rFa (f := 0) (k := 0) Try.underlying59 rfl Try.sizeOf57 rfl rfl F rfl) H (fun _ _ _ h => h) ?_;clear F a;intro a F
   refine eOne (k := 8) (i := 8) rfl (by kernel_rfl) F rfl (oCall Try.call43 F rfl rfl (pword_any hc (s := s) (by omega) H) ?_)
   rintro e w ⟨rfl, H⟩
   refine ⟨_, rfl, ?_⟩
   clear F a; intro a F
   refine eKeep H ?_
   refine eOne (k := 9) (i := 9) rfl (by kernel_rfl) F rfl (oBs1 H Try.underlying29 Try.sizeOf9 Try.zeroValue9 rfl F rfl rfl rfl ?_)
   clear F a H; intro b48 a w F H
   refine eKeep H.tail ?_
   refine eOne (k := 10) (i := 10) rfl (by kernel_rfl) F rfl (oApp1 (bytes := 16) H 3 Try.underlying29 Try.typeInfo9 rfl rfl rfl rfl rfl rfl F rfl rfl rfl rfl (H.whole 0 rfl) rfl ?s1 ?s2 ?_)
   case s1 => first | rfl | (repeat (first | exact one_nil | (apply one_cons; · first | rfl | assumption | exact one_bif rfl rfl)))
   case s2 => (simp only [strC, List.length_map]; omega)
   clear F a H; intro A49 c49 a w F H
   refine ePartO (by kernel_rfl) H ?_
   refine eTake (k := 11) (i := 11) rfl (by kernel_rfl) F rfl rfl rfl rfl (fun w H => rNc F rfl) H (fun _ _ _ h => h) ?_;clear F a;intro a F
   refine eTakeF (k := 12) (i := 12) rfl (by kernel_rfl) F rfl rfl rfl (fun w => rFa (f := 1) (k := 3) Try.underlying59 rfl Try.sizeOf29 rfl rfl F rfl) H (fun _ _ _ h => h) ?_;clear F a;intro a F
   refine eOne (k := 13) (i := 13) rfl (by kernel_rfl) F rfl (oSt H 1 Try.sizeOf29 F rfl rfl rfl rfl rfl ?_)
   clear H; intro w H
   refine ePartO (by kernel_rfl) H ?_
   refine eNil (k := 14) (by kernel_rfl) ?_
   rw [strC_snoc, strC_length] at H
   replace H : Own W none w (.blk bp (parC c A C ⟨s.pos, s.names ++ [c.word s.pos]⟩ A49 c49 X) 59 :: .held S A 3 (rowsT c.ts) :: .nms W c.fixed A49 c49 (s.names ++ [c.word s.pos]) :: rs) := by
     rw [nms_false h26]
     exact H.tail
   refine hK4 _ _ ?_; clear hK4
   refine cSeq (fun K11 hK11 => ?_)
   refine cReg ?_
   refine sMv F rfl rfl rfl ?_;clear F a;intro a F
   refine sNc F rfl rfl rfl ?_;clear F a;intro a F
   refine sFa (f := 0) (k := 0) Try.underlying59 rfl Try.sizeOf57 rfl rfl F rfl rfl rfl ?_;clear F a;intro a F
   refine sCall Try.call48 F rfl rfl rfl (pstep_any hc (by show s.pos ≤ _; omega) H) ?_
   rintro e w ⟨rfl, H⟩
   refine ⟨_, rfl, ?_⟩
   clear F a; intro a F
   refine sNil ?_
   refine hK11 _ _ ?_; clear hK11
   refine cSeq (fun K12 hK12 => ?_)
   refine cReg ?_
   refine sMv F rfl rfl rfl ?_;clear F a;intro a F
   refine sBin F rfl rfl rfl rfl (bRemN (j := 256) ?_) ?_
   focus omega
   clear F a; intro a F
   refine sCv Try.underlying3 Try.underlying5 F rfl rfl rfl (wrap8 _) ?_;clear F a;intro a F
   refine sAs F rfl rfl rfl ?_;clear F a;intro a F
   refine sNil ?_
   refine hK12 _ _ ?_; clear hK12
   refine wp_ret ?_
   refine bRet Try.results71 F rfl ?_
   first | exact Ans.ok (loc_old hnm hix) ⟨congrArg Ending.returned (b8_rem _), _, _, H⟩ | exact Ans.ok (loc_new hnm hix hfx h6) ⟨congrArg Ending.returned (b8_rem _), _, _, H⟩
  replace h20 := of_decide_eq_false h20
  obtain ⟨k, hix⟩ : ∃ k, idxOf (c.word s.pos) s.names 0 = some k := by
    cases hh : idxOf (c.word s.pos) s.names 0 with
    | none => exact absurd (idxI_lt.2 hh) (by omega)
    | some k => exact ⟨k, rfl⟩
  rw [hix, show idxI (some k) = (k : Int) from rfl] at F
  refine wp_skip ?_
  refine hK4 _ _ ?_; clear hK4
  refine cSeq (fun K13 hK13 => ?_)
  refine cReg ?_
  refine sMv F rfl rfl rfl ?_;clear F a;intro a F
  refine sNc F rfl rfl rfl ?_;clear F a;intro a F
  refine sFa (f := 0) (k := 0) Try.underlying59 rfl Try.sizeOf57 rfl rfl F rfl rfl rfl ?_;clear F a;intro a F
  refine sCall Try.call48 F rfl rfl rfl (pstep_any hc (by show s.pos ≤ _; omega) H) ?_
  rintro e w ⟨rfl, H⟩
  refine ⟨_, rfl, ?_⟩
  clear F a; intro a F
  refine sNil ?_
  refine hK13 _ _ ?_; clear hK13
  refine cSeq (fun K14 hK14 => ?_)
  refine cReg ?_
  refine sMv F rfl rfl rfl ?_;clear F a;intro a F
  refine sBin F rfl rfl rfl rfl (bRemN (j := 256) ?_) ?_
  focus omega
  clear F a; intro a F
  refine sCv Try.underlying3 Try.underlying5 F rfl rfl rfl (wrap8 _) ?_;clear F a;intro a F
  refine sAs F rfl rfl rfl ?_;clear F a;intro a F
  refine sNil ?_
  refine hK14 _ _ ?_; clear hK14
  refine wp_ret ?_
  refine bRet Try.results71 F rfl ?_
  first | exact Ans.ok (loc_old hnm hix) ⟨congrArg Ending.returned (b8_rem _), _, _, H⟩ | exact Ans.ok (loc_new hnm hix hfx h6) ⟨congrArg Ending.returned (b8_rem _), _, _, H⟩
end Go.Proofs.Ytbdjlmdejlklkaa
