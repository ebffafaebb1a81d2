/-
  WALK2. Package buffer: enabled, fits, Right. Conditions: the program lies in memory; the thread is in range.
-/
import Derived.Test.YtbgnapmaimkpkaaGreatDoorJn1
set_option linter.unusedSimpArgs false
set_option linter.unusedVariables false
namespace Go.Proofs.YtbgnapmaimkpkaaGreatDoor
open Go.Proofs.Tryz
open Go.RowKit
set_option maxRecDepth 100000
theorem nextI_none {p:Prg} {s:By} {t:Nat} {l:List Ins} (hl:p.threads[t]? = some l) (h:l.length≤(s (t * 9)).toNat):nextI p s t=none:=by
 unfold nextI;rw [hl];exact List.getElem?_eq_none h
set_option maxHeartbeats 2000000 in
theorem enabledM_any (cs:List Value) (p:Prg) (w0:World) (hP:ProgAt w0 cs p) (mc:UInt8) (s:By) (t:Nat) (l:List Ins) (ht:t < 4) (hl:p.threads[t]? = some l) :
   Calls Tryz.prog 106 #[.agg cs.toArray,Go.Proofs.YtbgnapmaimkpkaaGreatDoor.b8 mc,.agg (bs 142 s).toArray,.int .i64 (t:Int)] w0 fun e w'=>e = .returned (.bool (enabledM p mc s t))∧Below w0.heap.size w0 w':=by
 have H:=Own.start w0 none
 obtain ⟨LA,LC,IA,IC,TA,TC,h,ccs,hp⟩:=hP
 obtain ⟨c1,c2,c3,c4,c5,rfl⟩:=len5 (condAt_len hp.cond)
 have hcs:=hp.cs
 subst hcs
 obtain ⟨bT,oT,BT,CT,rfl,hT1,hT2,hT3⟩:=hp.threads t l hl
 have htl:t < p.threads.length:=(List.getElem?_eq_some_iff.1 hl).1
 refine enterF func106 rfl ntmps106 rfl (fun a F=>?_);refine cSR fun K1 hK1=>?_;refine sBx H F rfl rfl rfl ?_;clear F a H;intro b4 a w F H;refine sBxB H F rfl rfl rfl ?_;clear F a H;intro b6 a w F H;refine sAs F rfl rfl rfl (qNK hK1 (qSR fun K2 hK2=>qMv rfl rfl rfl (qFa (f:=0) (k:=0) underlying70 rfl sizeOf63 rfl rfl rfl rfl rfl ?_)));clear hK1;clear F a;intro a F
 refine sIaZ underlying63 sizeOf62 F rfl rfl rfl rfl ?_ ?_
 focus (first | omega | decide | (simp;omega))
 clear F a;intro a F;refine sFaZ (f:=0) underlying62 rfl sizeOf5 rfl rfl F rfl rfl rfl (qLd isAgg5 rfl rfl rfl (H.cellB 0 rfl (by omega)) (qCv underlying5 underlying3 rfl rfl rfl (wrapB _) (qAs rfl rfl rfl (qNK hK2 ?_))));clear hK2;clear F a;intro a F;refine cSeq (fun K3 hK3=>?_);refine cSR fun K4 hK4=>sMv F rfl rfl rfl (qFa (f:=3) (k:=3) underlying29 rfl sizeOf24 rfl rfl rfl rfl rfl (qLd isAgg24 rfl rfl rfl (H.cell 1 rfl rfl) (qMv rfl rfl rfl ?_)));clear F a;intro a F
 refine sIx underlying24 sizeOf33 F rfl rfl rfl rfl ?_ ?_
 focus (first | omega | decide | (simp;omega))
 clear F a;intro a F;refine sLd isAgg33 F rfl rfl rfl (H.arg hT1) (qLen underlying33 rfl rfl rfl (qBin rfl rfl rfl rfl bGeq (qNK hK4 ?_)));clear hK4;clear F a;intro a F
 refine cIf F rfl (fun h25=>?_) (fun h25=>?_)
 ·
  replace h25:=of_decide_eq_true h25
  have hno:=nextI_none (s:=s) hl (by omega)
  refine cSR fun K5 hK5=>sAs F rfl rfl rfl (qNK hK5 ?_);clear hK5;clear F a;intro a F;refine wp_ret ?_;simp only [Exit.then];refine bRet results106 F rfl ?_
  exact ⟨by first | (rw [enabledM,hno];done) | (rw [enabledM,hno];simp_all [readyI]),H.below⟩
 replace h25:=of_decide_eq_false h25
 obtain ⟨x,hx⟩:∃ x,l[(s (t * 9)).toNat]? = some x:=⟨_,List.getElem?_eq_getElem (by omega)⟩
 have hpcl:(s (t * 9)).toNat < l.length:=by omega
 obtain ⟨bI,oI,rfl,hI⟩:=hT2 (s (t * 9)).toNat x.cells (by rw [List.getElem?_map,hx];rfl)
 have hno:=nextI_at hl hx
 refine wp_skip (hK3 _ _ (cSR fun K6 hK6=>sFa (f:=3) (k:=3) underlying29 rfl sizeOf24 rfl rfl F rfl rfl rfl (qLd isAgg24 rfl rfl rfl (H.cell 1 rfl rfl) (qMv rfl rfl rfl ?_))));clear hK3;clear F a;intro a F
 refine sIx underlying24 sizeOf33 F rfl rfl rfl rfl ?_ ?_
 focus (first | omega | decide | (simp;omega))
 clear F a;intro a F;refine sLd isAgg33 F rfl rfl rfl (H.arg hT1) (qMv rfl rfl rfl ?_);clear F a;intro a F
 refine sIx underlying33 sizeOf37 F rfl rfl rfl rfl ?_ ?_
 focus exact hpcl
 clear F a;intro a F
 refine sLr underlying37 rfl ?si F rfl rfl rfl (H.argR hI) ?_
 case si=>exact info_size sizeOf37
 clear F a;intro a F;refine sAl H zeroValue37 F rfl rfl ?_;clear F a H;intro b10 a w F H
 refine sSr H 0 ?si F rfl rfl rfl ?s1 rfl rfl ?_
 case si=>exact info_size sizeOf37
 case s1=>first | rfl | (repeat (first | exact one_nil | (apply one_cons;· first | rfl | assumption | exact one_bif rfl rfl)))
 clear H;intro w H;refine nK hK6 ?_;clear hK6;refine cSeq (fun K7 hK7=>?_);refine cSR fun K8 hK8=>sFa (f:=0) (k:=0) underlying37 rfl sizeOf5 rfl rfl F rfl rfl rfl (qLd isAgg5 rfl rfl rfl (H.cell 0 rfl rfl) (qNK hK8 ?_));clear hK8;clear F a;intro a F;refine wp_block ?_;refine cSeq (fun K9 hK9=>?_);refine cSR fun K10 hK10=>sBin F rfl rfl rfl rfl (bEqlB (y:=4)) (qAs rfl rfl rfl (qNK hK10 ?_));clear hK10;clear F a;intro a F
 refine cIf F rfl (fun h36=>?_) (fun h36=>?_)
 ·
  replace h36:=beqT h36;refine wp_skip (hK9 _ _ ?_);clear hK9
  refine cIf F rfl (fun h36=>?_) (fun h36=>?_)
  ·
   replace h36:=beqT h36;refine cSR fun K11 hK11=>sMv F rfl rfl rfl (qFa (f:=3) (k:=138) underlying70 rfl sizeOf68 rfl rfl rfl rfl rfl ?_);clear F a;intro a F
   refine sIa1 underlying68 sizeOf5 F rfl rfl rfl rfl ?_ ?_
   focus (first | omega | decide | (simp;omega))
   clear F a;intro a F;refine sLd isAgg5 F rfl rfl rfl (H.cellB 1 rfl (by omega)) (qBin rfl rfl rfl rfl (bEqlB (y:=0)) (qAs rfl rfl rfl (qNK hK11 ?_)));clear hK11;clear F a;intro a F;refine wp_ret ?_;simp only [Exit.inBlock,Exit.then];refine bRet results106 F rfl ?_
   exact ⟨by first | (rw [enabledM,hno];done) | (rw [enabledM,hno];simp_all [readyI]),H.below⟩
  replace h36:=beqF h36;refine cSR fun K12 hK12=>sBin F rfl rfl rfl rfl (bEqlB (y:=7)) (qAs rfl rfl rfl (qNK hK12 ?_));clear hK12;clear F a;intro a F
  refine cIf F rfl (fun h45=>?_) (fun h45=>?_)
  ·
   replace h45:=beqT h45;refine cSR fun K13 hK13=>sFa (f:=6) (k:=8) underlying37 rfl sizeOf5 rfl rfl F rfl rfl rfl (qLd isAgg5 rfl rfl rfl (H.cell 0 rfl rfl) (qBin rfl rfl rfl rfl (bEqlB (y:=3)) (qMv rfl rfl rfl ?_)));clear F a;intro a F
   refine F.split 50 rfl ?_ ?_ <;> (clear F;intro h50 F)
   ·
    replace h50:=beqT h50;refine sSk F rfl rfl (qSk rfl rfl (qSk rfl rfl (qSk rfl rfl (qSk rfl rfl (qSk rfl rfl (qSk rfl rfl (qPk rfl rfl rfl rfl (qAs rfl rfl rfl (qNK hK13 (qSR fun K14 hK14=>qMv rfl rfl rfl (qNot rfl rfl rfl (qMv rfl rfl rfl (qMv rfl rfl rfl (qFa (f:=3) (k:=138) underlying70 rfl sizeOf68 rfl rfl rfl rfl rfl ?_))))))))))))));clear hK13;clear F a;intro a F
    refine sIa1 underlying68 sizeOf5 F rfl rfl rfl rfl ?_ ?_
    focus (first | omega | decide | (simp;omega))
    clear F a;intro a F;refine sLd isAgg5 F rfl rfl rfl (H.cellB 1 rfl (by omega)) (qBin rfl rfl rfl rfl (bEqlB (y:=0)) (qPk rfl rfl rfl rfl (qAs rfl rfl rfl (qNK hK14 ?_))));clear hK14;clear F a;intro a F;refine wp_ret ?_;simp only [Exit.inBlock,Exit.then];refine bRet results106 F rfl ?_
    exact ⟨by first | (rw [enabledM,hno];done) | (rw [enabledM,hno];simp_all [readyI]),H.below⟩
   replace h50:=beqF h50;refine sMv F rfl rfl rfl (qBin rfl rfl rfl rfl (bEqlB (y:=3)) (qMv rfl rfl rfl ?_));clear F a;intro a F
   refine F.split 53 rfl ?_ ?_ <;> (clear F;intro h53 F)
   ·
    replace h53:=beqT h53;refine sFa (f:=6) (k:=8) underlying37 rfl sizeOf5 rfl rfl F rfl rfl rfl (qLd isAgg5 rfl rfl rfl (H.cell 0 rfl rfl) (qBin rfl rfl rfl rfl (bEqlB (y:=5)) (qPk rfl rfl rfl rfl (qPk rfl rfl rfl rfl (qAs rfl rfl rfl (qNK hK13 (qSR fun K15 hK15=>qMv rfl rfl rfl (qNot rfl rfl rfl (qMv rfl rfl rfl ?_)))))))));clear hK13;clear F a;intro a F
    refine F.split 61 rfl ?_ ?_ <;> (clear F;intro h61 F)
    ·
     replace h61:=notT h61;replace h61:=beqF h61;refine sSk F rfl rfl (qSk rfl rfl (qSk rfl rfl (qSk rfl rfl (qSk rfl rfl (qPk rfl rfl rfl rfl (qAs rfl rfl rfl (qNK hK15 ?_)))))));clear hK15;clear F a;intro a F;refine wp_ret ?_;simp only [Exit.inBlock,Exit.then];refine bRet results106 F rfl ?_
     exact ⟨by first | (rw [enabledM,hno];done) | (rw [enabledM,hno];simp_all [readyI]),H.below⟩
    replace h61:=notF h61;replace h61:=beqT h61;refine sMv F rfl rfl rfl (qFa (f:=3) (k:=138) underlying70 rfl sizeOf68 rfl rfl rfl rfl rfl ?_);clear F a;intro a F
    refine sIa1 underlying68 sizeOf5 F rfl rfl rfl rfl ?_ ?_
    focus (first | omega | decide | (simp;omega))
    clear F a;intro a F;refine sLd isAgg5 F rfl rfl rfl (H.cellB 1 rfl (by omega)) (qBin rfl rfl rfl rfl (bEqlB (y:=0)) (qPk rfl rfl rfl rfl (qAs rfl rfl rfl (qNK hK15 ?_))));clear hK15;clear F a;intro a F;refine wp_ret ?_;simp only [Exit.inBlock,Exit.then];refine bRet results106 F rfl ?_
    exact ⟨by first | (rw [enabledM,hno];done) | (rw [enabledM,hno];simp_all [readyI]),H.below⟩
   replace h53:=beqF h53;refine sSk F rfl rfl (qSk rfl rfl (qSk rfl rfl (qPk rfl rfl rfl rfl (qPk rfl rfl rfl rfl (qAs rfl rfl rfl (qNK hK13 (qSR fun K16 hK16=>qMv rfl rfl rfl (qNot rfl rfl rfl (qMv rfl rfl rfl (qSk rfl rfl (qSk rfl rfl (qSk rfl rfl (qSk rfl rfl (qSk rfl rfl (qPk rfl rfl rfl rfl (qAs rfl rfl rfl (qNK hK16 ?_)))))))))))))))));clear hK13 hK16;clear F a;intro a F;refine wp_ret ?_;simp only [Exit.inBlock,Exit.then];refine bRet results106 F rfl ?_
   exact ⟨by first | (rw [enabledM,hno];done) | (rw [enabledM,hno];simp_all [readyI]),H.below⟩
  replace h45:=beqF h45;refine wp_skip (hK7 _ _ (cSR fun K17 hK17=>sAs F rfl rfl rfl (qNK hK17 ?_)));clear hK7 hK17;clear F a;intro a F;refine wp_ret ?_;refine bRet results106 F rfl ?_
  exact ⟨by first | (rw [enabledM,hno];done) | (rw [enabledM,hno];simp_all [readyI]),H.below⟩
 replace h36:=beqF h36;refine cSR fun K18 hK18=>sBin F rfl rfl rfl rfl (bEqlB (y:=5)) (qAs rfl rfl rfl (qNK hK18 ?_));clear hK18;clear F a;intro a F
 refine cIf F rfl (fun h36=>?_) (fun h36=>?_)
 ·
  replace h36:=beqT h36;refine wp_skip (hK9 _ _ ?_);clear hK9
  refine cIf F rfl (fun h36=>?_) (fun h36=>?_)
  ·
   replace h36:=beqT h36;refine cSR fun K19 hK19=>sMv F rfl rfl rfl (qFa (f:=3) (k:=138) underlying70 rfl sizeOf68 rfl rfl rfl rfl rfl ?_);clear F a;intro a F
   refine sIa1 underlying68 sizeOf5 F rfl rfl rfl rfl ?_ ?_
   focus (first | omega | decide | (simp;omega))
   clear F a;intro a F;refine sLd isAgg5 F rfl rfl rfl (H.cellB 1 rfl (by omega)) (qBin rfl rfl rfl rfl (bEqlB (y:=0)) (qAs rfl rfl rfl (qNK hK19 ?_)));clear hK19;clear F a;intro a F;refine wp_ret ?_;simp only [Exit.inBlock,Exit.then];refine bRet results106 F rfl ?_
   exact ⟨by first | (rw [enabledM,hno];done) | (rw [enabledM,hno];simp_all [readyI]),H.below⟩
  replace h36:=beqF h36;refine cSR fun K20 hK20=>sBin F rfl rfl rfl rfl (bEqlB (y:=7)) (qAs rfl rfl rfl (qNK hK20 ?_));clear hK20;clear F a;intro a F
  refine cIf F rfl (fun h45=>?_) (fun h45=>?_)
  ·
   replace h45:=beqT h45;refine cSR fun K21 hK21=>sFa (f:=6) (k:=8) underlying37 rfl sizeOf5 rfl rfl F rfl rfl rfl (qLd isAgg5 rfl rfl rfl (H.cell 0 rfl rfl) (qBin rfl rfl rfl rfl (bEqlB (y:=3)) (qMv rfl rfl rfl ?_)));clear F a;intro a F
   refine F.split 50 rfl ?_ ?_ <;> (clear F;intro h50 F)
   ·
    replace h50:=beqT h50;refine sSk F rfl rfl (qSk rfl rfl (qSk rfl rfl (qSk rfl rfl (qSk rfl rfl (qSk rfl rfl (qSk rfl rfl (qPk rfl rfl rfl rfl (qAs rfl rfl rfl (qNK hK21 (qSR fun K22 hK22=>qMv rfl rfl rfl (qNot rfl rfl rfl (qMv rfl rfl rfl (qMv rfl rfl rfl (qFa (f:=3) (k:=138) underlying70 rfl sizeOf68 rfl rfl rfl rfl rfl ?_))))))))))))));clear hK21;clear F a;intro a F
    refine sIa1 underlying68 sizeOf5 F rfl rfl rfl rfl ?_ ?_
    focus (first | omega | decide | (simp;omega))
    clear F a;intro a F;refine sLd isAgg5 F rfl rfl rfl (H.cellB 1 rfl (by omega)) (qBin rfl rfl rfl rfl (bEqlB (y:=0)) (qPk rfl rfl rfl rfl (qAs rfl rfl rfl (qNK hK22 ?_))));clear hK22;clear F a;intro a F;refine wp_ret ?_;simp only [Exit.inBlock,Exit.then];refine bRet results106 F rfl ?_
    exact ⟨by first | (rw [enabledM,hno];done) | (rw [enabledM,hno];simp_all [readyI]),H.below⟩
   replace h50:=beqF h50;refine sMv F rfl rfl rfl (qBin rfl rfl rfl rfl (bEqlB (y:=3)) (qMv rfl rfl rfl ?_));clear F a;intro a F
   refine F.split 53 rfl ?_ ?_ <;> (clear F;intro h53 F)
   ·
    replace h53:=beqT h53;refine sFa (f:=6) (k:=8) underlying37 rfl sizeOf5 rfl rfl F rfl rfl rfl (qLd isAgg5 rfl rfl rfl (H.cell 0 rfl rfl) (qBin rfl rfl rfl rfl (bEqlB (y:=5)) (qPk rfl rfl rfl rfl (qPk rfl rfl rfl rfl (qAs rfl rfl rfl (qNK hK21 (qSR fun K23 hK23=>qMv rfl rfl rfl (qNot rfl rfl rfl (qMv rfl rfl rfl ?_)))))))));clear hK21;clear F a;intro a F
    refine F.split 61 rfl ?_ ?_ <;> (clear F;intro h61 F)
    ·
     replace h61:=notT h61;replace h61:=beqF h61;refine sSk F rfl rfl (qSk rfl rfl (qSk rfl rfl (qSk rfl rfl (qSk rfl rfl (qPk rfl rfl rfl rfl (qAs rfl rfl rfl (qNK hK23 ?_)))))));clear hK23;clear F a;intro a F;refine wp_ret ?_;simp only [Exit.inBlock,Exit.then];refine bRet results106 F rfl ?_
     exact ⟨by first | (rw [enabledM,hno];done) | (rw [enabledM,hno];simp_all [readyI]),H.below⟩
    replace h61:=notF h61;replace h61:=beqT h61;refine sMv F rfl rfl rfl (qFa (f:=3) (k:=138) underlying70 rfl sizeOf68 rfl rfl rfl rfl rfl ?_);clear F a;intro a F
    refine sIa1 underlying68 sizeOf5 F rfl rfl rfl rfl ?_ ?_
    focus (first | omega | decide | (simp;omega))
    clear F a;intro a F;refine sLd isAgg5 F rfl rfl rfl (H.cellB 1 rfl (by omega)) (qBin rfl rfl rfl rfl (bEqlB (y:=0)) (qPk rfl rfl rfl rfl (qAs rfl rfl rfl (qNK hK23 ?_))));clear hK23;clear F a;intro a F;refine wp_ret ?_;simp only [Exit.inBlock,Exit.then];refine bRet results106 F rfl ?_
    exact ⟨by first | (rw [enabledM,hno];done) | (rw [enabledM,hno];simp_all [readyI]),H.below⟩
   replace h53:=beqF h53;refine sSk F rfl rfl (qSk rfl rfl (qSk rfl rfl (qPk rfl rfl rfl rfl (qPk rfl rfl rfl rfl (qAs rfl rfl rfl (qNK hK21 (qSR fun K24 hK24=>qMv rfl rfl rfl (qNot rfl rfl rfl (qMv rfl rfl rfl (qSk rfl rfl (qSk rfl rfl (qSk rfl rfl (qSk rfl rfl (qSk rfl rfl (qPk rfl rfl rfl rfl (qAs rfl rfl rfl (qNK hK24 ?_)))))))))))))))));clear hK21 hK24;clear F a;intro a F;refine wp_ret ?_;simp only [Exit.inBlock,Exit.then];refine bRet results106 F rfl ?_
   exact ⟨by first | (rw [enabledM,hno];done) | (rw [enabledM,hno];simp_all [readyI]),H.below⟩
  replace h45:=beqF h45;refine wp_skip (hK7 _ _ (cSR fun K25 hK25=>sAs F rfl rfl rfl (qNK hK25 ?_)));clear hK7 hK25;clear F a;intro a F;refine wp_ret ?_;refine bRet results106 F rfl ?_
  exact ⟨by first | (rw [enabledM,hno];done) | (rw [enabledM,hno];simp_all [readyI]),H.below⟩
 replace h36:=beqF h36;refine cReg (sBin F rfl rfl rfl rfl (bEqlB (y:=6)) (qAs rfl rfl rfl (qNK hK9 ?_)));clear hK9;clear F a;intro a F
 refine cIf F rfl (fun h36=>?_) (fun h36=>?_)
 ·
  replace h36:=beqT h36;refine cSR fun K26 hK26=>sMv F rfl rfl rfl (qFa (f:=3) (k:=138) underlying70 rfl sizeOf68 rfl rfl rfl rfl rfl ?_);clear F a;intro a F
  refine sIa1 underlying68 sizeOf5 F rfl rfl rfl rfl ?_ ?_
  focus (first | omega | decide | (simp;omega))
  clear F a;intro a F;refine sLd isAgg5 F rfl rfl rfl (H.cellB 1 rfl (by omega)) (qBin rfl rfl rfl rfl (bEqlB (y:=0)) (qAs rfl rfl rfl (qNK hK26 ?_)));clear hK26;clear F a;intro a F;refine wp_ret ?_;simp only [Exit.inBlock,Exit.then];refine bRet results106 F rfl ?_
  exact ⟨by first | (rw [enabledM,hno];done) | (rw [enabledM,hno];simp_all [readyI]),H.below⟩
 replace h36:=beqF h36;refine cSR fun K27 hK27=>sBin F rfl rfl rfl rfl (bEqlB (y:=7)) (qAs rfl rfl rfl (qNK hK27 ?_));clear hK27;clear F a;intro a F
 refine cIf F rfl (fun h45=>?_) (fun h45=>?_)
 ·
  replace h45:=beqT h45;refine cSR fun K28 hK28=>sFa (f:=6) (k:=8) underlying37 rfl sizeOf5 rfl rfl F rfl rfl rfl (qLd isAgg5 rfl rfl rfl (H.cell 0 rfl rfl) (qBin rfl rfl rfl rfl (bEqlB (y:=3)) (qMv rfl rfl rfl ?_)));clear F a;intro a F
  refine F.split 50 rfl ?_ ?_ <;> (clear F;intro h50 F)
  ·
   replace h50:=beqT h50;refine sSk F rfl rfl (qSk rfl rfl (qSk rfl rfl (qSk rfl rfl (qSk rfl rfl (qSk rfl rfl (qSk rfl rfl (qPk rfl rfl rfl rfl (qAs rfl rfl rfl (qNK hK28 (qSR fun K29 hK29=>qMv rfl rfl rfl (qNot rfl rfl rfl (qMv rfl rfl rfl (qMv rfl rfl rfl (qFa (f:=3) (k:=138) underlying70 rfl sizeOf68 rfl rfl rfl rfl rfl ?_))))))))))))));clear hK28;clear F a;intro a F
   refine sIa1 underlying68 sizeOf5 F rfl rfl rfl rfl ?_ ?_
   focus (first | omega | decide | (simp;omega))
   clear F a;intro a F;refine sLd isAgg5 F rfl rfl rfl (H.cellB 1 rfl (by omega)) (qBin rfl rfl rfl rfl (bEqlB (y:=0)) (qPk rfl rfl rfl rfl (qAs rfl rfl rfl (qNK hK29 ?_))));clear hK29;clear F a;intro a F;refine wp_ret ?_;simp only [Exit.inBlock,Exit.then];refine bRet results106 F rfl ?_
   exact ⟨by first | (rw [enabledM,hno];done) | (rw [enabledM,hno];simp_all [readyI]),H.below⟩
  replace h50:=beqF h50;refine sMv F rfl rfl rfl (qBin rfl rfl rfl rfl (bEqlB (y:=3)) (qMv rfl rfl rfl ?_));clear F a;intro a F
  refine F.split 53 rfl ?_ ?_ <;> (clear F;intro h53 F)
  ·
   replace h53:=beqT h53;refine sFa (f:=6) (k:=8) underlying37 rfl sizeOf5 rfl rfl F rfl rfl rfl (qLd isAgg5 rfl rfl rfl (H.cell 0 rfl rfl) (qBin rfl rfl rfl rfl (bEqlB (y:=5)) (qPk rfl rfl rfl rfl (qPk rfl rfl rfl rfl (qAs rfl rfl rfl (qNK hK28 (qSR fun K30 hK30=>qMv rfl rfl rfl (qNot rfl rfl rfl (qMv rfl rfl rfl ?_)))))))));clear hK28;clear F a;intro a F
   refine F.split 61 rfl ?_ ?_ <;> (clear F;intro h61 F)
   ·
    replace h61:=notT h61;replace h61:=beqF h61;refine sSk F rfl rfl (qSk rfl rfl (qSk rfl rfl (qSk rfl rfl (qSk rfl rfl (qPk rfl rfl rfl rfl (qAs rfl rfl rfl (qNK hK30 ?_)))))));clear hK30;clear F a;intro a F;refine wp_ret ?_;simp only [Exit.inBlock,Exit.then];refine bRet results106 F rfl ?_
    exact ⟨by first | (rw [enabledM,hno];done) | (rw [enabledM,hno];simp_all [readyI]),H.below⟩
   replace h61:=notF h61;replace h61:=beqT h61;refine sMv F rfl rfl rfl (qFa (f:=3) (k:=138) underlying70 rfl sizeOf68 rfl rfl rfl rfl rfl ?_);clear F a;intro a F
   refine sIa1 underlying68 sizeOf5 F rfl rfl rfl rfl ?_ ?_
   focus (first | omega | decide | (simp;omega))
   clear F a;intro a F;refine sLd isAgg5 F rfl rfl rfl (H.cellB 1 rfl (by omega)) (qBin rfl rfl rfl rfl (bEqlB (y:=0)) (qPk rfl rfl rfl rfl (qAs rfl rfl rfl (qNK hK30 ?_))));clear hK30;clear F a;intro a F;refine wp_ret ?_;simp only [Exit.inBlock,Exit.then];refine bRet results106 F rfl ?_
   exact ⟨by first | (rw [enabledM,hno];done) | (rw [enabledM,hno];simp_all [readyI]),H.below⟩
  replace h53:=beqF h53;refine sSk F rfl rfl (qSk rfl rfl (qSk rfl rfl (qPk rfl rfl rfl rfl (qPk rfl rfl rfl rfl (qAs rfl rfl rfl (qNK hK28 (qSR fun K31 hK31=>qMv rfl rfl rfl (qNot rfl rfl rfl (qMv rfl rfl rfl (qSk rfl rfl (qSk rfl rfl (qSk rfl rfl (qSk rfl rfl (qSk rfl rfl (qPk rfl rfl rfl rfl (qAs rfl rfl rfl (qNK hK31 ?_)))))))))))))))));clear hK28 hK31;clear F a;intro a F;refine wp_ret ?_;simp only [Exit.inBlock,Exit.then];refine bRet results106 F rfl ?_
  exact ⟨by first | (rw [enabledM,hno];done) | (rw [enabledM,hno];simp_all [readyI]),H.below⟩
 replace h45:=beqF h45;refine wp_skip (hK7 _ _ (cSR fun K32 hK32=>sAs F rfl rfl rfl (qNK hK32 ?_)));clear hK7 hK32;clear F a;intro a F;refine wp_ret ?_;refine bRet results106 F rfl ?_
 exact ⟨by first | (rw [enabledM,hno];done) | (rw [enabledM,hno];simp_all [readyI]),H.below⟩
theorem slot_same {s:By} {t j:Nat}:same 2 (cut (cut s (42+t * 24)) (j * 2)) zb=(bLoc s t j == 0 && bVal s t j == 0):=by
 rw [Bool.eq_iff_iff,same_iff,Bool.and_eq_true,beq_iff_eq,beq_iff_eq]
 refine ⟨fun h=>⟨h 0 (by omega),h 1 (by omega)⟩,fun h i hi=>?_⟩
 match i,hi with
 | 0,_=>exact h.1
 | 1,_=>exact h.2
 | i+2,hi=>omega
theorem slot_hi {p:Prg} {m:UInt8} {s:By} {t j:Nat} (h:manyB s t≤j) (he:same 2 (cut (cut s (42+t * 24)) (j * 2)) zb=true):slotOk p m s t j=true:=by
 unfold slotOk;rw [if_pos h,← slot_same];exact he
theorem slot_hi' {p:Prg} {m:UInt8} {s:By} {t j:Nat} (h:manyB s t≤j) (he:same 2 (cut (cut s (42+t * 24)) (j * 2)) zb=false):slotOk p m s t j=false:=by
 unfold slotOk;rw [if_pos h,← slot_same];exact he
theorem slot_lo {p:Prg} {m:UInt8} {s:By} {t j:Nat} (h:¬ manyB s t≤j) (hl:¬ (p.locs.length:Int)≤((bLoc s t j).toNat:Int)) (ho:¬ (m=3∧0 < j∧bLoc s t j < bLoc s t (j - 1))):slotOk p m s t j=true:=by
 unfold slotOk
 rw [if_neg h]
 simp only [Bool.and_eq_true,decide_eq_true_eq,Bool.not_eq_true',Bool.and_eq_false_iff,beq_eq_false_iff_ne,decide_eq_false_iff_not]
 refine ⟨by omega,?_⟩
 by_cases h1:m=3
 · by_cases h2:0 < j
   · exact .inr (fun h3=>ho ⟨h1,h2,h3⟩)
   · exact .inl (.inr h2)
 · exact .inl (.inl h1)
theorem slot_lo1 {p:Prg} {m:UInt8} {s:By} {t j:Nat} (h:¬ manyB s t≤j) (hl:(p.locs.length:Int)≤((bLoc s t j).toNat:Int)):slotOk p m s t j=false:=by
 unfold slotOk
 rw [if_neg h,decide_eq_false (by omega),Bool.false_and]
theorem slot_lo2 {p:Prg} {m:UInt8} {s:By} {t j:Nat} (h:¬ manyB s t≤j) (h1:m=3) (h2:0 < j) (h3:bLoc s t j < bLoc s t (j - 1)):slotOk p m s t j=false:=by
 unfold slotOk
 rw [if_neg h,decide_eq_true h2,decide_eq_true h3,h1]
 simp
theorem fits_ret {p:Prg} {m:UInt8} {s:By} {t:Nat} {b:Bool} (h:fitsP p m s t=b):Ending.returned (.bool b) = .returned (.bool (fitsP p m s t)):=by rw [h]
theorem fits_most {p:Prg} {m:UInt8} {s:By} {t:Nat} (h:¬ manyB s t≤mostB p m s t):fitsP p m s t=false:=by rw [fitsP,decide_eq_false h];rfl
theorem fits_all {p:Prg} {m:UInt8} {s:By} {t:Nat} (h:manyB s t≤mostB p m s t) (hok:∀ i,i < 12→slotOk p m s t i=true):fitsP p m s t=true:=by rw [fitsP,decide_eq_true h,allB_true hok];rfl
theorem fits_no {p:Prg} {m:UInt8} {s:By} {t j:Nat} (hj:j < 12) (h:slotOk p m s t j=false):fitsP p m s t=false:=by rw [fitsP,allB_false hj h,Bool.and_false]
set_option maxHeartbeats 4000000 in
theorem fits_any (cs:List Value) (p:Prg) (w0:World) (hP:ProgAt w0 cs p) (mc:UInt8) (s:By) (t:Nat) (ht:t < 4) :
   Calls Tryz.prog 105 #[.agg cs.toArray,Go.Proofs.YtbgnapmaimkpkaaGreatDoor.b8 mc,.agg (bs 142 s).toArray,.int .i64 (t:Int)] w0 fun e w'=>e = .returned (.bool (fitsP p mc s t))∧Below w0.heap.size w0 w':=by
 have H:=Own.start w0 none
 obtain ⟨LA,LC,IA,IC,TA,TC,h,ccs,hp⟩:=hP
 obtain ⟨c1,c2,c3,c4,c5,rfl⟩:=len5 (condAt_len hp.cond)
 have hcs:=hp.cs
 subst hcs
 have hmy:manyB s t=(s (138+t)).toNat:=rfl
 refine enterF func105 rfl ntmps105 rfl (fun a F=>?_);refine cSR fun K1 hK1=>?_;refine sBx H F rfl rfl rfl ?_;clear F a H;intro b4 a w F H;refine sBxB H F rfl rfl rfl ?_;clear F a H;intro b6 a w F H;refine sAs F rfl rfl rfl (qNK hK1 ?_);clear hK1;clear F a;intro a F;refine cSeq (fun K2 hK2=>?_);refine cRegRO (by kernel_rfl) H ?_;replace H:=H.drew;refine eTF 0 rfl (by kernel_rfl) F rfl rfl rfl (fun w=>rMv F rfl) H qq0 (qTF 1 rfl (by kernel_rfl) rfl rfl rfl (fun a F w=>rFa (f:=3) (k:=138) underlying70 rfl sizeOf68 rfl rfl F rfl) H qq0 ?_);clear F a;intro a F
 refine eTakeF (k:=2) (i:=2) rfl (by kernel_rfl) F rfl rfl rfl (fun w=>rIa1 underlying68 sizeOf5 F rfl rfl ?_) H (fun _ _ _ h=>h) ?_
 focus (first | omega | decide | (simp;omega))
 clear F a;intro a F;refine eT 3 rfl (by kernel_rfl) F rfl rfl rfl rfl (fun w H=>rLd isAgg5 F rfl (H.cellB 0 rfl (by omega))) H qq0 (qTF 4 rfl (by kernel_rfl) rfl rfl rfl (fun a F w=>rCv underlying5 underlying3 F rfl (wrapB _)) H qq0 (qTF 5 rfl (by kernel_rfl) rfl rfl rfl (fun a F w=>rAs F rfl) H qq0 (qTF 6 rfl (by kernel_rfl) rfl rfl rfl (fun a F w=>rAs F rfl) H qq0 ?_)));clear F a;intro a F;refine eNil (k:=7) (by kernel_rfl) ?_;refine hK2 _ _ ?_;clear hK2;refine cSeq (fun K3 hK3=>?_);refine cSR fun K4 hK4=>sMv F rfl rfl rfl (qBin rfl rfl rfl rfl (bNeqB (y:=1)) (qMv rfl rfl rfl ?_));clear F a;intro a F
 refine F.split 20 rfl ?_ ?_ <;> (clear F;intro h20 F)
 ·
  replace h20:=bneT h20;refine sMv F rfl rfl rfl (qFa (f:=3) (k:=3) underlying29 rfl sizeOf24 rfl rfl rfl rfl rfl (qLd isAgg24 rfl rfl rfl (H.cell 1 rfl rfl) (qLen underlying24 rfl rfl rfl (qBin rfl rfl rfl rfl bLss (qPk rfl rfl rfl rfl (qNK hK4 ?_))))));clear hK4;clear F a;intro a F
  refine cIf F rfl (fun h26=>?_) (fun h26=>?_)
  ·
   replace h26:=of_decide_eq_true h26
   have hmb:mostB p mc s t=(s (t * 9)).toNat:=if_pos ⟨h20,by omega⟩
   refine cReg (sMv F rfl rfl rfl (qFa (f:=0) (k:=0) underlying70 rfl sizeOf63 rfl rfl rfl rfl rfl ?_));clear F a;intro a F
   refine sIaZ underlying63 sizeOf62 F rfl rfl rfl rfl ?_ ?_
   focus (first | omega | decide | (simp;omega))
   clear F a;intro a F;refine sFaZ (f:=0) underlying62 rfl sizeOf5 rfl rfl F rfl rfl rfl (qLd isAgg5 rfl rfl rfl (H.cellB 0 rfl (by omega)) (qCv underlying5 underlying3 rfl rfl rfl (wrapB _) (qAs rfl rfl rfl (qNK hK3 ?_))));clear hK3;clear F a;intro a F;refine cSeq (fun K5 hK5=>?_);refine cSR fun K6 hK6=>sMv F rfl rfl rfl (qMv rfl rfl rfl (qBin rfl rfl rfl rfl bGtr (qNK hK6 ?_)));clear hK6;clear F a;intro a F
   refine cIf F rfl (fun h35=>?_) (fun h35=>?_)
   ·
    replace h35:=of_decide_eq_true h35
    have hmo:¬ manyB s t≤mostB p mc s t:=by rw [hmb];omega
    refine cSR fun K7 hK7=>sAs F rfl rfl rfl (qNK hK7 ?_);clear hK7;clear F a;intro a F;refine wp_ret ?_;simp only [Exit.then];refine bRet results105 F rfl ?_
    refine ⟨?_,H.below⟩
    clear F H
    first
      | exact fits_ret (fits_most hmo)
      | exact fits_ret (fits_all hmo hok)
      | exact fits_ret (fits_no (show j < 12 by omega) (slot_hi' (by omega) h49))
      | exact fits_ret (fits_no (show j < 12 by omega) (slot_lo1 (by omega) h56))
      | exact fits_ret (fits_no (show j < 12 by omega) (slot_lo2 (by omega) h59 (by omega) h75))
   replace h35:=of_decide_eq_false h35
   have hmo:manyB s t≤mostB p mc s t:=by rw [hmb];omega
   refine wp_skip (hK5 _ _ ?_);clear hK5;refine cSeq (fun K8 hK8=>?_);refine cSR fun K9 hK9=>sMv F rfl rfl rfl (qFa (f:=2) (k:=42) underlying70 rfl sizeOf67 rfl rfl rfl rfl rfl ?_);clear F a;intro a F
   refine sIa underlying67 sizeOf66 F rfl rfl rfl rfl ?_ ?_
   focus (first | omega | decide | (simp;omega))
   clear F a;intro a F;refine sLrB underlying66 rfl sizeOf66 F rfl rfl rfl (H.rangeB 0 _ 24 rfl (by omega)) (qMv rfl rfl rfl (qNK hK9 ?_));clear hK9;clear F a;intro a F;refine wp_block ?_
   refine cLoopR [1,3,4,6,10,39] (fun m ups w=>∃ j:Nat,m=12 - j∧ups=[(40,.int .i64 ((j:Nat):Int))]∧j≤12∧(∀ i,i < j→slotOk p mc s t i=true)∧Own w0 none w [.blk b6 (bs 142 s) 70,.blk b4 ([.string p.name,.slice LA p.locs.length LC,.slice IA p.init.length IC,.slice TA p.threads.length TC,b8 p.ask]++[c1,c2,c3,c4,c5]) 29]) F (12) [(40,.int .i64 ((0:Nat):Int))] (by repeat (first | exact SubR.nil | (apply SubR.cons;· rfl))) ?_ ?_ ?_
   · exact ⟨0,rfl,rfl,by omega,fun i hi=>absurd hi (by omega),H.sel [0,1] rfl rfl⟩
   · repeat (first | exact trivial | refine Le.cons rfl ?_)
   clear F
   clear H
   intro m ups a w hI F
   obtain ⟨j,rfl,rfl,hj,hok,H⟩:=hI
   refine cSR fun K10 hK10=>sBin F rfl rfl rfl rfl bLss (qNK hK10 ?_);clear hK10;clear F a;intro a F;refine cSeq (fun K11 hK11=>?_)
   refine cIf F rfl (fun h41=>?_) (fun h41=>?_)
   ·
    replace h41:=of_decide_eq_true h41;refine wp_skip (hK11 _ _ ?_);clear hK11;refine cSeq (fun K12 hK12=>?_);refine wp_block ?_;refine cSR fun K13 hK13=>sMv F rfl rfl rfl ?_;clear F a;intro a F
    refine sIdA underlying66 sizeOf65 isAgg65 F rfl rfl rfl rfl ?_ ?_ ?_
    focus omega
    focus omega
    clear F a;intro a F;refine sAlB H zB65 F rfl rfl ?_;clear F a H;intro b12 a w F H;refine sAs F rfl rfl rfl ?_;clear F a;intro a F;refine sSrB H 0 sizeOf65 F rfl rfl rfl rfl (by omega) ?_;clear H;intro w H;rw [lay_all] at H;refine nK hK13 ?_;clear hK13;refine cSeq (fun K14 hK14=>?_);refine cSR fun K15 hK15=>sMv F rfl rfl rfl (qMv rfl rfl rfl (qBin rfl rfl rfl rfl bGeq (qNK hK15 ?_)));clear hK15;clear F a;intro a F
    refine cIf F rfl (fun h46=>?_) (fun h46=>?_)
    ·
     replace h46:=of_decide_eq_true h46;refine cSeq (fun K16 hK16=>?_);refine cSR fun K17 hK17=>sLrB underlying65 rfl sizeOf65 F rfl rfl rfl (H.whole 0 rfl) (qBdB (places:=[(0,1),(1,1)]) zB65 underlying65 (by kernel_rfl) rfl rfl rfl FillB.nil (qBin rfl rfl rfl rfl (bNeY eT65 gT65 rfl) (qNK hK17 ?_)));clear hK17;clear F a;intro a F
     refine cIf F rfl (fun h49=>?_) (fun h49=>?_)
     ·
      replace h49:=notT h49;refine cSR fun K18 hK18=>sAs F rfl rfl rfl (qNK hK18 ?_);clear hK18;clear F a;intro a F;refine wp_ret ?_;simp only [Exit.inBlock,Exit.then];refine bRet results105 F rfl ?_
      refine ⟨?_,H.below⟩
      clear F H
      first
        | exact fits_ret (fits_most hmo)
        | exact fits_ret (fits_all hmo hok)
        | exact fits_ret (fits_no (show j < 12 by omega) (slot_hi' (by omega) h49))
        | exact fits_ret (fits_no (show j < 12 by omega) (slot_lo1 (by omega) h56))
        | exact fits_ret (fits_no (show j < 12 by omega) (slot_lo2 (by omega) h59 (by omega) h75))
     replace h49:=notF h49;refine wp_skip (hK16 _ _ ?_);clear hK16;refine wp_exit ?_;refine hK12 _ _ (cReg ?_);clear hK12
     refine sBin F rfl rfl rfl rfl (bAddN (j:=1) ?_) ?_
     focus omega
     clear F a;intro a F;refine sMv F rfl rfl rfl ?_;clear F a;intro a F;refine sNil ?_
     (have hsl:slotOk p mc s t j=true:=by
       first
        | exact slot_hi (by omega) h49
        | exact slot_lo (by omega) h56 (fun hh=>h59 hh.1)
        | exact slot_lo (by omega) h56 (fun hh=>absurd hh.2.1 (by omega))
        | exact slot_lo (by omega) h56 (fun hh=>h75 hh.2.2)
      exact ⟨_,by omega,_,⟨j+1,rfl,rfl,by omega,below_succ hok hsl,H.sel [1,2] rfl rfl⟩,F.to (by repeat (first | exact trivial | refine Le.cons rfl ?_))⟩)
    replace h46:=of_decide_eq_false h46;refine wp_skip (hK14 _ _ ?_);clear hK14;refine cSeq (fun K19 hK19=>?_);refine cSR fun K20 hK20=>sFa (f:=0) (k:=0) underlying65 rfl sizeOf5 rfl rfl F rfl rfl rfl (qLd isAgg5 rfl rfl rfl (H.cellB 0 rfl (by omega)) (qCv underlying5 underlying3 rfl rfl rfl (wrapB _) (qFa (f:=1) (k:=1) underlying29 rfl sizeOf22 rfl rfl rfl rfl rfl (qLd isAgg22 rfl rfl rfl (H.cell 2 rfl rfl) (qLen underlying22 rfl rfl rfl (qBin rfl rfl rfl rfl bGeq (qNK hK20 ?_)))))));clear hK20;clear F a;intro a F
    refine cIf F rfl (fun h56=>?_) (fun h56=>?_)
    ·
     replace h56:=of_decide_eq_true h56;refine cSR fun K21 hK21=>sAs F rfl rfl rfl (qNK hK21 ?_);clear hK21;clear F a;intro a F;refine wp_ret ?_;simp only [Exit.inBlock,Exit.then];refine bRet results105 F rfl ?_
     refine ⟨?_,H.below⟩
     clear F H
     first
       | exact fits_ret (fits_most hmo)
       | exact fits_ret (fits_all hmo hok)
       | exact fits_ret (fits_no (show j < 12 by omega) (slot_hi' (by omega) h49))
       | exact fits_ret (fits_no (show j < 12 by omega) (slot_lo1 (by omega) h56))
       | exact fits_ret (fits_no (show j < 12 by omega) (slot_lo2 (by omega) h59 (by omega) h75))
    replace h56:=of_decide_eq_false h56;refine wp_skip (hK19 _ _ ?_);clear hK19;refine cSeq (fun K22 hK22=>?_);refine cRegRO (by kernel_rfl) H ?_;replace H:=H.drew;refine eTF 0 rfl (by kernel_rfl) F rfl rfl rfl (fun w=>rMv F rfl) H qq0 (qTF 1 rfl (by kernel_rfl) rfl rfl rfl (fun a F w=>rBin F rfl rfl (bEqlB (y:=3))) H qq0 (qTF 2 rfl (by kernel_rfl) rfl rfl rfl (fun a F w=>rMv F rfl) H qq0 ?_));clear F a;intro a F
    refine F.split 59 rfl ?_ ?_ <;> (clear F;intro h59 F)
    ·
     replace h59:=beqT h59;refine eTF 3 rfl (by kernel_rfl) F rfl rfl rfl (fun w=>rMv F rfl) H qq0 (qTF 4 rfl (by kernel_rfl) rfl rfl rfl (fun a F w=>rBin F rfl rfl bGtr) H qq0 (qTF 5 rfl (by kernel_rfl) rfl rfl rfl (fun a F w=>rPk F rfl rfl) H qq0 (qTF 6 rfl (by kernel_rfl) rfl rfl rfl (fun a F w=>rMv F rfl) H qq0 ?_)));clear F a;intro a F
     refine F.split 63 rfl ?_ ?_ <;> (clear F;intro h63 F)
     ·
      replace h63:=of_decide_eq_true h63;refine eTF 7 rfl (by kernel_rfl) F rfl rfl rfl (fun w=>rMv F rfl) H qq0 (qTF 8 rfl (by kernel_rfl) rfl rfl rfl (fun a F w=>rMv F rfl) H qq0 ?_);clear F a;intro a F
      refine eTakeF (k:=9) (i:=9) rfl (by kernel_rfl) F rfl rfl rfl (fun w=>rBin F rfl rfl (bSubN (j:=1) ?_ ?_)) H (fun _ _ _ h=>h) ?_
      focus omega
      focus omega
      clear F a;intro a F;refine eTF 10 rfl (by kernel_rfl) F rfl rfl rfl (fun w=>rFa (f:=2) (k:=42) underlying70 rfl sizeOf67 rfl rfl F rfl) H qq0 ?_;clear F a;intro a F
      refine eTakeF (k:=11) (i:=11) rfl (by kernel_rfl) F rfl rfl rfl (fun w=>rIa underlying67 sizeOf66 F rfl rfl ?_) H (fun _ _ _ h=>h) ?_
      focus (first | omega | decide | (simp;omega))
      clear F a;intro a F
      refine eTakeF (k:=12) (i:=12) rfl (by kernel_rfl) F rfl rfl rfl (fun w=>rIa underlying66 sizeOf65 F rfl rfl ?_) H (fun _ _ _ h=>h) ?_
      focus (first | omega | decide | (simp;omega))
      clear F a;intro a F;refine eTF 13 rfl (by kernel_rfl) F rfl rfl rfl (fun w=>rFaZ (f:=0) underlying65 rfl sizeOf5 rfl rfl F rfl) H qq0 (qT 14 rfl (by kernel_rfl) rfl rfl rfl rfl (fun a F w H=>rLd isAgg5 F rfl (H.cellB 1 rfl (by omega))) H qq0 (qTF 15 rfl (by kernel_rfl) rfl rfl rfl (fun a F w=>rFa (f:=0) (k:=0) underlying65 rfl sizeOf5 rfl rfl F rfl) H qq0 (qT 16 rfl (by kernel_rfl) rfl rfl rfl rfl (fun a F w H=>rLd isAgg5 F rfl (H.cellB 0 rfl (by omega))) H qq0 (qTF 17 rfl (by kernel_rfl) rfl rfl rfl (fun a F w=>rBin F rfl rfl bGtrB) H qq0 (qTF 18 rfl (by kernel_rfl) rfl rfl rfl (fun a F w=>rPk F rfl rfl) H qq0 ?_)))));clear F a;intro a F;refine eNil (k:=19) (by kernel_rfl) ?_;refine hK22 _ _ ?_;clear hK22
      refine cIf F rfl (fun h75=>?_) (fun h75=>?_)
      ·
       replace h75:=of_decide_eq_true h75;refine cSR fun K23 hK23=>sAs F rfl rfl rfl (qNK hK23 ?_);clear hK23;clear F a;intro a F;refine wp_ret ?_;simp only [Exit.inBlock,Exit.then];refine bRet results105 F rfl ?_
       refine ⟨?_,H.below⟩
       clear F H
       first
         | exact fits_ret (fits_most hmo)
         | exact fits_ret (fits_all hmo hok)
         | exact fits_ret (fits_no (show j < 12 by omega) (slot_hi' (by omega) h49))
         | exact fits_ret (fits_no (show j < 12 by omega) (slot_lo1 (by omega) h56))
         | exact fits_ret (fits_no (show j < 12 by omega) (slot_lo2 (by omega) h59 (by omega) h75))
      replace h75:=of_decide_eq_false h75;refine wp_skip (hK12 _ _ (cReg ?_));clear hK12
      refine sBin F rfl rfl rfl rfl (bAddN (j:=1) ?_) ?_
      focus omega
      clear F a;intro a F;refine sMv F rfl rfl rfl ?_;clear F a;intro a F;refine sNil ?_
      (have hsl:slotOk p mc s t j=true:=by
        first
         | exact slot_hi (by omega) h49
         | exact slot_lo (by omega) h56 (fun hh=>h59 hh.1)
         | exact slot_lo (by omega) h56 (fun hh=>absurd hh.2.1 (by omega))
         | exact slot_lo (by omega) h56 (fun hh=>h75 hh.2.2)
       exact ⟨_,by omega,_,⟨j+1,rfl,rfl,by omega,below_succ hok hsl,H.sel [1,2] rfl rfl⟩,F.to (by repeat (first | exact trivial | refine Le.cons rfl ?_))⟩)
     replace h63:=of_decide_eq_false h63;refine eSF 7 rfl (by kernel_rfl) F rfl rfl rfl H qq0 (qSF 8 rfl (by kernel_rfl) rfl rfl rfl H qq0 (qSF 9 rfl (by kernel_rfl) rfl rfl rfl H qq0 (qSF 10 rfl (by kernel_rfl) rfl rfl rfl H qq0 (qSF 11 rfl (by kernel_rfl) rfl rfl rfl H qq0 (qSF 12 rfl (by kernel_rfl) rfl rfl rfl H qq0 (qSF 13 rfl (by kernel_rfl) rfl rfl rfl H qq0 (qSF 14 rfl (by kernel_rfl) rfl rfl rfl H qq0 (qSF 15 rfl (by kernel_rfl) rfl rfl rfl H qq0 (qSF 16 rfl (by kernel_rfl) rfl rfl rfl H qq0 (qSF 17 rfl (by kernel_rfl) rfl rfl rfl H qq0 (qTF 18 rfl (by kernel_rfl) rfl rfl rfl (fun a F w=>rPk F rfl rfl) H qq0 ?_)))))))))));clear F a;intro a F;refine eNil (k:=19) (by kernel_rfl) ?_;refine hK22 _ _ ?_;clear hK22;refine cIfF F rfl ?_;refine wp_skip (hK12 _ _ (cReg ?_));clear hK12
     refine sBin F rfl rfl rfl rfl (bAddN (j:=1) ?_) ?_
     focus omega
     clear F a;intro a F;refine sMv F rfl rfl rfl ?_;clear F a;intro a F;refine sNil ?_
     (have hsl:slotOk p mc s t j=true:=by
       first
        | exact slot_hi (by omega) h49
        | exact slot_lo (by omega) h56 (fun hh=>h59 hh.1)
        | exact slot_lo (by omega) h56 (fun hh=>absurd hh.2.1 (by omega))
        | exact slot_lo (by omega) h56 (fun hh=>h75 hh.2.2)
      exact ⟨_,by omega,_,⟨j+1,rfl,rfl,by omega,below_succ hok hsl,H.sel [1,2] rfl rfl⟩,F.to (by repeat (first | exact trivial | refine Le.cons rfl ?_))⟩)
    replace h59:=beqF h59;refine eSF 3 rfl (by kernel_rfl) F rfl rfl rfl H qq0 (qSF 4 rfl (by kernel_rfl) rfl rfl rfl H qq0 (qTF 5 rfl (by kernel_rfl) rfl rfl rfl (fun a F w=>rPk F rfl rfl) H qq0 (qTF 6 rfl (by kernel_rfl) rfl rfl rfl (fun a F w=>rMv F rfl) H qq0 (qSF 7 rfl (by kernel_rfl) rfl rfl rfl H qq0 (qSF 8 rfl (by kernel_rfl) rfl rfl rfl H qq0 (qSF 9 rfl (by kernel_rfl) rfl rfl rfl H qq0 (qSF 10 rfl (by kernel_rfl) rfl rfl rfl H qq0 (qSF 11 rfl (by kernel_rfl) rfl rfl rfl H qq0 (qSF 12 rfl (by kernel_rfl) rfl rfl rfl H qq0 (qSF 13 rfl (by kernel_rfl) rfl rfl rfl H qq0 (qSF 14 rfl (by kernel_rfl) rfl rfl rfl H qq0 (qSF 15 rfl (by kernel_rfl) rfl rfl rfl H qq0 (qSF 16 rfl (by kernel_rfl) rfl rfl rfl H qq0 (qSF 17 rfl (by kernel_rfl) rfl rfl rfl H qq0 (qTF 18 rfl (by kernel_rfl) rfl rfl rfl (fun a F w=>rPk F rfl rfl) H qq0 ?_)))))))))))))));clear F a;intro a F;refine eNil (k:=19) (by kernel_rfl) ?_;refine hK22 _ _ ?_;clear hK22;refine cIfF F rfl ?_;refine wp_skip (hK12 _ _ (cReg ?_));clear hK12
    refine sBin F rfl rfl rfl rfl (bAddN (j:=1) ?_) ?_
    focus omega
    clear F a;intro a F;refine sMv F rfl rfl rfl ?_;clear F a;intro a F;refine sNil ?_
    (have hsl:slotOk p mc s t j=true:=by
      first
       | exact slot_hi (by omega) h49
       | exact slot_lo (by omega) h56 (fun hh=>h59 hh.1)
       | exact slot_lo (by omega) h56 (fun hh=>absurd hh.2.1 (by omega))
       | exact slot_lo (by omega) h56 (fun hh=>h75 hh.2.2)
     exact ⟨_,by omega,_,⟨j+1,rfl,rfl,by omega,below_succ hok hsl,H.sel [1,2] rfl rfl⟩,F.to (by repeat (first | exact trivial | refine Le.cons rfl ?_))⟩)
   replace h41:=of_decide_eq_false h41
   obtain rfl:j=12:=by omega
   refine wp_exit ?_;refine hK8 _ _ (cSR fun K24 hK24=>sAs F rfl rfl rfl (qNK hK24 ?_));clear hK8 hK24;clear F a;intro a F;refine wp_ret ?_;refine bRet results105 F rfl ?_
   refine ⟨?_,H.below⟩
   clear F H
   first
     | exact fits_ret (fits_most hmo)
     | exact fits_ret (fits_all hmo hok)
     | exact fits_ret (fits_no (show j < 12 by omega) (slot_hi' (by omega) h49))
     | exact fits_ret (fits_no (show j < 12 by omega) (slot_lo1 (by omega) h56))
     | exact fits_ret (fits_no (show j < 12 by omega) (slot_lo2 (by omega) h59 (by omega) h75))
  replace h26:=of_decide_eq_false h26
  have hmb:mostB p mc s t=0:=if_neg (fun h=>by omega)
  refine wp_skip (hK3 _ _ ?_);clear hK3;refine cSeq (fun K25 hK25=>?_);refine cSR fun K26 hK26=>sMv F rfl rfl rfl (qMv rfl rfl rfl (qBin rfl rfl rfl rfl bGtr (qNK hK26 ?_)));clear hK26;clear F a;intro a F
  refine cIf F rfl (fun h35=>?_) (fun h35=>?_)
  ·
   replace h35:=of_decide_eq_true h35
   have hmo:¬ manyB s t≤mostB p mc s t:=by rw [hmb];omega
   refine cSR fun K27 hK27=>sAs F rfl rfl rfl (qNK hK27 ?_);clear hK27;clear F a;intro a F;refine wp_ret ?_;simp only [Exit.then];refine bRet results105 F rfl ?_
   refine ⟨?_,H.below⟩
   clear F H
   first
     | exact fits_ret (fits_most hmo)
     | exact fits_ret (fits_all hmo hok)
     | exact fits_ret (fits_no (show j < 12 by omega) (slot_hi' (by omega) h49))
     | exact fits_ret (fits_no (show j < 12 by omega) (slot_lo1 (by omega) h56))
     | exact fits_ret (fits_no (show j < 12 by omega) (slot_lo2 (by omega) h59 (by omega) h75))
  replace h35:=of_decide_eq_false h35
  have hmo:manyB s t≤mostB p mc s t:=by rw [hmb];omega
  refine wp_skip (hK25 _ _ ?_);clear hK25;refine cSeq (fun K28 hK28=>?_);refine cSR fun K29 hK29=>sMv F rfl rfl rfl (qFa (f:=2) (k:=42) underlying70 rfl sizeOf67 rfl rfl rfl rfl rfl ?_);clear F a;intro a F
  refine sIa underlying67 sizeOf66 F rfl rfl rfl rfl ?_ ?_
  focus (first | omega | decide | (simp;omega))
  clear F a;intro a F;refine sLrB underlying66 rfl sizeOf66 F rfl rfl rfl (H.rangeB 0 _ 24 rfl (by omega)) (qMv rfl rfl rfl (qNK hK29 ?_));clear hK29;clear F a;intro a F;refine wp_block ?_
  refine cLoopR [1,3,4,6,10,39] (fun m ups w=>∃ j:Nat,m=12 - j∧ups=[(40,.int .i64 ((j:Nat):Int))]∧j≤12∧(∀ i,i < j→slotOk p mc s t i=true)∧Own w0 none w [.blk b6 (bs 142 s) 70,.blk b4 ([.string p.name,.slice LA p.locs.length LC,.slice IA p.init.length IC,.slice TA p.threads.length TC,b8 p.ask]++[c1,c2,c3,c4,c5]) 29]) F (12) [(40,.int .i64 ((0:Nat):Int))] (by repeat (first | exact SubR.nil | (apply SubR.cons;· rfl))) ?_ ?_ ?_
  · exact ⟨0,rfl,rfl,by omega,fun i hi=>absurd hi (by omega),H.sel [0,1] rfl rfl⟩
  · repeat (first | exact trivial | refine Le.cons rfl ?_)
  clear F
  clear H
  intro m ups a w hI F
  obtain ⟨j,rfl,rfl,hj,hok,H⟩:=hI
  refine cSR fun K30 hK30=>sBin F rfl rfl rfl rfl bLss (qNK hK30 ?_);clear hK30;clear F a;intro a F;refine cSeq (fun K31 hK31=>?_)
  refine cIf F rfl (fun h41=>?_) (fun h41=>?_)
  ·
   replace h41:=of_decide_eq_true h41;refine wp_skip (hK31 _ _ ?_);clear hK31;refine cSeq (fun K32 hK32=>?_);refine wp_block ?_;refine cSR fun K33 hK33=>sMv F rfl rfl rfl ?_;clear F a;intro a F
   refine sIdA underlying66 sizeOf65 isAgg65 F rfl rfl rfl rfl ?_ ?_ ?_
   focus omega
   focus omega
   clear F a;intro a F;refine sAlB H zB65 F rfl rfl ?_;clear F a H;intro b12 a w F H;refine sAs F rfl rfl rfl ?_;clear F a;intro a F;refine sSrB H 0 sizeOf65 F rfl rfl rfl rfl (by omega) ?_;clear H;intro w H;rw [lay_all] at H;refine nK hK33 ?_;clear hK33;refine cSeq (fun K34 hK34=>?_);refine cSR fun K35 hK35=>sMv F rfl rfl rfl (qMv rfl rfl rfl (qBin rfl rfl rfl rfl bGeq (qNK hK35 ?_)));clear hK35;clear F a;intro a F
   refine cIf F rfl (fun h46=>?_) (fun h46=>?_)
   ·
    replace h46:=of_decide_eq_true h46;refine cSeq (fun K36 hK36=>?_);refine cSR fun K37 hK37=>sLrB underlying65 rfl sizeOf65 F rfl rfl rfl (H.whole 0 rfl) (qBdB (places:=[(0,1),(1,1)]) zB65 underlying65 (by kernel_rfl) rfl rfl rfl FillB.nil (qBin rfl rfl rfl rfl (bNeY eT65 gT65 rfl) (qNK hK37 ?_)));clear hK37;clear F a;intro a F
    refine cIf F rfl (fun h49=>?_) (fun h49=>?_)
    ·
     replace h49:=notT h49;refine cSR fun K38 hK38=>sAs F rfl rfl rfl (qNK hK38 ?_);clear hK38;clear F a;intro a F;refine wp_ret ?_;simp only [Exit.inBlock,Exit.then];refine bRet results105 F rfl ?_
     refine ⟨?_,H.below⟩
     clear F H
     first
       | exact fits_ret (fits_most hmo)
       | exact fits_ret (fits_all hmo hok)
       | exact fits_ret (fits_no (show j < 12 by omega) (slot_hi' (by omega) h49))
       | exact fits_ret (fits_no (show j < 12 by omega) (slot_lo1 (by omega) h56))
       | exact fits_ret (fits_no (show j < 12 by omega) (slot_lo2 (by omega) h59 (by omega) h75))
    replace h49:=notF h49;refine wp_skip (hK36 _ _ ?_);clear hK36;refine wp_exit ?_;refine hK32 _ _ (cReg ?_);clear hK32
    refine sBin F rfl rfl rfl rfl (bAddN (j:=1) ?_) ?_
    focus omega
    clear F a;intro a F;refine sMv F rfl rfl rfl ?_;clear F a;intro a F;refine sNil ?_
    (have hsl:slotOk p mc s t j=true:=by
      first
       | exact slot_hi (by omega) h49
       | exact slot_lo (by omega) h56 (fun hh=>h59 hh.1)
       | exact slot_lo (by omega) h56 (fun hh=>absurd hh.2.1 (by omega))
       | exact slot_lo (by omega) h56 (fun hh=>h75 hh.2.2)
     exact ⟨_,by omega,_,⟨j+1,rfl,rfl,by omega,below_succ hok hsl,H.sel [1,2] rfl rfl⟩,F.to (by repeat (first | exact trivial | refine Le.cons rfl ?_))⟩)
   replace h46:=of_decide_eq_false h46;refine wp_skip (hK34 _ _ ?_);clear hK34;refine cSeq (fun K39 hK39=>?_);refine cSR fun K40 hK40=>sFa (f:=0) (k:=0) underlying65 rfl sizeOf5 rfl rfl F rfl rfl rfl (qLd isAgg5 rfl rfl rfl (H.cellB 0 rfl (by omega)) (qCv underlying5 underlying3 rfl rfl rfl (wrapB _) (qFa (f:=1) (k:=1) underlying29 rfl sizeOf22 rfl rfl rfl rfl rfl (qLd isAgg22 rfl rfl rfl (H.cell 2 rfl rfl) (qLen underlying22 rfl rfl rfl (qBin rfl rfl rfl rfl bGeq (qNK hK40 ?_)))))));clear hK40;clear F a;intro a F
   refine cIf F rfl (fun h56=>?_) (fun h56=>?_)
   ·
    replace h56:=of_decide_eq_true h56;refine cSR fun K41 hK41=>sAs F rfl rfl rfl (qNK hK41 ?_);clear hK41;clear F a;intro a F;refine wp_ret ?_;simp only [Exit.inBlock,Exit.then];refine bRet results105 F rfl ?_
    refine ⟨?_,H.below⟩
    clear F H
    first
      | exact fits_ret (fits_most hmo)
      | exact fits_ret (fits_all hmo hok)
      | exact fits_ret (fits_no (show j < 12 by omega) (slot_hi' (by omega) h49))
      | exact fits_ret (fits_no (show j < 12 by omega) (slot_lo1 (by omega) h56))
      | exact fits_ret (fits_no (show j < 12 by omega) (slot_lo2 (by omega) h59 (by omega) h75))
   replace h56:=of_decide_eq_false h56;refine wp_skip (hK39 _ _ ?_);clear hK39;refine cSeq (fun K42 hK42=>?_);refine cRegRO (by kernel_rfl) H ?_;replace H:=H.drew;refine eTF 0 rfl (by kernel_rfl) F rfl rfl rfl (fun w=>rMv F rfl) H qq0 (qTF 1 rfl (by kernel_rfl) rfl rfl rfl (fun a F w=>rBin F rfl rfl (bEqlB (y:=3))) H qq0 (qTF 2 rfl (by kernel_rfl) rfl rfl rfl (fun a F w=>rMv F rfl) H qq0 ?_));clear F a;intro a F
   refine F.split 59 rfl ?_ ?_ <;> (clear F;intro h59 F)
   ·
    replace h59:=beqT h59;refine eTF 3 rfl (by kernel_rfl) F rfl rfl rfl (fun w=>rMv F rfl) H qq0 (qTF 4 rfl (by kernel_rfl) rfl rfl rfl (fun a F w=>rBin F rfl rfl bGtr) H qq0 (qTF 5 rfl (by kernel_rfl) rfl rfl rfl (fun a F w=>rPk F rfl rfl) H qq0 (qTF 6 rfl (by kernel_rfl) rfl rfl rfl (fun a F w=>rMv F rfl) H qq0 ?_)));clear F a;intro a F
    refine F.split 63 rfl ?_ ?_ <;> (clear F;intro h63 F)
    ·
     replace h63:=of_decide_eq_true h63;refine eTF 7 rfl (by kernel_rfl) F rfl rfl rfl (fun w=>rMv F rfl) H qq0 (qTF 8 rfl (by kernel_rfl) rfl rfl rfl (fun a F w=>rMv F rfl) H qq0 ?_);clear F a;intro a F
     refine eTakeF (k:=9) (i:=9) rfl (by kernel_rfl) F rfl rfl rfl (fun w=>rBin F rfl rfl (bSubN (j:=1) ?_ ?_)) H (fun _ _ _ h=>h) ?_
     focus omega
     focus omega
     clear F a;intro a F;refine eTF 10 rfl (by kernel_rfl) F rfl rfl rfl (fun w=>rFa (f:=2) (k:=42) underlying70 rfl sizeOf67 rfl rfl F rfl) H qq0 ?_;clear F a;intro a F
     refine eTakeF (k:=11) (i:=11) rfl (by kernel_rfl) F rfl rfl rfl (fun w=>rIa underlying67 sizeOf66 F rfl rfl ?_) H (fun _ _ _ h=>h) ?_
     focus (first | omega | decide | (simp;omega))
     clear F a;intro a F
     refine eTakeF (k:=12) (i:=12) rfl (by kernel_rfl) F rfl rfl rfl (fun w=>rIa underlying66 sizeOf65 F rfl rfl ?_) H (fun _ _ _ h=>h) ?_
     focus (first | omega | decide | (simp;omega))
     clear F a;intro a F;refine eTF 13 rfl (by kernel_rfl) F rfl rfl rfl (fun w=>rFaZ (f:=0) underlying65 rfl sizeOf5 rfl rfl F rfl) H qq0 (qT 14 rfl (by kernel_rfl) rfl rfl rfl rfl (fun a F w H=>rLd isAgg5 F rfl (H.cellB 1 rfl (by omega))) H qq0 (qTF 15 rfl (by kernel_rfl) rfl rfl rfl (fun a F w=>rFa (f:=0) (k:=0) underlying65 rfl sizeOf5 rfl rfl F rfl) H qq0 (qT 16 rfl (by kernel_rfl) rfl rfl rfl rfl (fun a F w H=>rLd isAgg5 F rfl (H.cellB 0 rfl (by omega))) H qq0 (qTF 17 rfl (by kernel_rfl) rfl rfl rfl (fun a F w=>rBin F rfl rfl bGtrB) H qq0 (qTF 18 rfl (by kernel_rfl) rfl rfl rfl (fun a F w=>rPk F rfl rfl) H qq0 ?_)))));clear F a;intro a F;refine eNil (k:=19) (by kernel_rfl) ?_;refine hK42 _ _ ?_;clear hK42
     refine cIf F rfl (fun h75=>?_) (fun h75=>?_)
     ·
      replace h75:=of_decide_eq_true h75;refine cSR fun K43 hK43=>sAs F rfl rfl rfl (qNK hK43 ?_);clear hK43;clear F a;intro a F;refine wp_ret ?_;simp only [Exit.inBlock,Exit.then];refine bRet results105 F rfl ?_
      refine ⟨?_,H.below⟩
      clear F H
      first
        | exact fits_ret (fits_most hmo)
        | exact fits_ret (fits_all hmo hok)
        | exact fits_ret (fits_no (show j < 12 by omega) (slot_hi' (by omega) h49))
        | exact fits_ret (fits_no (show j < 12 by omega) (slot_lo1 (by omega) h56))
        | exact fits_ret (fits_no (show j < 12 by omega) (slot_lo2 (by omega) h59 (by omega) h75))
     replace h75:=of_decide_eq_false h75;refine wp_skip (hK32 _ _ (cReg ?_));clear hK32
     refine sBin F rfl rfl rfl rfl (bAddN (j:=1) ?_) ?_
     focus omega
     clear F a;intro a F;refine sMv F rfl rfl rfl ?_;clear F a;intro a F;refine sNil ?_
     (have hsl:slotOk p mc s t j=true:=by
       first
        | exact slot_hi (by omega) h49
        | exact slot_lo (by omega) h56 (fun hh=>h59 hh.1)
        | exact slot_lo (by omega) h56 (fun hh=>absurd hh.2.1 (by omega))
        | exact slot_lo (by omega) h56 (fun hh=>h75 hh.2.2)
      exact ⟨_,by omega,_,⟨j+1,rfl,rfl,by omega,below_succ hok hsl,H.sel [1,2] rfl rfl⟩,F.to (by repeat (first | exact trivial | refine Le.cons rfl ?_))⟩)
    replace h63:=of_decide_eq_false h63;refine eSF 7 rfl (by kernel_rfl) F rfl rfl rfl H qq0 (qSF 8 rfl (by kernel_rfl) rfl rfl rfl H qq0 (qSF 9 rfl (by kernel_rfl) rfl rfl rfl H qq0 (qSF 10 rfl (by kernel_rfl) rfl rfl rfl H qq0 (qSF 11 rfl (by kernel_rfl) rfl rfl rfl H qq0 (qSF 12 rfl (by kernel_rfl) rfl rfl rfl H qq0 (qSF 13 rfl (by kernel_rfl) rfl rfl rfl H qq0 (qSF 14 rfl (by kernel_rfl) rfl rfl rfl H qq0 (qSF 15 rfl (by kernel_rfl) rfl rfl rfl H qq0 (qSF 16 rfl (by kernel_rfl) rfl rfl rfl H qq0 (qSF 17 rfl (by kernel_rfl) rfl rfl rfl H qq0 (qTF 18 rfl (by kernel_rfl) rfl rfl rfl (fun a F w=>rPk F rfl rfl) H qq0 ?_)))))))))));clear F a;intro a F;refine eNil (k:=19) (by kernel_rfl) ?_;refine hK42 _ _ ?_;clear hK42;refine cIfF F rfl ?_;refine wp_skip (hK32 _ _ (cReg ?_));clear hK32
    refine sBin F rfl rfl rfl rfl (bAddN (j:=1) ?_) ?_
    focus omega
    clear F a;intro a F;refine sMv F rfl rfl rfl ?_;clear F a;intro a F;refine sNil ?_
    (have hsl:slotOk p mc s t j=true:=by
      first
       | exact slot_hi (by omega) h49
       | exact slot_lo (by omega) h56 (fun hh=>h59 hh.1)
       | exact slot_lo (by omega) h56 (fun hh=>absurd hh.2.1 (by omega))
       | exact slot_lo (by omega) h56 (fun hh=>h75 hh.2.2)
     exact ⟨_,by omega,_,⟨j+1,rfl,rfl,by omega,below_succ hok hsl,H.sel [1,2] rfl rfl⟩,F.to (by repeat (first | exact trivial | refine Le.cons rfl ?_))⟩)
   replace h59:=beqF h59;refine eSF 3 rfl (by kernel_rfl) F rfl rfl rfl H qq0 (qSF 4 rfl (by kernel_rfl) rfl rfl rfl H qq0 (qTF 5 rfl (by kernel_rfl) rfl rfl rfl (fun a F w=>rPk F rfl rfl) H qq0 (qTF 6 rfl (by kernel_rfl) rfl rfl rfl (fun a F w=>rMv F rfl) H qq0 (qSF 7 rfl (by kernel_rfl) rfl rfl rfl H qq0 (qSF 8 rfl (by kernel_rfl) rfl rfl rfl H qq0 (qSF 9 rfl (by kernel_rfl) rfl rfl rfl H qq0 (qSF 10 rfl (by kernel_rfl) rfl rfl rfl H qq0 (qSF 11 rfl (by kernel_rfl) rfl rfl rfl H qq0 (qSF 12 rfl (by kernel_rfl) rfl rfl rfl H qq0 (qSF 13 rfl (by kernel_rfl) rfl rfl rfl H qq0 (qSF 14 rfl (by kernel_rfl) rfl rfl rfl H qq0 (qSF 15 rfl (by kernel_rfl) rfl rfl rfl H qq0 (qSF 16 rfl (by kernel_rfl) rfl rfl rfl H qq0 (qSF 17 rfl (by kernel_rfl) rfl rfl rfl H qq0 (qTF 18 rfl (by kernel_rfl) rfl rfl rfl (fun a F w=>rPk F rfl rfl) H qq0 ?_)))))))))))))));clear F a;intro a F;refine eNil (k:=19) (by kernel_rfl) ?_;refine hK42 _ _ ?_;clear hK42;refine cIfF F rfl ?_;refine wp_skip (hK32 _ _ (cReg ?_));clear hK32
   refine sBin F rfl rfl rfl rfl (bAddN (j:=1) ?_) ?_
   focus omega
   clear F a;intro a F;refine sMv F rfl rfl rfl ?_;clear F a;intro a F;refine sNil ?_
   (have hsl:slotOk p mc s t j=true:=by
     first
      | exact slot_hi (by omega) h49
      | exact slot_lo (by omega) h56 (fun hh=>h59 hh.1)
      | exact slot_lo (by omega) h56 (fun hh=>absurd hh.2.1 (by omega))
      | exact slot_lo (by omega) h56 (fun hh=>h75 hh.2.2)
    exact ⟨_,by omega,_,⟨j+1,rfl,rfl,by omega,below_succ hok hsl,H.sel [1,2] rfl rfl⟩,F.to (by repeat (first | exact trivial | refine Le.cons rfl ?_))⟩)
  replace h41:=of_decide_eq_false h41
  obtain rfl:j=12:=by omega
  refine wp_exit ?_;refine hK28 _ _ (cSR fun K44 hK44=>sAs F rfl rfl rfl (qNK hK44 ?_));clear hK28 hK44;clear F a;intro a F;refine wp_ret ?_;refine bRet results105 F rfl ?_
  refine ⟨?_,H.below⟩
  clear F H
  first
    | exact fits_ret (fits_most hmo)
    | exact fits_ret (fits_all hmo hok)
    | exact fits_ret (fits_no (show j < 12 by omega) (slot_hi' (by omega) h49))
    | exact fits_ret (fits_no (show j < 12 by omega) (slot_lo1 (by omega) h56))
    | exact fits_ret (fits_no (show j < 12 by omega) (slot_lo2 (by omega) h59 (by omega) h75))
 replace h20:=bneF h20
 have hmb:mostB p mc s t=0:=if_neg (fun h=>h.1 h20)
 refine sSk F rfl rfl (qSk rfl rfl (qSk rfl rfl (qSk rfl rfl (qSk rfl rfl (qPk rfl rfl rfl rfl (qNK hK4 ?_))))));clear hK4;clear F a;intro a F;refine cIfF F rfl ?_;refine wp_skip (hK3 _ _ ?_);clear hK3;refine cSeq (fun K45 hK45=>?_);refine cSR fun K46 hK46=>sMv F rfl rfl rfl (qMv rfl rfl rfl (qBin rfl rfl rfl rfl bGtr (qNK hK46 ?_)));clear hK46;clear F a;intro a F
 refine cIf F rfl (fun h35=>?_) (fun h35=>?_)
 ·
  replace h35:=of_decide_eq_true h35
  have hmo:¬ manyB s t≤mostB p mc s t:=by rw [hmb];omega
  refine cSR fun K47 hK47=>sAs F rfl rfl rfl (qNK hK47 ?_);clear hK47;clear F a;intro a F;refine wp_ret ?_;simp only [Exit.then];refine bRet results105 F rfl ?_
  refine ⟨?_,H.below⟩
  clear F H
  first
    | exact fits_ret (fits_most hmo)
    | exact fits_ret (fits_all hmo hok)
    | exact fits_ret (fits_no (show j < 12 by omega) (slot_hi' (by omega) h49))
    | exact fits_ret (fits_no (show j < 12 by omega) (slot_lo1 (by omega) h56))
    | exact fits_ret (fits_no (show j < 12 by omega) (slot_lo2 (by omega) h59 (by omega) h75))
 replace h35:=of_decide_eq_false h35
 have hmo:manyB s t≤mostB p mc s t:=by rw [hmb];omega
 refine wp_skip (hK45 _ _ ?_);clear hK45;refine cSeq (fun K48 hK48=>?_);refine cSR fun K49 hK49=>sMv F rfl rfl rfl (qFa (f:=2) (k:=42) underlying70 rfl sizeOf67 rfl rfl rfl rfl rfl ?_);clear F a;intro a F
 refine sIa underlying67 sizeOf66 F rfl rfl rfl rfl ?_ ?_
 focus (first | omega | decide | (simp;omega))
 clear F a;intro a F;refine sLrB underlying66 rfl sizeOf66 F rfl rfl rfl (H.rangeB 0 _ 24 rfl (by omega)) (qMv rfl rfl rfl (qNK hK49 ?_));clear hK49;clear F a;intro a F;refine wp_block ?_
 refine cLoopR [1,3,4,6,10,39] (fun m ups w=>∃ j:Nat,m=12 - j∧ups=[(40,.int .i64 ((j:Nat):Int))]∧j≤12∧(∀ i,i < j→slotOk p mc s t i=true)∧Own w0 none w [.blk b6 (bs 142 s) 70,.blk b4 ([.string p.name,.slice LA p.locs.length LC,.slice IA p.init.length IC,.slice TA p.threads.length TC,b8 p.ask]++[c1,c2,c3,c4,c5]) 29]) F (12) [(40,.int .i64 ((0:Nat):Int))] (by repeat (first | exact SubR.nil | (apply SubR.cons;· rfl))) ?_ ?_ ?_
 · exact ⟨0,rfl,rfl,by omega,fun i hi=>absurd hi (by omega),H.sel [0,1] rfl rfl⟩
 · repeat (first | exact trivial | refine Le.cons rfl ?_)
 clear F
 clear H
 intro m ups a w hI F
 obtain ⟨j,rfl,rfl,hj,hok,H⟩:=hI
 refine cSR fun K50 hK50=>sBin F rfl rfl rfl rfl bLss (qNK hK50 ?_);clear hK50;clear F a;intro a F;refine cSeq (fun K51 hK51=>?_)
 refine cIf F rfl (fun h41=>?_) (fun h41=>?_)
 ·
  replace h41:=of_decide_eq_true h41;refine wp_skip (hK51 _ _ ?_);clear hK51;refine cSeq (fun K52 hK52=>?_);refine wp_block ?_;refine cSR fun K53 hK53=>sMv F rfl rfl rfl ?_;clear F a;intro a F
  refine sIdA underlying66 sizeOf65 isAgg65 F rfl rfl rfl rfl ?_ ?_ ?_
  focus omega
  focus omega
  clear F a;intro a F;refine sAlB H zB65 F rfl rfl ?_;clear F a H;intro b12 a w F H;refine sAs F rfl rfl rfl ?_;clear F a;intro a F;refine sSrB H 0 sizeOf65 F rfl rfl rfl rfl (by omega) ?_;clear H;intro w H;rw [lay_all] at H;refine nK hK53 ?_;clear hK53;refine cSeq (fun K54 hK54=>?_);refine cSR fun K55 hK55=>sMv F rfl rfl rfl (qMv rfl rfl rfl (qBin rfl rfl rfl rfl bGeq (qNK hK55 ?_)));clear hK55;clear F a;intro a F
  refine cIf F rfl (fun h46=>?_) (fun h46=>?_)
  ·
   replace h46:=of_decide_eq_true h46;refine cSeq (fun K56 hK56=>?_);refine cSR fun K57 hK57=>sLrB underlying65 rfl sizeOf65 F rfl rfl rfl (H.whole 0 rfl) (qBdB (places:=[(0,1),(1,1)]) zB65 underlying65 (by kernel_rfl) rfl rfl rfl FillB.nil (qBin rfl rfl rfl rfl (bNeY eT65 gT65 rfl) (qNK hK57 ?_)));clear hK57;clear F a;intro a F
   refine cIf F rfl (fun h49=>?_) (fun h49=>?_)
   ·
    replace h49:=notT h49;refine cSR fun K58 hK58=>sAs F rfl rfl rfl (qNK hK58 ?_);clear hK58;clear F a;intro a F;refine wp_ret ?_;simp only [Exit.inBlock,Exit.then];refine bRet results105 F rfl ?_
    refine ⟨?_,H.below⟩
    clear F H
    first
      | exact fits_ret (fits_most hmo)
      | exact fits_ret (fits_all hmo hok)
      | exact fits_ret (fits_no (show j < 12 by omega) (slot_hi' (by omega) h49))
      | exact fits_ret (fits_no (show j < 12 by omega) (slot_lo1 (by omega) h56))
      | exact fits_ret (fits_no (show j < 12 by omega) (slot_lo2 (by omega) h59 (by omega) h75))
   replace h49:=notF h49;refine wp_skip (hK56 _ _ ?_);clear hK56;refine wp_exit ?_;refine hK52 _ _ (cReg ?_);clear hK52
   refine sBin F rfl rfl rfl rfl (bAddN (j:=1) ?_) ?_
   focus omega
   clear F a;intro a F;refine sMv F rfl rfl rfl ?_;clear F a;intro a F;refine sNil ?_
   (have hsl:slotOk p mc s t j=true:=by
     first
      | exact slot_hi (by omega) h49
      | exact slot_lo (by omega) h56 (fun hh=>h59 hh.1)
      | exact slot_lo (by omega) h56 (fun hh=>absurd hh.2.1 (by omega))
      | exact slot_lo (by omega) h56 (fun hh=>h75 hh.2.2)
    exact ⟨_,by omega,_,⟨j+1,rfl,rfl,by omega,below_succ hok hsl,H.sel [1,2] rfl rfl⟩,F.to (by repeat (first | exact trivial | refine Le.cons rfl ?_))⟩)
  replace h46:=of_decide_eq_false h46;refine wp_skip (hK54 _ _ ?_);clear hK54;refine cSeq (fun K59 hK59=>?_);refine cSR fun K60 hK60=>sFa (f:=0) (k:=0) underlying65 rfl sizeOf5 rfl rfl F rfl rfl rfl (qLd isAgg5 rfl rfl rfl (H.cellB 0 rfl (by omega)) (qCv underlying5 underlying3 rfl rfl rfl (wrapB _) (qFa (f:=1) (k:=1) underlying29 rfl sizeOf22 rfl rfl rfl rfl rfl (qLd isAgg22 rfl rfl rfl (H.cell 2 rfl rfl) (qLen underlying22 rfl rfl rfl (qBin rfl rfl rfl rfl bGeq (qNK hK60 ?_)))))));clear hK60;clear F a;intro a F
  refine cIf F rfl (fun h56=>?_) (fun h56=>?_)
  ·
   replace h56:=of_decide_eq_true h56;refine cSR fun K61 hK61=>sAs F rfl rfl rfl (qNK hK61 ?_);clear hK61;clear F a;intro a F;refine wp_ret ?_;simp only [Exit.inBlock,Exit.then];refine bRet results105 F rfl ?_
   refine ⟨?_,H.below⟩
   clear F H
   first
     | exact fits_ret (fits_most hmo)
     | exact fits_ret (fits_all hmo hok)
     | exact fits_ret (fits_no (show j < 12 by omega) (slot_hi' (by omega) h49))
     | exact fits_ret (fits_no (show j < 12 by omega) (slot_lo1 (by omega) h56))
     | exact fits_ret (fits_no (show j < 12 by omega) (slot_lo2 (by omega) h59 (by omega) h75))
  replace h56:=of_decide_eq_false h56;refine wp_skip (hK59 _ _ ?_);clear hK59;refine cSeq (fun K62 hK62=>?_);refine cRegRO (by kernel_rfl) H ?_;replace H:=H.drew;refine eTF 0 rfl (by kernel_rfl) F rfl rfl rfl (fun w=>rMv F rfl) H qq0 (qTF 1 rfl (by kernel_rfl) rfl rfl rfl (fun a F w=>rBin F rfl rfl (bEqlB (y:=3))) H qq0 (qTF 2 rfl (by kernel_rfl) rfl rfl rfl (fun a F w=>rMv F rfl) H qq0 ?_));clear F a;intro a F
  refine F.split 59 rfl ?_ ?_ <;> (clear F;intro h59 F)
  ·
   replace h59:=beqT h59;refine eTF 3 rfl (by kernel_rfl) F rfl rfl rfl (fun w=>rMv F rfl) H qq0 (qTF 4 rfl (by kernel_rfl) rfl rfl rfl (fun a F w=>rBin F rfl rfl bGtr) H qq0 (qTF 5 rfl (by kernel_rfl) rfl rfl rfl (fun a F w=>rPk F rfl rfl) H qq0 (qTF 6 rfl (by kernel_rfl) rfl rfl rfl (fun a F w=>rMv F rfl) H qq0 ?_)));clear F a;intro a F
   refine F.split 63 rfl ?_ ?_ <;> (clear F;intro h63 F)
   ·
    replace h63:=of_decide_eq_true h63;refine eTF 7 rfl (by kernel_rfl) F rfl rfl rfl (fun w=>rMv F rfl) H qq0 (qTF 8 rfl (by kernel_rfl) rfl rfl rfl (fun a F w=>rMv F rfl) H qq0 ?_);clear F a;intro a F
    refine eTakeF (k:=9) (i:=9) rfl (by kernel_rfl) F rfl rfl rfl (fun w=>rBin F rfl rfl (bSubN (j:=1) ?_ ?_)) H (fun _ _ _ h=>h) ?_
    focus omega
    focus omega
    clear F a;intro a F;refine eTF 10 rfl (by kernel_rfl) F rfl rfl rfl (fun w=>rFa (f:=2) (k:=42) underlying70 rfl sizeOf67 rfl rfl F rfl) H qq0 ?_;clear F a;intro a F
    refine eTakeF (k:=11) (i:=11) rfl (by kernel_rfl) F rfl rfl rfl (fun w=>rIa underlying67 sizeOf66 F rfl rfl ?_) H (fun _ _ _ h=>h) ?_
    focus (first | omega | decide | (simp;omega))
    clear F a;intro a F
    refine eTakeF (k:=12) (i:=12) rfl (by kernel_rfl) F rfl rfl rfl (fun w=>rIa underlying66 sizeOf65 F rfl rfl ?_) H (fun _ _ _ h=>h) ?_
    focus (first | omega | decide | (simp;omega))
    clear F a;intro a F;refine eTF 13 rfl (by kernel_rfl) F rfl rfl rfl (fun w=>rFaZ (f:=0) underlying65 rfl sizeOf5 rfl rfl F rfl) H qq0 (qT 14 rfl (by kernel_rfl) rfl rfl rfl rfl (fun a F w H=>rLd isAgg5 F rfl (H.cellB 1 rfl (by omega))) H qq0 (qTF 15 rfl (by kernel_rfl) rfl rfl rfl (fun a F w=>rFa (f:=0) (k:=0) underlying65 rfl sizeOf5 rfl rfl F rfl) H qq0 (qT 16 rfl (by kernel_rfl) rfl rfl rfl rfl (fun a F w H=>rLd isAgg5 F rfl (H.cellB 0 rfl (by omega))) H qq0 (qTF 17 rfl (by kernel_rfl) rfl rfl rfl (fun a F w=>rBin F rfl rfl bGtrB) H qq0 (qTF 18 rfl (by kernel_rfl) rfl rfl rfl (fun a F w=>rPk F rfl rfl) H qq0 ?_)))));clear F a;intro a F;refine eNil (k:=19) (by kernel_rfl) ?_;refine hK62 _ _ ?_;clear hK62
    refine cIf F rfl (fun h75=>?_) (fun h75=>?_)
    ·
     replace h75:=of_decide_eq_true h75;refine cSR fun K63 hK63=>sAs F rfl rfl rfl (qNK hK63 ?_);clear hK63;clear F a;intro a F;refine wp_ret ?_;simp only [Exit.inBlock,Exit.then];refine bRet results105 F rfl ?_
     refine ⟨?_,H.below⟩
     clear F H
     first
       | exact fits_ret (fits_most hmo)
       | exact fits_ret (fits_all hmo hok)
       | exact fits_ret (fits_no (show j < 12 by omega) (slot_hi' (by omega) h49))
       | exact fits_ret (fits_no (show j < 12 by omega) (slot_lo1 (by omega) h56))
       | exact fits_ret (fits_no (show j < 12 by omega) (slot_lo2 (by omega) h59 (by omega) h75))
    replace h75:=of_decide_eq_false h75;refine wp_skip (hK52 _ _ (cReg ?_));clear hK52
    refine sBin F rfl rfl rfl rfl (bAddN (j:=1) ?_) ?_
    focus omega
    clear F a;intro a F;refine sMv F rfl rfl rfl ?_;clear F a;intro a F;refine sNil ?_
    (have hsl:slotOk p mc s t j=true:=by
      first
       | exact slot_hi (by omega) h49
       | exact slot_lo (by omega) h56 (fun hh=>h59 hh.1)
       | exact slot_lo (by omega) h56 (fun hh=>absurd hh.2.1 (by omega))
       | exact slot_lo (by omega) h56 (fun hh=>h75 hh.2.2)
     exact ⟨_,by omega,_,⟨j+1,rfl,rfl,by omega,below_succ hok hsl,H.sel [1,2] rfl rfl⟩,F.to (by repeat (first | exact trivial | refine Le.cons rfl ?_))⟩)
   replace h63:=of_decide_eq_false h63;refine eSF 7 rfl (by kernel_rfl) F rfl rfl rfl H qq0 (qSF 8 rfl (by kernel_rfl) rfl rfl rfl H qq0 (qSF 9 rfl (by kernel_rfl) rfl rfl rfl H qq0 (qSF 10 rfl (by kernel_rfl) rfl rfl rfl H qq0 (qSF 11 rfl (by kernel_rfl) rfl rfl rfl H qq0 (qSF 12 rfl (by kernel_rfl) rfl rfl rfl H qq0 (qSF 13 rfl (by kernel_rfl) rfl rfl rfl H qq0 (qSF 14 rfl (by kernel_rfl) rfl rfl rfl H qq0 (qSF 15 rfl (by kernel_rfl) rfl rfl rfl H qq0 (qSF 16 rfl (by kernel_rfl) rfl rfl rfl H qq0 (qSF 17 rfl (by kernel_rfl) rfl rfl rfl H qq0 (qTF 18 rfl (by kernel_rfl) rfl rfl rfl (fun a F w=>rPk F rfl rfl) H qq0 ?_)))))))))));clear F a;intro a F;refine eNil (k:=19) (by kernel_rfl) ?_;refine hK62 _ _ ?_;clear hK62;refine cIfF F rfl ?_;refine wp_skip (hK52 _ _ (cReg ?_));clear hK52
   refine sBin F rfl rfl rfl rfl (bAddN (j:=1) ?_) ?_
   focus omega
   clear F a;intro a F;refine sMv F rfl rfl rfl ?_;clear F a;intro a F;refine sNil ?_
   (have hsl:slotOk p mc s t j=true:=by
     first
      | exact slot_hi (by omega) h49
      | exact slot_lo (by omega) h56 (fun hh=>h59 hh.1)
      | exact slot_lo (by omega) h56 (fun hh=>absurd hh.2.1 (by omega))
      | exact slot_lo (by omega) h56 (fun hh=>h75 hh.2.2)
    exact ⟨_,by omega,_,⟨j+1,rfl,rfl,by omega,below_succ hok hsl,H.sel [1,2] rfl rfl⟩,F.to (by repeat (first | exact trivial | refine Le.cons rfl ?_))⟩)
  replace h59:=beqF h59;refine eSF 3 rfl (by kernel_rfl) F rfl rfl rfl H qq0 (qSF 4 rfl (by kernel_rfl) rfl rfl rfl H qq0 (qTF 5 rfl (by kernel_rfl) rfl rfl rfl (fun a F w=>rPk F rfl rfl) H qq0 (qTF 6 rfl (by kernel_rfl) rfl rfl rfl (fun a F w=>rMv F rfl) H qq0 (qSF 7 rfl (by kernel_rfl) rfl rfl rfl H qq0 (qSF 8 rfl (by kernel_rfl) rfl rfl rfl H qq0 (qSF 9 rfl (by kernel_rfl) rfl rfl rfl H qq0 (qSF 10 rfl (by kernel_rfl) rfl rfl rfl H qq0 (qSF 11 rfl (by kernel_rfl) rfl rfl rfl H qq0 (qSF 12 rfl (by kernel_rfl) rfl rfl rfl H qq0 (qSF 13 rfl (by kernel_rfl) rfl rfl rfl H qq0 (qSF 14 rfl (by kernel_rfl) rfl rfl rfl H qq0 (qSF 15 rfl (by kernel_rfl) rfl rfl rfl H qq0 (qSF 16 rfl (by kernel_rfl) rfl rfl rfl H qq0 (qSF 17 rfl (by kernel_rfl) rfl rfl rfl H qq0 (qTF 18 rfl (by kernel_rfl) rfl rfl rfl (fun a F w=>rPk F rfl rfl) H qq0 ?_)))))))))))))));clear F a;intro a F;refine eNil (k:=19) (by kernel_rfl) ?_;refine hK62 _ _ ?_;clear hK62;refine cIfF F rfl ?_;refine wp_skip (hK52 _ _ (cReg ?_));clear hK52
  refine sBin F rfl rfl rfl rfl (bAddN (j:=1) ?_) ?_
  focus omega
  clear F a;intro a F;refine sMv F rfl rfl rfl ?_;clear F a;intro a F;refine sNil ?_
  (have hsl:slotOk p mc s t j=true:=by
    first
     | exact slot_hi (by omega) h49
     | exact slot_lo (by omega) h56 (fun hh=>h59 hh.1)
     | exact slot_lo (by omega) h56 (fun hh=>absurd hh.2.1 (by omega))
     | exact slot_lo (by omega) h56 (fun hh=>h75 hh.2.2)
   exact ⟨_,by omega,_,⟨j+1,rfl,rfl,by omega,below_succ hok hsl,H.sel [1,2] rfl rfl⟩,F.to (by repeat (first | exact trivial | refine Le.cons rfl ?_))⟩)
 replace h41:=of_decide_eq_false h41
 obtain rfl:j=12:=by omega
 refine wp_exit ?_;refine hK48 _ _ (cSR fun K64 hK64=>sAs F rfl rfl rfl (qNK hK64 ?_));clear hK48 hK64;clear F a;intro a F;refine wp_ret ?_;refine bRet results105 F rfl ?_
 refine ⟨?_,H.below⟩
 clear F H
 first
   | exact fits_ret (fits_most hmo)
   | exact fits_ret (fits_all hmo hok)
   | exact fits_ret (fits_no (show j < 12 by omega) (slot_hi' (by omega) h49))
   | exact fits_ret (fits_no (show j < 12 by omega) (slot_lo1 (by omega) h56))
   | exact fits_ret (fits_no (show j < 12 by omega) (slot_lo2 (by omega) h59 (by omega) h75))
theorem rightM_ret {p:Prg} {m:UInt8} {s:By} {b:Bool} (h:rightM p m s=b):Ending.returned (.bool b) = .returned (.bool (rightM p m s)):=by rw [h]
theorem rm_no1 {p:Prg} {m:UInt8} {s:By} (h:knownM m=false):rightM p m s=false:=by rw [rightM,h];rfl
theorem rm_no2 {p:Prg} {m:UInt8} {s:By} (h:rightS p (bareP s)=false):rightM p m s=false:=by rw [rightM,h,Bool.and_false];rfl
theorem rm_no3 {p:Prg} {m:UInt8} {s:By} {j:Nat} (hj:j < 4) (h:fitsP p m s j=false):rightM p m s=false:=by rw [rightM,allB_false hj h,Bool.and_false]
theorem rm_yes {p:Prg} {m:UInt8} {s:By} (h1:knownM m=true) (h2:rightS p (bareP s)=true) (h3:∀ i,i < 4→fitsP p m s i=true):rightM p m s=true:=by rw [rightM,h1,h2,allB_true h3];rfl
set_option maxHeartbeats 2000000 in
theorem rightM_any (cs:List Value) (p:Prg) (w0:World) (hP:ProgAt w0 cs p) (hN:NeedsAt w0) (mc:UInt8) (s:By) :
   Calls Tryz.prog 51 #[.agg cs.toArray,Go.Proofs.YtbgnapmaimkpkaaGreatDoor.b8 mc,.agg (bs 142 s).toArray] w0 fun e w'=>e = .returned (.bool (rightM p mc s))∧Below w0.heap.size w0 w':=by
 have H:=Own.start w0 none
 obtain ⟨d1,d2,d3,d4,d5,d6,d7,d8,d9,d10,rfl⟩:=hP.len10
 refine enterF func51 rfl ntmps51 rfl (fun a F=>?_);refine cSR fun K1 hK1=>?_;refine sBx H F rfl rfl rfl ?_;clear F a H;intro b3 a w F H;refine sBxB H F rfl rfl rfl ?_;clear F a H;intro b5 a w F H;refine sAs F rfl rfl rfl (qNK hK1 ?_);clear hK1;clear F a;intro a F;refine cSeq (fun K2 hK2=>?_);refine cSeq (fun K3 hK3=>?_);refine cRegRO (by kernel_rfl) H ?_;replace H:=H.drew;refine eTF 0 rfl (by kernel_rfl) F rfl rfl rfl (fun w=>rMv F rfl) H qq0 ?_;clear F a;intro a F;refine eOne (k:=1) (i:=1) rfl (by kernel_rfl) F rfl (oCall call57 F rfl rfl (known_any mc _) ?_);rintro e w ⟨rfl,hb⟩;replace H:=H.grow hb;clear hb;refine ⟨_,rfl,?_⟩;clear F a;intro a F;refine ePartO (by kernel_rfl) H ?_;refine eTF 2 rfl (by kernel_rfl) F rfl rfl rfl (fun w=>rNot F rfl) H qq0 (qTF 3 rfl (by kernel_rfl) rfl rfl rfl (fun a F w=>rMv F rfl) H qq0 ?_);clear F a;intro a F
 refine F.split 11 rfl ?_ ?_ <;> (clear F;intro h11 F)
 ·
  replace h11:=notT h11;refine eSF 4 rfl (by kernel_rfl) F rfl rfl rfl H qq0 (qSF 5 rfl (by kernel_rfl) rfl rfl rfl H qq0 (qSF 6 rfl (by kernel_rfl) rfl rfl rfl H qq0 (qSF 7 rfl (by kernel_rfl) rfl rfl rfl H qq0 (qSF 8 rfl (by kernel_rfl) rfl rfl rfl H qq0 (qTF 9 rfl (by kernel_rfl) rfl rfl rfl (fun a F w=>rPk F rfl rfl) H qq0 ?_)))));clear F a;intro a F;refine eNil (k:=10) (by kernel_rfl) ?_;refine hK3 _ _ ?_;clear hK3;refine cIfT F rfl ?_;refine cSR fun K4 hK4=>sAs F rfl rfl rfl (qNK hK4 ?_);clear hK4;clear F a;intro a F;refine wp_ret ?_;simp only [Exit.then];refine bRet results51 F rfl ?_
  refine ⟨?_,H.below⟩
  clear F H
  first
    | exact rightM_ret (rm_no1 h11)
    | exact rightM_ret (rm_no2 h17)
    | exact rightM_ret (rm_no3 (show j < 4 by omega) h26)
    | exact rightM_ret (rm_yes h11 h17 hok)
 replace h11:=notF h11
 refine eTake (k:=4) (i:=4) rfl (by kernel_rfl) F rfl rfl rfl rfl (fun w H=>rLr underlying29 rfl ?si F rfl (H.whole 1 rfl)) H (fun _ _ _ h=>h) ?_
 case si=>exact info_size sizeOf29
 clear F a;intro a F;refine eT 5 rfl (by kernel_rfl) F rfl rfl rfl rfl (fun w H=>rLrB underlying70 rfl sizeOf70 F rfl (H.whole 0 rfl)) H qq0 ?_;clear F a;intro a F;refine eOne (k:=6) (i:=6) rfl (by kernel_rfl) F rfl (oCall call104 F rfl rfl (bare_any s _) ?_);rintro e w ⟨rfl,hb⟩;replace H:=H.grow hb;clear hb;refine ⟨_,rfl,?_⟩;clear F a;intro a F;refine eKeep H ?_;refine eOne (k:=7) (i:=7) rfl (by kernel_rfl) F rfl (oCall call103 F rfl rfl (rightA_any _ p _ (hP.own H) (hN.own H) (bareP s)) ?_);rintro e w ⟨rfl,hb⟩;replace H:=H.grow hb;clear hb;refine ⟨_,rfl,?_⟩;clear F a;intro a F;refine ePartO (by kernel_rfl) H ?_;refine eTF 8 rfl (by kernel_rfl) F rfl rfl rfl (fun w=>rNot F rfl) H qq0 (qTF 9 rfl (by kernel_rfl) rfl rfl rfl (fun a F w=>rPk F rfl rfl) H qq0 ?_);clear F a;intro a F;refine eNil (k:=10) (by kernel_rfl) ?_;refine hK3 _ _ ?_;clear hK3
 refine cIf F rfl (fun h17=>?_) (fun h17=>?_)
 ·
  replace h17:=notT h17;refine cSR fun K5 hK5=>sAs F rfl rfl rfl (qNK hK5 ?_);clear hK5;clear F a;intro a F;refine wp_ret ?_;simp only [Exit.then];refine bRet results51 F rfl ?_
  refine ⟨?_,H.below⟩
  clear F H
  first
    | exact rightM_ret (rm_no1 h11)
    | exact rightM_ret (rm_no2 h17)
    | exact rightM_ret (rm_no3 (show j < 4 by omega) h26)
    | exact rightM_ret (rm_yes h11 h17 hok)
 replace h17:=notF h17;refine wp_skip (hK2 _ _ ?_);clear hK2;refine cSeq (fun K6 hK6=>?_);refine cSR fun K7 hK7=>sMv F rfl rfl rfl (qNK hK7 ?_);clear hK7;clear F a;intro a F;refine wp_block ?_
 refine cLoopR [1,3,5] (fun m ups w=>∃ j:Nat,m=4 - j∧ups=[(18,.int .i64 ((j:Nat):Int))]∧j≤4∧(∀ i,i < j→fitsP p mc s i=true)∧Own w0 none w [.blk b5 (bs 142 s) 70,.blk b3 [d1,d2,d3,d4,d5,d6,d7,d8,d9,d10] 29]) F (4) [(18,.int .i64 ((0:Nat):Int))] (by repeat (first | exact SubR.nil | (apply SubR.cons;· rfl))) ?_ ?_ ?_
 · exact ⟨0,rfl,rfl,by omega,fun i hi=>absurd hi (by omega),H.sel [0,1] rfl rfl⟩
 · repeat (first | exact trivial | refine Le.cons rfl ?_)
 clear F
 clear H
 intro m ups a w hI F
 obtain ⟨j,rfl,rfl,hj,hok,H⟩:=hI
 refine cSR fun K8 hK8=>sBin F rfl rfl rfl rfl bLss (qNK hK8 ?_);clear hK8;clear F a;intro a F;refine cSeq (fun K9 hK9=>?_)
 refine cIf F rfl (fun h19=>?_) (fun h19=>?_)
 ·
  replace h19:=of_decide_eq_true h19;refine wp_skip (hK9 _ _ ?_);clear hK9;refine cSeq (fun K10 hK10=>?_);refine wp_block ?_;refine cSR fun K11 hK11=>sMv F rfl rfl rfl (qAs rfl rfl rfl (qNK hK11 (qSR fun K12 hK12=>?_)));clear hK11;clear F a;intro a F
  refine sLr underlying29 rfl ?si F rfl rfl rfl (H.whole 1 rfl) ?_
  case si=>exact info_size sizeOf29
  clear F a;intro a F;refine sMv F rfl rfl rfl (qLrB underlying70 rfl sizeOf70 rfl rfl rfl (H.whole 0 rfl) (qMv rfl rfl rfl ?_));clear F a;intro a F;refine sCall call105 F rfl rfl rfl (fits_any _ p _ (hP.own H) mc s j (by omega)) ?_;rintro e w ⟨rfl,hb⟩;replace H:=H.grow hb;clear hb;refine ⟨_,rfl,?_⟩;clear F a;intro a F;refine sNot F rfl rfl rfl (qNK hK12 ?_);clear hK12;clear F a;intro a F
  refine cIf F rfl (fun h26=>?_) (fun h26=>?_)
  ·
   replace h26:=notT h26;refine cSR fun K13 hK13=>sAs F rfl rfl rfl (qNK hK13 ?_);clear hK13;clear F a;intro a F;refine wp_ret ?_;simp only [Exit.inBlock,Exit.then];refine bRet results51 F rfl ?_
   refine ⟨?_,H.below⟩
   clear F H
   first
     | exact rightM_ret (rm_no1 h11)
     | exact rightM_ret (rm_no2 h17)
     | exact rightM_ret (rm_no3 (show j < 4 by omega) h26)
     | exact rightM_ret (rm_yes h11 h17 hok)
  replace h26:=notF h26;refine wp_skip (hK10 _ _ (cReg ?_));clear hK10
  refine sBin F rfl rfl rfl rfl (bAddN (j:=1) ?_) ?_
  focus omega
  clear F a;intro a F;refine sMv F rfl rfl rfl ?_;clear F a;intro a F;refine sNil ?_
  exact ⟨_,by omega,_,⟨j+1,rfl,rfl,by omega,below_succ hok h26,H.sel [0,1] rfl rfl⟩,F.to (by repeat (first | exact trivial | refine Le.cons rfl ?_))⟩
 replace h19:=of_decide_eq_false h19
 obtain rfl:j=4:=by omega
 refine wp_exit ?_;refine hK6 _ _ (cSR fun K14 hK14=>sAs F rfl rfl rfl (qNK hK14 ?_));clear hK6 hK14;clear F a;intro a F;refine wp_ret ?_;refine bRet results51 F rfl ?_
 refine ⟨?_,H.below⟩
 clear F H
 first
   | exact rightM_ret (rm_no1 h11)
   | exact rightM_ret (rm_no2 h17)
   | exact rightM_ret (rm_no3 (show j < 4 by omega) h26)
   | exact rightM_ret (rm_yes h11 h17 hok)
end Go.Proofs.YtbgnapmaimkpkaaGreatDoor
