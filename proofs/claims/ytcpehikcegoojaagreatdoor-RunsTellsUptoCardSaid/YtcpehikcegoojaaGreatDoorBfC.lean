/-
  WALK2. Package buffer: enabled, fits, Right. Conditions: the program lies in memory; the thread is in range.
-/
import Derived.Test.YtcpehikcegoojaaGreatDoorJn1
set_option linter.unusedSimpArgs false
set_option linter.unusedVariables false
namespace Go.Proofs.YtcpehikcegoojaaGreatDoor
open Go.Proofs.Tryz
open Go.RowKit
set_option maxRecDepth 100000
theorem XeC {p:Prg} {s:By} {t:Nat} {l:List Ins} (hl:p.threads[t]? = some l) (h:l.length≤(s (t * 9)).toNat):EQ p s t=none:=by
 unfold EQ;rw [hl];exact List.getElem?_eq_none h
set_option maxHeartbeats 2000000 in
theorem Xcb (cs:List Value) (p:Prg) (w0:World) (hP:ProgAt w0 cs p) (mc:UInt8) (s:By) (t:Nat) (l:List Ins) (ht:t < 4) (hl:p.threads[t]? = some l) :
   Calls Tryz.prog 87 #[.agg cs.toArray,YtcpehikcegoojaaGreatDoor.b8 mc,.agg (bs 142 s).toArray,.int .i64 (t:Int)] w0 fun e w'=>e = .returned (.bool (JP p mc s t))∧Below w0.heap.size w0 w':=by
 have H:=Own.start w0 none
 obtain ⟨LA,LC,IA,IC,TA,TC,h,ccs,hp⟩:=hP
 obtain ⟨c1,c2,c3,c4,c5,rfl⟩:=DM (JT hp.cond)
 have hcs:=hp.cs
 subst hcs
 obtain ⟨bT,oT,BT,CT,rfl,hT1,hT2,hT3⟩:=hp.threads t l hl
 have htl:t < p.threads.length:=(List.getElem?_eq_some_iff.1 hl).1
 refine JF func87 rfl ntmps87 rfl (fun a F=>?_);refine cSR fun K1 hK1=>?_;refine sBx H F rfl rfl rfl ?_;clear F a H;intro b4 a w F H;refine Mg H F rfl rfl rfl ?_;clear F a H;intro b6 a w F H;refine Xa F rfl (qNK hK1 (qSR fun K2 hK2=>Xh rfl (Xr (f:=0) (k:=0) XG rfl Yc rfl rfl rfl ?_)));clear hK1;clear F a;intro a F
 refine Ed XW XN F rfl rfl rfl rfl ?_ ?_
 focus (omega)
 clear F a;intro a F;refine Xe2 (f:=0) XK rfl XH rfl rfl F rfl rfl rfl (Xc XJ rfl (H.ce' 0 rfl) (qCv XO XT rfl rfl rfl (QG _) (Xd rfl (qNK hK2 ?_))));clear hK2;clear F a;intro a F;refine JD (fun K3 hK3=>?_);refine cSR fun K4 hK4=>Xf F rfl (Xr (f:=3) (k:=3) XM rfl Yo rfl rfl rfl (Xc Yp rfl (H.cell 1 rfl rfl) (Xh rfl ?_)));clear F a;intro a F
 refine sIx X7 YB F rfl rfl rfl rfl ?_ ?_
 focus (omega)
 clear F a;intro a F;refine sLd YI F rfl rfl rfl (H.arg hT1) (Xx Yl rfl (Xe rfl rfl Cb (qNK hK4 ?_)));clear hK4;clear F a;intro a F
 refine cIf F rfl (fun h25=>?_) (fun h25=>?_)
 ·
  replace h25:=of_decide_eq_true h25
  have hno:=XeC (s:=s) hl (by omega)
  refine cSR fun K5 hK5=>Xa F rfl (qNK hK5 ?_);clear hK5;clear F a;intro a F;refine wp_ret ?_;simp only [Exit.then];refine JI Yx F rfl ?_
  exact ⟨by (rw [JP,hno];done),H.below⟩
 replace h25:=of_decide_eq_false h25
 obtain ⟨x,hx⟩:∃ x,l[(s (t * 9)).toNat]? = some x:=⟨_,List.getElem?_eq_getElem (by omega)⟩
 have hpcl:(s (t * 9)).toNat < l.length:=by omega
 obtain ⟨bI,oI,rfl,hI⟩:=hT2 (s (t * 9)).toNat x.cells (by rw [List.getElem?_map,hx];rfl)
 have hno:=XdU hl hx
 refine wp_skip (hK3 _ _ (cSR fun K6 hK6=>Xb (f:=3) (k:=3) XM rfl Yo rfl rfl F rfl (Xc Yp rfl (H.cell 1 rfl rfl) (Xh rfl ?_))));clear hK3;clear F a;intro a F
 refine sIx X7 YB F rfl rfl rfl rfl ?_ ?_
 focus (omega)
 clear F a;intro a F;refine sLd YI F rfl rfl rfl (H.arg hT1) (Xh rfl ?_);clear F a;intro a F
 refine sIx Yl XP F rfl rfl rfl rfl ?_ ?_
 focus exact hpcl
 clear F a;intro a F
 refine Xw XI rfl ?si F rfl (H.argR hI) ?_
 case si=>exact Jz XP
 clear F a;intro a F;refine sAl H Yu F rfl rfl ?_;clear F a H;intro b10 a w F H
 refine sSr H 0 ?si F rfl rfl rfl ?s1 rfl rfl ?_
 case si=>exact Jz XP
 case s1=>rfl
 clear H;intro w H;refine nK hK6 ?_;clear hK6;refine JD (fun K7 hK7=>?_);refine cSR fun K8 hK8=>Xb (f:=0) (k:=0) XI rfl XH rfl rfl F rfl (Xc XJ rfl (H.cell 0 rfl rfl) (qNK hK8 ?_));clear hK8;clear F a;intro a F;refine wp_block ?_;refine JD (fun K9 hK9=>?_);refine cSR fun K10 hK10=>Xg F rfl rfl (JL (y:=4)) (Xd rfl (qNK hK10 ?_));clear hK10;clear F a;intro a F
 refine cIf F rfl (fun h36=>?_) (fun h36=>?_)
 ·
  replace h36:=J1 h36;refine wp_skip (hK9 _ _ ?_);clear hK9
  refine cIf F rfl (fun h36=>?_) (fun h36=>?_)
  ·
   replace h36:=J1 h36;refine cSR fun K11 hK11=>Xf F rfl (Xr (f:=3) (k:=138) XG rfl Yh rfl rfl rfl ?_);clear F a;intro a F
   refine MP X8 XH F rfl rfl rfl rfl ?_ ?_
   focus (omega)
   clear F a;intro a F;refine sLd XJ F rfl rfl rfl (H.ce' 1 rfl) (Xe rfl rfl (JL (y:=0)) (Xd rfl (qNK hK11 ?_)));clear hK11;clear F a;intro a F;refine wp_ret ?_;refine xI ?_;refine JI Yx F rfl ?_
   exact ⟨by (rw [JP,hno];simp_all [QQ]),H.below⟩
  replace h36:=J2 h36;refine cSR fun K12 hK12=>Xg F rfl rfl (JL (y:=7)) (Xd rfl (qNK hK12 ?_));clear hK12;clear F a;intro a F
  refine cIf F rfl (fun h45=>?_) (fun h45=>?_)
  ·
   replace h45:=J1 h45;refine cSR fun K13 hK13=>Xb (f:=6) (k:=8) XI rfl XH rfl rfl F rfl (Xc XJ rfl (H.cell 0 rfl rfl) (Xe rfl rfl (JL (y:=3)) (Xh rfl ?_)));clear F a;intro a F
   refine F.split 50 rfl ?_ ?_ <;> (clear F;intro h50 F)
   ·
    replace h50:=J1 h50;refine XB F (XC (XC (XC (XC (XC (XC (Xy rfl rfl (Xd rfl (qNK hK13 (qSR fun K14 hK14=>Xh rfl (Cc rfl rfl rfl (Xh rfl (Xh rfl (Xr (f:=3) (k:=138) XG rfl Yh rfl rfl rfl ?_))))))))))))));clear hK13;clear F a;intro a F
    refine MP X8 XH F rfl rfl rfl rfl ?_ ?_
    focus (omega)
    clear F a;intro a F;refine sLd XJ F rfl rfl rfl (H.ce' 1 rfl) (Xe rfl rfl (JL (y:=0)) (Xy rfl rfl (Xd rfl (qNK hK14 ?_))));clear hK14;clear F a;intro a F;refine wp_ret ?_;refine xI ?_;refine JI Yx F rfl ?_
    exact ⟨by (rw [JP,hno];simp_all [QQ]),H.below⟩
   replace h50:=J2 h50;refine Xf F rfl (Xe rfl rfl (JL (y:=3)) (Xh rfl ?_));clear F a;intro a F
   refine F.split 53 rfl ?_ ?_ <;> (clear F;intro h53 F)
   ·
    replace h53:=J1 h53;refine Xb (f:=6) (k:=8) XI rfl XH rfl rfl F rfl (Xc XJ rfl (H.cell 0 rfl rfl) (Xe rfl rfl (JL (y:=5)) (Xy rfl rfl (Xy rfl rfl (Xd rfl (qNK hK13 (qSR fun K15 hK15=>Xh rfl (Cc rfl rfl rfl (Xh rfl ?_)))))))));clear hK13;clear F a;intro a F
    refine F.split 61 rfl ?_ ?_ <;> (clear F;intro h61 F)
    ·
     replace h61:=N1 h61;replace h61:=J2 h61;refine XB F (XC (XC (XC (XC (Xy rfl rfl (Xd rfl (qNK hK15 ?_)))))));clear hK15;clear F a;intro a F;refine wp_ret ?_;refine xI ?_;refine JI Yx F rfl ?_
     exact ⟨by (rw [JP,hno];simp_all [QQ]),H.below⟩
    replace h61:=N2 h61;replace h61:=J1 h61;refine Xf F rfl (Xr (f:=3) (k:=138) XG rfl Yh rfl rfl rfl ?_);clear F a;intro a F
    refine MP X8 XH F rfl rfl rfl rfl ?_ ?_
    focus (omega)
    clear F a;intro a F;refine sLd XJ F rfl rfl rfl (H.ce' 1 rfl) (Xe rfl rfl (JL (y:=0)) (Xy rfl rfl (Xd rfl (qNK hK15 ?_))));clear hK15;clear F a;intro a F;refine wp_ret ?_;refine xI ?_;refine JI Yx F rfl ?_
    exact ⟨by (rw [JP,hno];simp_all [QQ]),H.below⟩
   replace h53:=J2 h53;refine XB F (XC (XC (Xy rfl rfl (Xy rfl rfl (Xd rfl (qNK hK13 (qSR fun K16 hK16=>Xh rfl (Cc rfl rfl rfl (Xh rfl (XC (XC (XC (XC (XC (Xy rfl rfl (Xd rfl (qNK hK16 ?_)))))))))))))))));clear hK13 hK16;clear F a;intro a F;refine wp_ret ?_;refine xI ?_;refine JI Yx F rfl ?_
   exact ⟨by (rw [JP,hno];simp_all [QQ]),H.below⟩
  replace h45:=J2 h45;refine wp_skip (hK7 _ _ (cSR fun K17 hK17=>Xa F rfl (qNK hK17 ?_)));clear hK7 hK17;clear F a;intro a F;refine wp_ret ?_;refine JI Yx F rfl ?_
  exact ⟨by (rw [JP,hno];simp_all [QQ]),H.below⟩
 replace h36:=J2 h36;refine cSR fun K18 hK18=>Xg F rfl rfl (JL (y:=5)) (Xd rfl (qNK hK18 ?_));clear hK18;clear F a;intro a F
 refine cIf F rfl (fun h36=>?_) (fun h36=>?_)
 ·
  replace h36:=J1 h36;refine wp_skip (hK9 _ _ ?_);clear hK9
  refine cIf F rfl (fun h36=>?_) (fun h36=>?_)
  ·
   replace h36:=J1 h36;refine cSR fun K19 hK19=>Xf F rfl (Xr (f:=3) (k:=138) XG rfl Yh rfl rfl rfl ?_);clear F a;intro a F
   refine MP X8 XH F rfl rfl rfl rfl ?_ ?_
   focus (omega)
   clear F a;intro a F;refine sLd XJ F rfl rfl rfl (H.ce' 1 rfl) (Xe rfl rfl (JL (y:=0)) (Xd rfl (qNK hK19 ?_)));clear hK19;clear F a;intro a F;refine wp_ret ?_;refine xI ?_;refine JI Yx F rfl ?_
   exact ⟨by (rw [JP,hno];simp_all [QQ]),H.below⟩
  replace h36:=J2 h36;refine cSR fun K20 hK20=>Xg F rfl rfl (JL (y:=7)) (Xd rfl (qNK hK20 ?_));clear hK20;clear F a;intro a F
  refine cIf F rfl (fun h45=>?_) (fun h45=>?_)
  ·
   replace h45:=J1 h45;refine cSR fun K21 hK21=>Xb (f:=6) (k:=8) XI rfl XH rfl rfl F rfl (Xc XJ rfl (H.cell 0 rfl rfl) (Xe rfl rfl (JL (y:=3)) (Xh rfl ?_)));clear F a;intro a F
   refine F.split 50 rfl ?_ ?_ <;> (clear F;intro h50 F)
   ·
    replace h50:=J1 h50;refine XB F (XC (XC (XC (XC (XC (XC (Xy rfl rfl (Xd rfl (qNK hK21 (qSR fun K22 hK22=>Xh rfl (Cc rfl rfl rfl (Xh rfl (Xh rfl (Xr (f:=3) (k:=138) XG rfl Yh rfl rfl rfl ?_))))))))))))));clear hK21;clear F a;intro a F
    refine MP X8 XH F rfl rfl rfl rfl ?_ ?_
    focus (omega)
    clear F a;intro a F;refine sLd XJ F rfl rfl rfl (H.ce' 1 rfl) (Xe rfl rfl (JL (y:=0)) (Xy rfl rfl (Xd rfl (qNK hK22 ?_))));clear hK22;clear F a;intro a F;refine wp_ret ?_;refine xI ?_;refine JI Yx F rfl ?_
    exact ⟨by (rw [JP,hno];simp_all [QQ]),H.below⟩
   replace h50:=J2 h50;refine Xf F rfl (Xe rfl rfl (JL (y:=3)) (Xh rfl ?_));clear F a;intro a F
   refine F.split 53 rfl ?_ ?_ <;> (clear F;intro h53 F)
   ·
    replace h53:=J1 h53;refine Xb (f:=6) (k:=8) XI rfl XH rfl rfl F rfl (Xc XJ rfl (H.cell 0 rfl rfl) (Xe rfl rfl (JL (y:=5)) (Xy rfl rfl (Xy rfl rfl (Xd rfl (qNK hK21 (qSR fun K23 hK23=>Xh rfl (Cc rfl rfl rfl (Xh rfl ?_)))))))));clear hK21;clear F a;intro a F
    refine F.split 61 rfl ?_ ?_ <;> (clear F;intro h61 F)
    ·
     replace h61:=N1 h61;replace h61:=J2 h61;refine XB F (XC (XC (XC (XC (Xy rfl rfl (Xd rfl (qNK hK23 ?_)))))));clear hK23;clear F a;intro a F;refine wp_ret ?_;refine xI ?_;refine JI Yx F rfl ?_
     exact ⟨by (rw [JP,hno];simp_all [QQ]),H.below⟩
    replace h61:=N2 h61;replace h61:=J1 h61;refine Xf F rfl (Xr (f:=3) (k:=138) XG rfl Yh rfl rfl rfl ?_);clear F a;intro a F
    refine MP X8 XH F rfl rfl rfl rfl ?_ ?_
    focus (omega)
    clear F a;intro a F;refine sLd XJ F rfl rfl rfl (H.ce' 1 rfl) (Xe rfl rfl (JL (y:=0)) (Xy rfl rfl (Xd rfl (qNK hK23 ?_))));clear hK23;clear F a;intro a F;refine wp_ret ?_;refine xI ?_;refine JI Yx F rfl ?_
    exact ⟨by (rw [JP,hno];simp_all [QQ]),H.below⟩
   replace h53:=J2 h53;refine XB F (XC (XC (Xy rfl rfl (Xy rfl rfl (Xd rfl (qNK hK21 (qSR fun K24 hK24=>Xh rfl (Cc rfl rfl rfl (Xh rfl (XC (XC (XC (XC (XC (Xy rfl rfl (Xd rfl (qNK hK24 ?_)))))))))))))))));clear hK21 hK24;clear F a;intro a F;refine wp_ret ?_;refine xI ?_;refine JI Yx F rfl ?_
   exact ⟨by (rw [JP,hno];simp_all [QQ]),H.below⟩
  replace h45:=J2 h45;refine wp_skip (hK7 _ _ (cSR fun K25 hK25=>Xa F rfl (qNK hK25 ?_)));clear hK7 hK25;clear F a;intro a F;refine wp_ret ?_;refine JI Yx F rfl ?_
  exact ⟨by (rw [JP,hno];simp_all [QQ]),H.below⟩
 replace h36:=J2 h36;refine JY (Xg F rfl rfl (JL (y:=6)) (Xd rfl (qNK hK9 ?_)));clear hK9;clear F a;intro a F
 refine cIf F rfl (fun h36=>?_) (fun h36=>?_)
 ·
  replace h36:=J1 h36;refine cSR fun K26 hK26=>Xf F rfl (Xr (f:=3) (k:=138) XG rfl Yh rfl rfl rfl ?_);clear F a;intro a F
  refine MP X8 XH F rfl rfl rfl rfl ?_ ?_
  focus (omega)
  clear F a;intro a F;refine sLd XJ F rfl rfl rfl (H.ce' 1 rfl) (Xe rfl rfl (JL (y:=0)) (Xd rfl (qNK hK26 ?_)));clear hK26;clear F a;intro a F;refine wp_ret ?_;refine xI ?_;refine JI Yx F rfl ?_
  exact ⟨by (rw [JP,hno];simp_all [QQ]),H.below⟩
 replace h36:=J2 h36;refine cSR fun K27 hK27=>Xg F rfl rfl (JL (y:=7)) (Xd rfl (qNK hK27 ?_));clear hK27;clear F a;intro a F
 refine cIf F rfl (fun h45=>?_) (fun h45=>?_)
 ·
  replace h45:=J1 h45;refine cSR fun K28 hK28=>Xb (f:=6) (k:=8) XI rfl XH rfl rfl F rfl (Xc XJ rfl (H.cell 0 rfl rfl) (Xe rfl rfl (JL (y:=3)) (Xh rfl ?_)));clear F a;intro a F
  refine F.split 50 rfl ?_ ?_ <;> (clear F;intro h50 F)
  ·
   replace h50:=J1 h50;refine XB F (XC (XC (XC (XC (XC (XC (Xy rfl rfl (Xd rfl (qNK hK28 (qSR fun K29 hK29=>Xh rfl (Cc rfl rfl rfl (Xh rfl (Xh rfl (Xr (f:=3) (k:=138) XG rfl Yh rfl rfl rfl ?_))))))))))))));clear hK28;clear F a;intro a F
   refine MP X8 XH F rfl rfl rfl rfl ?_ ?_
   focus (omega)
   clear F a;intro a F;refine sLd XJ F rfl rfl rfl (H.ce' 1 rfl) (Xe rfl rfl (JL (y:=0)) (Xy rfl rfl (Xd rfl (qNK hK29 ?_))));clear hK29;clear F a;intro a F;refine wp_ret ?_;refine xI ?_;refine JI Yx F rfl ?_
   exact ⟨by (rw [JP,hno];simp_all [QQ]),H.below⟩
  replace h50:=J2 h50;refine Xf F rfl (Xe rfl rfl (JL (y:=3)) (Xh rfl ?_));clear F a;intro a F
  refine F.split 53 rfl ?_ ?_ <;> (clear F;intro h53 F)
  ·
   replace h53:=J1 h53;refine Xb (f:=6) (k:=8) XI rfl XH rfl rfl F rfl (Xc XJ rfl (H.cell 0 rfl rfl) (Xe rfl rfl (JL (y:=5)) (Xy rfl rfl (Xy rfl rfl (Xd rfl (qNK hK28 (qSR fun K30 hK30=>Xh rfl (Cc rfl rfl rfl (Xh rfl ?_)))))))));clear hK28;clear F a;intro a F
   refine F.split 61 rfl ?_ ?_ <;> (clear F;intro h61 F)
   ·
    replace h61:=N1 h61;replace h61:=J2 h61;refine XB F (XC (XC (XC (XC (Xy rfl rfl (Xd rfl (qNK hK30 ?_)))))));clear hK30;clear F a;intro a F;refine wp_ret ?_;refine xI ?_;refine JI Yx F rfl ?_
    exact ⟨by (rw [JP,hno];simp_all [QQ]),H.below⟩
   replace h61:=N2 h61;replace h61:=J1 h61;refine Xf F rfl (Xr (f:=3) (k:=138) XG rfl Yh rfl rfl rfl ?_);clear F a;intro a F
   refine MP X8 XH F rfl rfl rfl rfl ?_ ?_
   focus (omega)
   clear F a;intro a F;refine sLd XJ F rfl rfl rfl (H.ce' 1 rfl) (Xe rfl rfl (JL (y:=0)) (Xy rfl rfl (Xd rfl (qNK hK30 ?_))));clear hK30;clear F a;intro a F;refine wp_ret ?_;refine xI ?_;refine JI Yx F rfl ?_
   exact ⟨by (rw [JP,hno];simp_all [QQ]),H.below⟩
  replace h53:=J2 h53;refine XB F (XC (XC (Xy rfl rfl (Xy rfl rfl (Xd rfl (qNK hK28 (qSR fun K31 hK31=>Xh rfl (Cc rfl rfl rfl (Xh rfl (XC (XC (XC (XC (XC (Xy rfl rfl (Xd rfl (qNK hK31 ?_)))))))))))))))));clear hK28 hK31;clear F a;intro a F;refine wp_ret ?_;refine xI ?_;refine JI Yx F rfl ?_
  exact ⟨by (rw [JP,hno];simp_all [QQ]),H.below⟩
 replace h45:=J2 h45;refine wp_skip (hK7 _ _ (cSR fun K32 hK32=>Xa F rfl (qNK hK32 ?_)));clear hK7 hK32;clear F a;intro a F;refine wp_ret ?_;refine JI Yx F rfl ?_
 exact ⟨by (rw [JP,hno];simp_all [QQ]),H.below⟩
theorem Xbt {s:By} {t j:Nat}:same 2 (cut (cut s (42+t * 24)) (j * 2)) zb=(JU s t j == 0 && Nm s t j == 0):=by
 rw [Bool.eq_iff_iff,same_iff,Bool.and_eq_true,beq_iff_eq,beq_iff_eq]
 refine ⟨fun h=>⟨h 0 (by omega),h 1 (by omega)⟩,fun h i hi=>?_⟩
 match i,hi with
 | 0,_=>exact h.1
 | 1,_=>exact h.2
 | i+2,hi=>omega
theorem XcK {p:Prg} {m:UInt8} {s:By} {t j:Nat} (h:JA s t≤j) (he:same 2 (cut (cut s (42+t * 24)) (j * 2)) zb=true):Qo p m s t j=true:=by
 unfold Qo;rw [if_pos h,← Xbt];exact he
theorem Xat {p:Prg} {m:UInt8} {s:By} {t j:Nat} (h:JA s t≤j) (he:same 2 (cut (cut s (42+t * 24)) (j * 2)) zb=false):Qo p m s t j=false:=by
 unfold Qo;rw [if_pos h,← Xbt];exact he
theorem MX {p:Prg} {m:UInt8} {s:By} {t j:Nat} (h:¬ JA s t≤j) (hl:¬ (p.locs.length:Int)≤((JU s t j).toNat:Int)) (ho:¬ (m=3∧0 < j∧JU s t j < JU s t (j - 1))):Qo p m s t j=true:=by
 unfold Qo
 rw [if_neg h]
 simp only [Bool.and_eq_true,decide_eq_true_eq,Bool.not_eq_true',Bool.and_eq_false_iff,beq_eq_false_iff_ne,decide_eq_false_iff_not]
 refine ⟨by omega,?_⟩
 by_cases h1:m=3
 · by_cases h2:0 < j
   · exact .inr (fun h3=>ho ⟨h1,h2,h3⟩)
   · exact .inl (.inr h2)
 · exact .inl (.inl h1)
theorem Xas {p:Prg} {m:UInt8} {s:By} {t j:Nat} (h:¬ JA s t≤j) (hl:(p.locs.length:Int)≤((JU s t j).toNat:Int)):Qo p m s t j=false:=by
 unfold Qo
 rw [if_neg h,decide_eq_false (by omega),Bool.false_and]
theorem Xar {p:Prg} {m:UInt8} {s:By} {t j:Nat} (h:¬ JA s t≤j) (h1:m=3) (h2:0 < j) (h3:JU s t j < JU s t (j - 1)):Qo p m s t j=false:=by
 unfold Qo
 rw [if_neg h,decide_eq_true h2,decide_eq_true h3,h1]
 simp
theorem Q5 {p:Prg} {m:UInt8} {s:By} {t:Nat} {b:Bool} (h:Nd p m s t=b):Ending.returned (.bool b) = .returned (.bool (Nd p m s t)):=by rw [h]
theorem BQ {p:Prg} {m:UInt8} {s:By} {t:Nat} (h:¬ JA s t≤Mm p m s t):Nd p m s t=false:=by rw [Nd,decide_eq_false h];rfl
theorem XaT {p:Prg} {m:UInt8} {s:By} {t:Nat} (h:JA s t≤Mm p m s t) (hok:∀ i,i < 12→Qo p m s t i=true):Nd p m s t=true:=by rw [Nd,decide_eq_true h,E6 hok];rfl
theorem M8 {p:Prg} {m:UInt8} {s:By} {t j:Nat} (hj:j < 12) (h:Qo p m s t j=false):Nd p m s t=false:=by rw [Nd,LQ hj h,Bool.and_false]
set_option maxHeartbeats 4000000 in
theorem XhZ (cs:List Value) (p:Prg) (w0:World) (hP:ProgAt w0 cs p) (mc:UInt8) (s:By) (t:Nat) (ht:t < 4) :
   Calls Tryz.prog 86 #[.agg cs.toArray,YtcpehikcegoojaaGreatDoor.b8 mc,.agg (bs 142 s).toArray,.int .i64 (t:Int)] w0 fun e w'=>e = .returned (.bool (Nd p mc s t))∧Below w0.heap.size w0 w':=by
 have H:=Own.start w0 none
 obtain ⟨LA,LC,IA,IC,TA,TC,h,ccs,hp⟩:=hP
 obtain ⟨c1,c2,c3,c4,c5,rfl⟩:=DM (JT hp.cond)
 have hcs:=hp.cs
 subst hcs
 have hmy:JA s t=(s (138+t)).toNat:=rfl
 refine JF func86 rfl ntmps86 rfl (fun a F=>?_);refine cSR fun K1 hK1=>?_;refine sBx H F rfl rfl rfl ?_;clear F a H;intro b4 a w F H;refine Mg H F rfl rfl rfl ?_;clear F a H;intro b6 a w F H;refine Xa F rfl (qNK hK1 ?_);clear hK1;clear F a;intro a F;refine JD (fun K2 hK2=>?_);refine Xi H ?_;replace H:=H.drew;refine Xj 0 rfl F rfl (fun w=>rMv F rfl) H qq0 (Xm 1 rfl rfl (fun a F w=>rFa (f:=3) (k:=138) XG rfl Yh rfl rfl F rfl) H qq0 ?_);clear F a;intro a F
 refine Xq (k:=2) (i:=2) rfl F rfl (fun w=>XiA X8 XH F rfl rfl ?_) H (fun _ _ _ h=>h) ?_
 focus (omega)
 clear F a;intro a F;refine Xv 3 rfl F rfl rfl (fun w H=>rLd XJ F rfl (H.ce' 0 rfl)) H qq0 (Xm 4 rfl rfl (fun a F w=>rCv XO XT F rfl (QG _)) H qq0 (Xm 5 rfl rfl (fun a F w=>rAs F rfl) H qq0 (Xm 6 rfl rfl (fun a F w=>rAs F rfl) H qq0 ?_)));clear F a;intro a F;refine Xp (k:=7) ?_;refine hK2 _ _ ?_;clear hK2;refine JD (fun K3 hK3=>?_);refine cSR fun K4 hK4=>Xf F rfl (Xe rfl rfl (Xba (y:=1)) (Xh rfl ?_));clear F a;intro a F
 refine F.split 20 rfl ?_ ?_ <;> (clear F;intro h20 F)
 ·
  replace h20:=Ep h20;refine Xf F rfl (Xr (f:=3) (k:=3) XM rfl Yo rfl rfl rfl (Xc Yp rfl (H.cell 1 rfl rfl) (Xx X7 rfl (Xe rfl rfl QF (Xy rfl rfl (qNK hK4 ?_))))));clear hK4;clear F a;intro a F
  refine cIf F rfl (fun h26=>?_) (fun h26=>?_)
  ·
   replace h26:=of_decide_eq_true h26
   have hmb:Mm p mc s t=(s (t * 9)).toNat:=if_pos ⟨h20,by omega⟩
   refine JY (Xf F rfl (Xr (f:=0) (k:=0) XG rfl Yc rfl rfl rfl ?_));clear F a;intro a F
   refine Ed XW XN F rfl rfl rfl rfl ?_ ?_
   focus (omega)
   clear F a;intro a F;refine Xe2 (f:=0) XK rfl XH rfl rfl F rfl rfl rfl (Xc XJ rfl (H.ce' 0 rfl) (qCv XO XT rfl rfl rfl (QG _) (Xd rfl (qNK hK3 ?_))));clear hK3;clear F a;intro a F;refine JD (fun K5 hK5=>?_);refine cSR fun K6 hK6=>Xf F rfl (Xh rfl (Xe rfl rfl L3 (qNK hK6 ?_)));clear hK6;clear F a;intro a F
   refine cIf F rfl (fun h35=>?_) (fun h35=>?_)
   ·
    replace h35:=of_decide_eq_true h35
    have hmo:¬ JA s t≤Mm p mc s t:=by rw [hmb];omega
    refine cSR fun K7 hK7=>Xa F rfl (qNK hK7 ?_);clear hK7;clear F a;intro a F;refine wp_ret ?_;simp only [Exit.then];refine JI YE F rfl ?_
    refine ⟨?_,H.below⟩
    clear F H
    exact Q5 (BQ hmo)
   replace h35:=of_decide_eq_false h35
   have hmo:JA s t≤Mm p mc s t:=by rw [hmb];omega
   refine wp_skip (hK5 _ _ ?_);clear hK5;refine JD (fun K8 hK8=>?_);refine cSR fun K9 hK9=>Xf F rfl (Xr (f:=2) (k:=42) XG rfl Yb rfl rfl rfl ?_);clear F a;intro a F
   refine sIa XZ Yi F rfl rfl rfl rfl ?_ ?_
   focus (omega)
   clear F a;intro a F;refine Xs X2 rfl Yi F rfl (H.ra' 0 _ 24 rfl) (Xh rfl (qNK hK9 ?_));clear hK9;clear F a;intro a F;refine wp_block ?_
   refine JN [1,3,4,6,10,39] (fun m ups w=>∃ j:Nat,m=12 - j∧ups=[(40,.int .i64 ((j:Nat):Int))]∧j≤12∧(∀ i,i < j→Qo p mc s t i=true)∧Own w0 none w [.blk b6 (bs 142 s) 60,.blk b4 ([.string p.name,.slice LA p.locs.length LC,.slice IA p.init.length IC,.slice TA p.threads.length TC,b8 p.ask]++[c1,c2,c3,c4,c5]) 29]) F (12) [(40,.int .i64 ((0:Nat):Int))] ?_ ?_
   · exact ⟨0,rfl,rfl,by omega,fun i hi=>absurd hi (by omega),H.sel [0,1] rfl rfl⟩
   clear F
   clear H
   intro m ups a w hI F
   obtain ⟨j,rfl,rfl,hj,hok,H⟩:=hI
   refine cSR fun K10 hK10=>Xg F rfl rfl QF (qNK hK10 ?_);clear hK10;clear F a;intro a F;refine JD (fun K11 hK11=>?_)
   refine cIf F rfl (fun h41=>?_) (fun h41=>?_)
   ·
    replace h41:=of_decide_eq_true h41;refine wp_skip (hK11 _ _ ?_);clear hK11;refine JD (fun K12 hK12=>?_);refine wp_block ?_;refine cSR fun K13 hK13=>Xf F rfl ?_;clear F a;intro a F
    refine Xj4 X2 XS isAgg55 F rfl rfl rfl rfl ?_ ?_ ?_
    focus omega
    focus omega
    clear F a;intro a F;refine Mo H Xeg F rfl rfl ?_;clear F a H;intro b12 a w F H;refine Xa F rfl ?_;clear F a;intro a F;refine Xt H 0 XS F rfl rfl rfl ?_;clear H;intro w H;rw [JE] at H;refine nK hK13 ?_;clear hK13;refine JD (fun K14 hK14=>?_);refine cSR fun K15 hK15=>Xf F rfl (Xh rfl (Xe rfl rfl Cb (qNK hK15 ?_)));clear hK15;clear F a;intro a F
    refine cIf F rfl (fun h46=>?_) (fun h46=>?_)
    ·
     replace h46:=of_decide_eq_true h46;refine JD (fun K16 hK16=>?_);refine cSR fun K17 hK17=>Xs XQ rfl XS F rfl (H.whole 0 rfl) (Xhx (places:=[(0,1),(1,1)]) Xeg XQ (by kernel_rfl) rfl rfl rfl FillB.nil (Xe rfl rfl (XjD eT55 gT55 rfl) (qNK hK17 ?_)));clear hK17;clear F a;intro a F
     refine cIf F rfl (fun h49=>?_) (fun h49=>?_)
     ·
      replace h49:=N1 h49;refine cSR fun K18 hK18=>Xa F rfl (qNK hK18 ?_);clear hK18;clear F a;intro a F;refine wp_ret ?_;refine xI ?_;refine JI YE F rfl ?_
      refine ⟨?_,H.below⟩
      clear F H
      exact Q5 (M8 (show j < 12 by omega) (Xat (by omega) h49))
     replace h49:=N2 h49;refine wp_skip (hK16 _ _ ?_);clear hK16;refine wp_exit ?_;refine hK12 _ _ (JY ?_);clear hK12
     refine Xg F rfl rfl (JJ (j:=1) ?_) ?_
     focus omega
     clear F a;intro a F;refine Xf F rfl ?_;clear F a;intro a F;refine J4 ?_
     (have hsl:Qo p mc s t j=true:=by
       exact XcK (by omega) h49
      exact ⟨_,by omega,_,⟨j+1,rfl,rfl,by omega,J9 hok hsl,H.sel [1,2] rfl rfl⟩,F.tt⟩)
    replace h46:=of_decide_eq_false h46;refine wp_skip (hK14 _ _ ?_);clear hK14;refine JD (fun K19 hK19=>?_);refine cSR fun K20 hK20=>Xb (f:=0) (k:=0) XQ rfl XH rfl rfl F rfl (Xc XJ rfl (H.ce' 0 rfl) (qCv XO XT rfl rfl rfl (QG _) (Xr (f:=1) (k:=1) XM rfl Yw rfl rfl rfl (Xc Yy rfl (H.cell 2 rfl rfl) (Xx Yk rfl (Xe rfl rfl Cb (qNK hK20 ?_)))))));clear hK20;clear F a;intro a F
    refine cIf F rfl (fun h56=>?_) (fun h56=>?_)
    ·
     replace h56:=of_decide_eq_true h56;refine cSR fun K21 hK21=>Xa F rfl (qNK hK21 ?_);clear hK21;clear F a;intro a F;refine wp_ret ?_;refine xI ?_;refine JI YE F rfl ?_
     refine ⟨?_,H.below⟩
     clear F H
     exact Q5 (M8 (show j < 12 by omega) (Xas (by omega) h56))
    replace h56:=of_decide_eq_false h56;refine wp_skip (hK19 _ _ ?_);clear hK19;refine JD (fun K22 hK22=>?_);refine Xi H ?_;replace H:=H.drew;refine Xj 0 rfl F rfl (fun w=>rMv F rfl) H qq0 (Xm 1 rfl rfl (fun a F w=>Q0 F rfl rfl (JL (y:=3))) H qq0 (Xm 2 rfl rfl (fun a F w=>rMv F rfl) H qq0 ?_));clear F a;intro a F
    refine F.split 59 rfl ?_ ?_ <;> (clear F;intro h59 F)
    ·
     replace h59:=J1 h59;refine Xj 3 rfl F rfl (fun w=>rMv F rfl) H qq0 (Xm 4 rfl rfl (fun a F w=>Q0 F rfl rfl L3) H qq0 (Xm 5 rfl rfl (fun a F w=>rPk F rfl rfl) H qq0 (Xm 6 rfl rfl (fun a F w=>rMv F rfl) H qq0 ?_)));clear F a;intro a F
     refine F.split 63 rfl ?_ ?_ <;> (clear F;intro h63 F)
     ·
      replace h63:=of_decide_eq_true h63;refine Xj 7 rfl F rfl (fun w=>rMv F rfl) H qq0 (Xm 8 rfl rfl (fun a F w=>rMv F rfl) H qq0 ?_);clear F a;intro a F
      refine Xq (k:=9) (i:=9) rfl F rfl (fun w=>Q0 F rfl rfl (Es (j:=1) ?_ ?_)) H (fun _ _ _ h=>h) ?_
      focus omega
      focus omega
      clear F a;intro a F;refine Xj 10 rfl F rfl (fun w=>rFa (f:=2) (k:=42) XG rfl Yb rfl rfl F rfl) H qq0 ?_;clear F a;intro a F
      refine Xq (k:=11) (i:=11) rfl F rfl (fun w=>rIa XZ Yi F rfl rfl ?_) H (fun _ _ _ h=>h) ?_
      focus (omega)
      clear F a;intro a F
      refine Xq (k:=12) (i:=12) rfl F rfl (fun w=>rIa X2 XS F rfl rfl ?_) H (fun _ _ _ h=>h) ?_
      focus (omega)
      clear F a;intro a F;refine Xj 13 rfl F rfl (fun w=>Xct (f:=0) XQ rfl XH rfl rfl F rfl) H qq0 (Xl 14 rfl rfl rfl (fun a F w H=>rLd XJ F rfl (H.ce' 1 rfl)) H qq0 (Xm 15 rfl rfl (fun a F w=>rFa (f:=0) (k:=0) XQ rfl XH rfl rfl F rfl) H qq0 (Xl 16 rfl rfl rfl (fun a F w H=>rLd XJ F rfl (H.ce' 0 rfl)) H qq0 (Xm 17 rfl rfl (fun a F w=>Q0 F rfl rfl DY) H qq0 (Xm 18 rfl rfl (fun a F w=>rPk F rfl rfl) H qq0 ?_)))));clear F a;intro a F;refine Xp (k:=19) ?_;refine hK22 _ _ ?_;clear hK22
      refine cIf F rfl (fun h75=>?_) (fun h75=>?_)
      ·
       replace h75:=of_decide_eq_true h75;refine cSR fun K23 hK23=>Xa F rfl (qNK hK23 ?_);clear hK23;clear F a;intro a F;refine wp_ret ?_;refine xI ?_;refine JI YE F rfl ?_
       refine ⟨?_,H.below⟩
       clear F H
       exact Q5 (M8 (show j < 12 by omega) (Xar (by omega) h59 (by omega) h75))
      replace h75:=of_decide_eq_false h75;refine wp_skip (hK12 _ _ (JY ?_));clear hK12
      refine Xg F rfl rfl (JJ (j:=1) ?_) ?_
      focus omega
      clear F a;intro a F;refine Xf F rfl ?_;clear F a;intro a F;refine J4 ?_
      (have hsl:Qo p mc s t j=true:=by
        exact MX (by omega) h56 (fun hh=>h75 hh.2.2)
       exact ⟨_,by omega,_,⟨j+1,rfl,rfl,by omega,J9 hok hsl,H.sel [1,2] rfl rfl⟩,F.tt⟩)
     replace h63:=of_decide_eq_false h63;refine Xz 7 rfl F rfl H qq0 (XA 8 rfl rfl H qq0 (XA 9 rfl rfl H qq0 (XA 10 rfl rfl H qq0 (XA 11 rfl rfl H qq0 (XA 12 rfl rfl H qq0 (XA 13 rfl rfl H qq0 (XA 14 rfl rfl H qq0 (XA 15 rfl rfl H qq0 (XA 16 rfl rfl H qq0 (XA 17 rfl rfl H qq0 (Xm 18 rfl rfl (fun a F w=>rPk F rfl rfl) H qq0 ?_)))))))))));clear F a;intro a F;refine Xp (k:=19) ?_;refine hK22 _ _ ?_;clear hK22;refine LB F rfl ?_;refine wp_skip (hK12 _ _ (JY ?_));clear hK12
     refine Xg F rfl rfl (JJ (j:=1) ?_) ?_
     focus omega
     clear F a;intro a F;refine Xf F rfl ?_;clear F a;intro a F;refine J4 ?_
     (have hsl:Qo p mc s t j=true:=by
       exact MX (by omega) h56 (fun hh=>absurd hh.2.1 (by omega))
      exact ⟨_,by omega,_,⟨j+1,rfl,rfl,by omega,J9 hok hsl,H.sel [1,2] rfl rfl⟩,F.tt⟩)
    replace h59:=J2 h59;refine Xz 3 rfl F rfl H qq0 (XA 4 rfl rfl H qq0 (Xm 5 rfl rfl (fun a F w=>rPk F rfl rfl) H qq0 (Xm 6 rfl rfl (fun a F w=>rMv F rfl) H qq0 (XA 7 rfl rfl H qq0 (XA 8 rfl rfl H qq0 (XA 9 rfl rfl H qq0 (XA 10 rfl rfl H qq0 (XA 11 rfl rfl H qq0 (XA 12 rfl rfl H qq0 (XA 13 rfl rfl H qq0 (XA 14 rfl rfl H qq0 (XA 15 rfl rfl H qq0 (XA 16 rfl rfl H qq0 (XA 17 rfl rfl H qq0 (Xm 18 rfl rfl (fun a F w=>rPk F rfl rfl) H qq0 ?_)))))))))))))));clear F a;intro a F;refine Xp (k:=19) ?_;refine hK22 _ _ ?_;clear hK22;refine LB F rfl ?_;refine wp_skip (hK12 _ _ (JY ?_));clear hK12
    refine Xg F rfl rfl (JJ (j:=1) ?_) ?_
    focus omega
    clear F a;intro a F;refine Xf F rfl ?_;clear F a;intro a F;refine J4 ?_
    (have hsl:Qo p mc s t j=true:=by
      exact MX (by omega) h56 (fun hh=>h59 hh.1)
     exact ⟨_,by omega,_,⟨j+1,rfl,rfl,by omega,J9 hok hsl,H.sel [1,2] rfl rfl⟩,F.tt⟩)
   replace h41:=of_decide_eq_false h41
   obtain rfl:j=12:=by omega
   refine wp_exit ?_;refine hK8 _ _ (cSR fun K24 hK24=>Xa F rfl (qNK hK24 ?_));clear hK8 hK24;clear F a;intro a F;refine wp_ret ?_;refine JI YE F rfl ?_
   refine ⟨?_,H.below⟩
   clear F H
   exact Q5 (XaT hmo hok)
  replace h26:=of_decide_eq_false h26
  have hmb:Mm p mc s t=0:=if_neg (fun h=>by omega)
  refine wp_skip (hK3 _ _ ?_);clear hK3;refine JD (fun K25 hK25=>?_);refine cSR fun K26 hK26=>Xf F rfl (Xh rfl (Xe rfl rfl L3 (qNK hK26 ?_)));clear hK26;clear F a;intro a F
  refine cIf F rfl (fun h35=>?_) (fun h35=>?_)
  ·
   replace h35:=of_decide_eq_true h35
   have hmo:¬ JA s t≤Mm p mc s t:=by rw [hmb];omega
   refine cSR fun K27 hK27=>Xa F rfl (qNK hK27 ?_);clear hK27;clear F a;intro a F;refine wp_ret ?_;simp only [Exit.then];refine JI YE F rfl ?_
   refine ⟨?_,H.below⟩
   clear F H
   exact Q5 (BQ hmo)
  replace h35:=of_decide_eq_false h35
  have hmo:JA s t≤Mm p mc s t:=by rw [hmb];omega
  refine wp_skip (hK25 _ _ ?_);clear hK25;refine JD (fun K28 hK28=>?_);refine cSR fun K29 hK29=>Xf F rfl (Xr (f:=2) (k:=42) XG rfl Yb rfl rfl rfl ?_);clear F a;intro a F
  refine sIa XZ Yi F rfl rfl rfl rfl ?_ ?_
  focus (omega)
  clear F a;intro a F;refine Xs X2 rfl Yi F rfl (H.ra' 0 _ 24 rfl) (Xh rfl (qNK hK29 ?_));clear hK29;clear F a;intro a F;refine wp_block ?_
  refine JN [1,3,4,6,10,39] (fun m ups w=>∃ j:Nat,m=12 - j∧ups=[(40,.int .i64 ((j:Nat):Int))]∧j≤12∧(∀ i,i < j→Qo p mc s t i=true)∧Own w0 none w [.blk b6 (bs 142 s) 60,.blk b4 ([.string p.name,.slice LA p.locs.length LC,.slice IA p.init.length IC,.slice TA p.threads.length TC,b8 p.ask]++[c1,c2,c3,c4,c5]) 29]) F (12) [(40,.int .i64 ((0:Nat):Int))] ?_ ?_
  · exact ⟨0,rfl,rfl,by omega,fun i hi=>absurd hi (by omega),H.sel [0,1] rfl rfl⟩
  clear F
  clear H
  intro m ups a w hI F
  obtain ⟨j,rfl,rfl,hj,hok,H⟩:=hI
  refine cSR fun K30 hK30=>Xg F rfl rfl QF (qNK hK30 ?_);clear hK30;clear F a;intro a F;refine JD (fun K31 hK31=>?_)
  refine cIf F rfl (fun h41=>?_) (fun h41=>?_)
  ·
   replace h41:=of_decide_eq_true h41;refine wp_skip (hK31 _ _ ?_);clear hK31;refine JD (fun K32 hK32=>?_);refine wp_block ?_;refine cSR fun K33 hK33=>Xf F rfl ?_;clear F a;intro a F
   refine Xj4 X2 XS isAgg55 F rfl rfl rfl rfl ?_ ?_ ?_
   focus omega
   focus omega
   clear F a;intro a F;refine Mo H Xeg F rfl rfl ?_;clear F a H;intro b12 a w F H;refine Xa F rfl ?_;clear F a;intro a F;refine Xt H 0 XS F rfl rfl rfl ?_;clear H;intro w H;rw [JE] at H;refine nK hK33 ?_;clear hK33;refine JD (fun K34 hK34=>?_);refine cSR fun K35 hK35=>Xf F rfl (Xh rfl (Xe rfl rfl Cb (qNK hK35 ?_)));clear hK35;clear F a;intro a F
   refine cIf F rfl (fun h46=>?_) (fun h46=>?_)
   ·
    replace h46:=of_decide_eq_true h46;refine JD (fun K36 hK36=>?_);refine cSR fun K37 hK37=>Xs XQ rfl XS F rfl (H.whole 0 rfl) (Xhx (places:=[(0,1),(1,1)]) Xeg XQ (by kernel_rfl) rfl rfl rfl FillB.nil (Xe rfl rfl (XjD eT55 gT55 rfl) (qNK hK37 ?_)));clear hK37;clear F a;intro a F
    refine cIf F rfl (fun h49=>?_) (fun h49=>?_)
    ·
     replace h49:=N1 h49;refine cSR fun K38 hK38=>Xa F rfl (qNK hK38 ?_);clear hK38;clear F a;intro a F;refine wp_ret ?_;refine xI ?_;refine JI YE F rfl ?_
     refine ⟨?_,H.below⟩
     clear F H
     exact Q5 (M8 (show j < 12 by omega) (Xat (by omega) h49))
    replace h49:=N2 h49;refine wp_skip (hK36 _ _ ?_);clear hK36;refine wp_exit ?_;refine hK32 _ _ (JY ?_);clear hK32
    refine Xg F rfl rfl (JJ (j:=1) ?_) ?_
    focus omega
    clear F a;intro a F;refine Xf F rfl ?_;clear F a;intro a F;refine J4 ?_
    (have hsl:Qo p mc s t j=true:=by
      exact XcK (by omega) h49
     exact ⟨_,by omega,_,⟨j+1,rfl,rfl,by omega,J9 hok hsl,H.sel [1,2] rfl rfl⟩,F.tt⟩)
   replace h46:=of_decide_eq_false h46;refine wp_skip (hK34 _ _ ?_);clear hK34;refine JD (fun K39 hK39=>?_);refine cSR fun K40 hK40=>Xb (f:=0) (k:=0) XQ rfl XH rfl rfl F rfl (Xc XJ rfl (H.ce' 0 rfl) (qCv XO XT rfl rfl rfl (QG _) (Xr (f:=1) (k:=1) XM rfl Yw rfl rfl rfl (Xc Yy rfl (H.cell 2 rfl rfl) (Xx Yk rfl (Xe rfl rfl Cb (qNK hK40 ?_)))))));clear hK40;clear F a;intro a F
   refine cIf F rfl (fun h56=>?_) (fun h56=>?_)
   ·
    replace h56:=of_decide_eq_true h56;refine cSR fun K41 hK41=>Xa F rfl (qNK hK41 ?_);clear hK41;clear F a;intro a F;refine wp_ret ?_;refine xI ?_;refine JI YE F rfl ?_
    refine ⟨?_,H.below⟩
    clear F H
    exact Q5 (M8 (show j < 12 by omega) (Xas (by omega) h56))
   replace h56:=of_decide_eq_false h56;refine wp_skip (hK39 _ _ ?_);clear hK39;refine JD (fun K42 hK42=>?_);refine Xi H ?_;replace H:=H.drew;refine Xj 0 rfl F rfl (fun w=>rMv F rfl) H qq0 (Xm 1 rfl rfl (fun a F w=>Q0 F rfl rfl (JL (y:=3))) H qq0 (Xm 2 rfl rfl (fun a F w=>rMv F rfl) H qq0 ?_));clear F a;intro a F
   refine F.split 59 rfl ?_ ?_ <;> (clear F;intro h59 F)
   ·
    replace h59:=J1 h59;refine Xj 3 rfl F rfl (fun w=>rMv F rfl) H qq0 (Xm 4 rfl rfl (fun a F w=>Q0 F rfl rfl L3) H qq0 (Xm 5 rfl rfl (fun a F w=>rPk F rfl rfl) H qq0 (Xm 6 rfl rfl (fun a F w=>rMv F rfl) H qq0 ?_)));clear F a;intro a F
    refine F.split 63 rfl ?_ ?_ <;> (clear F;intro h63 F)
    ·
     replace h63:=of_decide_eq_true h63;refine Xj 7 rfl F rfl (fun w=>rMv F rfl) H qq0 (Xm 8 rfl rfl (fun a F w=>rMv F rfl) H qq0 ?_);clear F a;intro a F
     refine Xq (k:=9) (i:=9) rfl F rfl (fun w=>Q0 F rfl rfl (Es (j:=1) ?_ ?_)) H (fun _ _ _ h=>h) ?_
     focus omega
     focus omega
     clear F a;intro a F;refine Xj 10 rfl F rfl (fun w=>rFa (f:=2) (k:=42) XG rfl Yb rfl rfl F rfl) H qq0 ?_;clear F a;intro a F
     refine Xq (k:=11) (i:=11) rfl F rfl (fun w=>rIa XZ Yi F rfl rfl ?_) H (fun _ _ _ h=>h) ?_
     focus (omega)
     clear F a;intro a F
     refine Xq (k:=12) (i:=12) rfl F rfl (fun w=>rIa X2 XS F rfl rfl ?_) H (fun _ _ _ h=>h) ?_
     focus (omega)
     clear F a;intro a F;refine Xj 13 rfl F rfl (fun w=>Xct (f:=0) XQ rfl XH rfl rfl F rfl) H qq0 (Xl 14 rfl rfl rfl (fun a F w H=>rLd XJ F rfl (H.ce' 1 rfl)) H qq0 (Xm 15 rfl rfl (fun a F w=>rFa (f:=0) (k:=0) XQ rfl XH rfl rfl F rfl) H qq0 (Xl 16 rfl rfl rfl (fun a F w H=>rLd XJ F rfl (H.ce' 0 rfl)) H qq0 (Xm 17 rfl rfl (fun a F w=>Q0 F rfl rfl DY) H qq0 (Xm 18 rfl rfl (fun a F w=>rPk F rfl rfl) H qq0 ?_)))));clear F a;intro a F;refine Xp (k:=19) ?_;refine hK42 _ _ ?_;clear hK42
     refine cIf F rfl (fun h75=>?_) (fun h75=>?_)
     ·
      replace h75:=of_decide_eq_true h75;refine cSR fun K43 hK43=>Xa F rfl (qNK hK43 ?_);clear hK43;clear F a;intro a F;refine wp_ret ?_;refine xI ?_;refine JI YE F rfl ?_
      refine ⟨?_,H.below⟩
      clear F H
      exact Q5 (M8 (show j < 12 by omega) (Xar (by omega) h59 (by omega) h75))
     replace h75:=of_decide_eq_false h75;refine wp_skip (hK32 _ _ (JY ?_));clear hK32
     refine Xg F rfl rfl (JJ (j:=1) ?_) ?_
     focus omega
     clear F a;intro a F;refine Xf F rfl ?_;clear F a;intro a F;refine J4 ?_
     (have hsl:Qo p mc s t j=true:=by
       exact MX (by omega) h56 (fun hh=>absurd hh.2.1 (by omega))
      exact ⟨_,by omega,_,⟨j+1,rfl,rfl,by omega,J9 hok hsl,H.sel [1,2] rfl rfl⟩,F.tt⟩)
    replace h63:=of_decide_eq_false h63;refine Xz 7 rfl F rfl H qq0 (XA 8 rfl rfl H qq0 (XA 9 rfl rfl H qq0 (XA 10 rfl rfl H qq0 (XA 11 rfl rfl H qq0 (XA 12 rfl rfl H qq0 (XA 13 rfl rfl H qq0 (XA 14 rfl rfl H qq0 (XA 15 rfl rfl H qq0 (XA 16 rfl rfl H qq0 (XA 17 rfl rfl H qq0 (Xm 18 rfl rfl (fun a F w=>rPk F rfl rfl) H qq0 ?_)))))))))));clear F a;intro a F;refine Xp (k:=19) ?_;refine hK42 _ _ ?_;clear hK42;refine LB F rfl ?_;refine wp_skip (hK32 _ _ (JY ?_));clear hK32
    refine Xg F rfl rfl (JJ (j:=1) ?_) ?_
    focus omega
    clear F a;intro a F;refine Xf F rfl ?_;clear F a;intro a F;refine J4 ?_
    (have hsl:Qo p mc s t j=true:=by
      exact MX (by omega) h56 (fun hh=>absurd hh.2.1 (by omega))
     exact ⟨_,by omega,_,⟨j+1,rfl,rfl,by omega,J9 hok hsl,H.sel [1,2] rfl rfl⟩,F.tt⟩)
   replace h59:=J2 h59;refine Xz 3 rfl F rfl H qq0 (XA 4 rfl rfl H qq0 (Xm 5 rfl rfl (fun a F w=>rPk F rfl rfl) H qq0 (Xm 6 rfl rfl (fun a F w=>rMv F rfl) H qq0 (XA 7 rfl rfl H qq0 (XA 8 rfl rfl H qq0 (XA 9 rfl rfl H qq0 (XA 10 rfl rfl H qq0 (XA 11 rfl rfl H qq0 (XA 12 rfl rfl H qq0 (XA 13 rfl rfl H qq0 (XA 14 rfl rfl H qq0 (XA 15 rfl rfl H qq0 (XA 16 rfl rfl H qq0 (XA 17 rfl rfl H qq0 (Xm 18 rfl rfl (fun a F w=>rPk F rfl rfl) H qq0 ?_)))))))))))))));clear F a;intro a F;refine Xp (k:=19) ?_;refine hK42 _ _ ?_;clear hK42;refine LB F rfl ?_;refine wp_skip (hK32 _ _ (JY ?_));clear hK32
   refine Xg F rfl rfl (JJ (j:=1) ?_) ?_
   focus omega
   clear F a;intro a F;refine Xf F rfl ?_;clear F a;intro a F;refine J4 ?_
   (have hsl:Qo p mc s t j=true:=by
     exact MX (by omega) h56 (fun hh=>h59 hh.1)
    exact ⟨_,by omega,_,⟨j+1,rfl,rfl,by omega,J9 hok hsl,H.sel [1,2] rfl rfl⟩,F.tt⟩)
  replace h41:=of_decide_eq_false h41
  obtain rfl:j=12:=by omega
  refine wp_exit ?_;refine hK28 _ _ (cSR fun K44 hK44=>Xa F rfl (qNK hK44 ?_));clear hK28 hK44;clear F a;intro a F;refine wp_ret ?_;refine JI YE F rfl ?_
  refine ⟨?_,H.below⟩
  clear F H
  exact Q5 (XaT hmo hok)
 replace h20:=Er h20
 have hmb:Mm p mc s t=0:=if_neg (fun h=>h.1 h20)
 refine XB F (XC (XC (XC (XC (Xy rfl rfl (qNK hK4 ?_))))));clear hK4;clear F a;intro a F;refine LB F rfl ?_;refine wp_skip (hK3 _ _ ?_);clear hK3;refine JD (fun K45 hK45=>?_);refine cSR fun K46 hK46=>Xf F rfl (Xh rfl (Xe rfl rfl L3 (qNK hK46 ?_)));clear hK46;clear F a;intro a F
 refine cIf F rfl (fun h35=>?_) (fun h35=>?_)
 ·
  replace h35:=of_decide_eq_true h35
  have hmo:¬ JA s t≤Mm p mc s t:=by rw [hmb];omega
  refine cSR fun K47 hK47=>Xa F rfl (qNK hK47 ?_);clear hK47;clear F a;intro a F;refine wp_ret ?_;simp only [Exit.then];refine JI YE F rfl ?_
  refine ⟨?_,H.below⟩
  clear F H
  exact Q5 (BQ hmo)
 replace h35:=of_decide_eq_false h35
 have hmo:JA s t≤Mm p mc s t:=by rw [hmb];omega
 refine wp_skip (hK45 _ _ ?_);clear hK45;refine JD (fun K48 hK48=>?_);refine cSR fun K49 hK49=>Xf F rfl (Xr (f:=2) (k:=42) XG rfl Yb rfl rfl rfl ?_);clear F a;intro a F
 refine sIa XZ Yi F rfl rfl rfl rfl ?_ ?_
 focus (omega)
 clear F a;intro a F;refine Xs X2 rfl Yi F rfl (H.ra' 0 _ 24 rfl) (Xh rfl (qNK hK49 ?_));clear hK49;clear F a;intro a F;refine wp_block ?_
 refine JN [1,3,4,6,10,39] (fun m ups w=>∃ j:Nat,m=12 - j∧ups=[(40,.int .i64 ((j:Nat):Int))]∧j≤12∧(∀ i,i < j→Qo p mc s t i=true)∧Own w0 none w [.blk b6 (bs 142 s) 60,.blk b4 ([.string p.name,.slice LA p.locs.length LC,.slice IA p.init.length IC,.slice TA p.threads.length TC,b8 p.ask]++[c1,c2,c3,c4,c5]) 29]) F (12) [(40,.int .i64 ((0:Nat):Int))] ?_ ?_
 · exact ⟨0,rfl,rfl,by omega,fun i hi=>absurd hi (by omega),H.sel [0,1] rfl rfl⟩
 clear F
 clear H
 intro m ups a w hI F
 obtain ⟨j,rfl,rfl,hj,hok,H⟩:=hI
 refine cSR fun K50 hK50=>Xg F rfl rfl QF (qNK hK50 ?_);clear hK50;clear F a;intro a F;refine JD (fun K51 hK51=>?_)
 refine cIf F rfl (fun h41=>?_) (fun h41=>?_)
 ·
  replace h41:=of_decide_eq_true h41;refine wp_skip (hK51 _ _ ?_);clear hK51;refine JD (fun K52 hK52=>?_);refine wp_block ?_;refine cSR fun K53 hK53=>Xf F rfl ?_;clear F a;intro a F
  refine Xj4 X2 XS isAgg55 F rfl rfl rfl rfl ?_ ?_ ?_
  focus omega
  focus omega
  clear F a;intro a F;refine Mo H Xeg F rfl rfl ?_;clear F a H;intro b12 a w F H;refine Xa F rfl ?_;clear F a;intro a F;refine Xt H 0 XS F rfl rfl rfl ?_;clear H;intro w H;rw [JE] at H;refine nK hK53 ?_;clear hK53;refine JD (fun K54 hK54=>?_);refine cSR fun K55 hK55=>Xf F rfl (Xh rfl (Xe rfl rfl Cb (qNK hK55 ?_)));clear hK55;clear F a;intro a F
  refine cIf F rfl (fun h46=>?_) (fun h46=>?_)
  ·
   replace h46:=of_decide_eq_true h46;refine JD (fun K56 hK56=>?_);refine cSR fun K57 hK57=>Xs XQ rfl XS F rfl (H.whole 0 rfl) (Xhx (places:=[(0,1),(1,1)]) Xeg XQ (by kernel_rfl) rfl rfl rfl FillB.nil (Xe rfl rfl (XjD eT55 gT55 rfl) (qNK hK57 ?_)));clear hK57;clear F a;intro a F
   refine cIf F rfl (fun h49=>?_) (fun h49=>?_)
   ·
    replace h49:=N1 h49;refine cSR fun K58 hK58=>Xa F rfl (qNK hK58 ?_);clear hK58;clear F a;intro a F;refine wp_ret ?_;refine xI ?_;refine JI YE F rfl ?_
    refine ⟨?_,H.below⟩
    clear F H
    exact Q5 (M8 (show j < 12 by omega) (Xat (by omega) h49))
   replace h49:=N2 h49;refine wp_skip (hK56 _ _ ?_);clear hK56;refine wp_exit ?_;refine hK52 _ _ (JY ?_);clear hK52
   refine Xg F rfl rfl (JJ (j:=1) ?_) ?_
   focus omega
   clear F a;intro a F;refine Xf F rfl ?_;clear F a;intro a F;refine J4 ?_
   (have hsl:Qo p mc s t j=true:=by
     exact XcK (by omega) h49
    exact ⟨_,by omega,_,⟨j+1,rfl,rfl,by omega,J9 hok hsl,H.sel [1,2] rfl rfl⟩,F.tt⟩)
  replace h46:=of_decide_eq_false h46;refine wp_skip (hK54 _ _ ?_);clear hK54;refine JD (fun K59 hK59=>?_);refine cSR fun K60 hK60=>Xb (f:=0) (k:=0) XQ rfl XH rfl rfl F rfl (Xc XJ rfl (H.ce' 0 rfl) (qCv XO XT rfl rfl rfl (QG _) (Xr (f:=1) (k:=1) XM rfl Yw rfl rfl rfl (Xc Yy rfl (H.cell 2 rfl rfl) (Xx Yk rfl (Xe rfl rfl Cb (qNK hK60 ?_)))))));clear hK60;clear F a;intro a F
  refine cIf F rfl (fun h56=>?_) (fun h56=>?_)
  ·
   replace h56:=of_decide_eq_true h56;refine cSR fun K61 hK61=>Xa F rfl (qNK hK61 ?_);clear hK61;clear F a;intro a F;refine wp_ret ?_;refine xI ?_;refine JI YE F rfl ?_
   refine ⟨?_,H.below⟩
   clear F H
   exact Q5 (M8 (show j < 12 by omega) (Xas (by omega) h56))
  replace h56:=of_decide_eq_false h56;refine wp_skip (hK59 _ _ ?_);clear hK59;refine JD (fun K62 hK62=>?_);refine Xi H ?_;replace H:=H.drew;refine Xj 0 rfl F rfl (fun w=>rMv F rfl) H qq0 (Xm 1 rfl rfl (fun a F w=>Q0 F rfl rfl (JL (y:=3))) H qq0 (Xm 2 rfl rfl (fun a F w=>rMv F rfl) H qq0 ?_));clear F a;intro a F
  refine F.split 59 rfl ?_ ?_ <;> (clear F;intro h59 F)
  ·
   replace h59:=J1 h59;refine Xj 3 rfl F rfl (fun w=>rMv F rfl) H qq0 (Xm 4 rfl rfl (fun a F w=>Q0 F rfl rfl L3) H qq0 (Xm 5 rfl rfl (fun a F w=>rPk F rfl rfl) H qq0 (Xm 6 rfl rfl (fun a F w=>rMv F rfl) H qq0 ?_)));clear F a;intro a F
   refine F.split 63 rfl ?_ ?_ <;> (clear F;intro h63 F)
   ·
    replace h63:=of_decide_eq_true h63;refine Xj 7 rfl F rfl (fun w=>rMv F rfl) H qq0 (Xm 8 rfl rfl (fun a F w=>rMv F rfl) H qq0 ?_);clear F a;intro a F
    refine Xq (k:=9) (i:=9) rfl F rfl (fun w=>Q0 F rfl rfl (Es (j:=1) ?_ ?_)) H (fun _ _ _ h=>h) ?_
    focus omega
    focus omega
    clear F a;intro a F;refine Xj 10 rfl F rfl (fun w=>rFa (f:=2) (k:=42) XG rfl Yb rfl rfl F rfl) H qq0 ?_;clear F a;intro a F
    refine Xq (k:=11) (i:=11) rfl F rfl (fun w=>rIa XZ Yi F rfl rfl ?_) H (fun _ _ _ h=>h) ?_
    focus (omega)
    clear F a;intro a F
    refine Xq (k:=12) (i:=12) rfl F rfl (fun w=>rIa X2 XS F rfl rfl ?_) H (fun _ _ _ h=>h) ?_
    focus (omega)
    clear F a;intro a F;refine Xj 13 rfl F rfl (fun w=>Xct (f:=0) XQ rfl XH rfl rfl F rfl) H qq0 (Xl 14 rfl rfl rfl (fun a F w H=>rLd XJ F rfl (H.ce' 1 rfl)) H qq0 (Xm 15 rfl rfl (fun a F w=>rFa (f:=0) (k:=0) XQ rfl XH rfl rfl F rfl) H qq0 (Xl 16 rfl rfl rfl (fun a F w H=>rLd XJ F rfl (H.ce' 0 rfl)) H qq0 (Xm 17 rfl rfl (fun a F w=>Q0 F rfl rfl DY) H qq0 (Xm 18 rfl rfl (fun a F w=>rPk F rfl rfl) H qq0 ?_)))));clear F a;intro a F;refine Xp (k:=19) ?_;refine hK62 _ _ ?_;clear hK62
    refine cIf F rfl (fun h75=>?_) (fun h75=>?_)
    ·
     replace h75:=of_decide_eq_true h75;refine cSR fun K63 hK63=>Xa F rfl (qNK hK63 ?_);clear hK63;clear F a;intro a F;refine wp_ret ?_;refine xI ?_;refine JI YE F rfl ?_
     refine ⟨?_,H.below⟩
     clear F H
     exact Q5 (M8 (show j < 12 by omega) (Xar (by omega) h59 (by omega) h75))
    replace h75:=of_decide_eq_false h75;refine wp_skip (hK52 _ _ (JY ?_));clear hK52
    refine Xg F rfl rfl (JJ (j:=1) ?_) ?_
    focus omega
    clear F a;intro a F;refine Xf F rfl ?_;clear F a;intro a F;refine J4 ?_
    (have hsl:Qo p mc s t j=true:=by
      exact MX (by omega) h56 (fun hh=>absurd hh.2.1 (by omega))
     exact ⟨_,by omega,_,⟨j+1,rfl,rfl,by omega,J9 hok hsl,H.sel [1,2] rfl rfl⟩,F.tt⟩)
   replace h63:=of_decide_eq_false h63;refine Xz 7 rfl F rfl H qq0 (XA 8 rfl rfl H qq0 (XA 9 rfl rfl H qq0 (XA 10 rfl rfl H qq0 (XA 11 rfl rfl H qq0 (XA 12 rfl rfl H qq0 (XA 13 rfl rfl H qq0 (XA 14 rfl rfl H qq0 (XA 15 rfl rfl H qq0 (XA 16 rfl rfl H qq0 (XA 17 rfl rfl H qq0 (Xm 18 rfl rfl (fun a F w=>rPk F rfl rfl) H qq0 ?_)))))))))));clear F a;intro a F;refine Xp (k:=19) ?_;refine hK62 _ _ ?_;clear hK62;refine LB F rfl ?_;refine wp_skip (hK52 _ _ (JY ?_));clear hK52
   refine Xg F rfl rfl (JJ (j:=1) ?_) ?_
   focus omega
   clear F a;intro a F;refine Xf F rfl ?_;clear F a;intro a F;refine J4 ?_
   (have hsl:Qo p mc s t j=true:=by
     exact MX (by omega) h56 (fun hh=>absurd hh.2.1 (by omega))
    exact ⟨_,by omega,_,⟨j+1,rfl,rfl,by omega,J9 hok hsl,H.sel [1,2] rfl rfl⟩,F.tt⟩)
  replace h59:=J2 h59;refine Xz 3 rfl F rfl H qq0 (XA 4 rfl rfl H qq0 (Xm 5 rfl rfl (fun a F w=>rPk F rfl rfl) H qq0 (Xm 6 rfl rfl (fun a F w=>rMv F rfl) H qq0 (XA 7 rfl rfl H qq0 (XA 8 rfl rfl H qq0 (XA 9 rfl rfl H qq0 (XA 10 rfl rfl H qq0 (XA 11 rfl rfl H qq0 (XA 12 rfl rfl H qq0 (XA 13 rfl rfl H qq0 (XA 14 rfl rfl H qq0 (XA 15 rfl rfl H qq0 (XA 16 rfl rfl H qq0 (XA 17 rfl rfl H qq0 (Xm 18 rfl rfl (fun a F w=>rPk F rfl rfl) H qq0 ?_)))))))))))))));clear F a;intro a F;refine Xp (k:=19) ?_;refine hK62 _ _ ?_;clear hK62;refine LB F rfl ?_;refine wp_skip (hK52 _ _ (JY ?_));clear hK52
  refine Xg F rfl rfl (JJ (j:=1) ?_) ?_
  focus omega
  clear F a;intro a F;refine Xf F rfl ?_;clear F a;intro a F;refine J4 ?_
  (have hsl:Qo p mc s t j=true:=by
    exact MX (by omega) h56 (fun hh=>h59 hh.1)
   exact ⟨_,by omega,_,⟨j+1,rfl,rfl,by omega,J9 hok hsl,H.sel [1,2] rfl rfl⟩,F.tt⟩)
 replace h41:=of_decide_eq_false h41
 obtain rfl:j=12:=by omega
 refine wp_exit ?_;refine hK48 _ _ (cSR fun K64 hK64=>Xa F rfl (qNK hK64 ?_));clear hK48 hK64;clear F a;intro a F;refine wp_ret ?_;refine JI YE F rfl ?_
 refine ⟨?_,H.below⟩
 clear F H
 exact Q5 (XaT hmo hok)
theorem Np {p:Prg} {m:UInt8} {s:By} {b:Bool} (h:N0 p m s=b):Ending.returned (.bool b) = .returned (.bool (N0 p m s)):=by rw [h]
theorem Xfw {p:Prg} {m:UInt8} {s:By} (h:QS m=false):N0 p m s=false:=by rw [N0,h];rfl
theorem Xix {p:Prg} {m:UInt8} {s:By} (h:Qi p (Qf s)=false):N0 p m s=false:=by rw [N0,h,Bool.and_false];rfl
theorem Xj5 {p:Prg} {m:UInt8} {s:By} {j:Nat} (hj:j < 4) (h:Nd p m s j=false):N0 p m s=false:=by rw [N0,LQ hj h,Bool.and_false]
theorem Xiw {p:Prg} {m:UInt8} {s:By} (h1:QS m=true) (h2:Qi p (Qf s)=true) (h3:∀ i,i < 4→Nd p m s i=true):N0 p m s=true:=by rw [N0,h1,h2,E6 h3];rfl
set_option maxHeartbeats 2000000 in
theorem Xeu (cs:List Value) (p:Prg) (w0:World) (hP:ProgAt w0 cs p) (hN:NeedsAt w0) (mc:UInt8) (s:By) :
   Calls Tryz.prog 70 #[.agg cs.toArray,YtcpehikcegoojaaGreatDoor.b8 mc,.agg (bs 142 s).toArray] w0 fun e w'=>e = .returned (.bool (N0 p mc s))∧Below w0.heap.size w0 w':=by
 have H:=Own.start w0 none
 obtain ⟨d1,d2,d3,d4,d5,d6,d7,d8,d9,d10,rfl⟩:=hP.len10
 refine JF func70 rfl ntmps70 rfl (fun a F=>?_);refine cSR fun K1 hK1=>?_;refine sBx H F rfl rfl rfl ?_;clear F a H;intro b3 a w F H;refine Mg H F rfl rfl rfl ?_;clear F a H;intro b5 a w F H;refine Xa F rfl (qNK hK1 ?_);clear hK1;clear F a;intro a F;refine JD (fun K2 hK2=>?_);refine JD (fun K3 hK3=>?_);refine Xi H ?_;replace H:=H.drew;refine Xj 0 rfl F rfl (fun w=>rMv F rfl) H qq0 ?_;clear F a;intro a F;refine Xn (k:=1) (i:=1) rfl F (J3 call83 F rfl rfl (Xgh mc _) (gG H ?_));clear F a H;intro a w F H;refine Xo H ?_;refine Xj 2 rfl F rfl (fun w=>Xg5 F rfl) H qq0 (Xm 3 rfl rfl (fun a F w=>rMv F rfl) H qq0 ?_);clear F a;intro a F
 refine F.split 11 rfl ?_ ?_ <;> (clear F;intro h11 F)
 ·
  replace h11:=N1 h11;refine Xz 4 rfl F rfl H qq0 (XA 5 rfl rfl H qq0 (XA 6 rfl rfl H qq0 (XA 7 rfl rfl H qq0 (XA 8 rfl rfl H qq0 (Xm 9 rfl rfl (fun a F w=>rPk F rfl rfl) H qq0 ?_)))));clear F a;intro a F;refine Xp (k:=10) ?_;refine hK3 _ _ ?_;clear hK3;refine MQ F rfl ?_;refine cSR fun K4 hK4=>Xa F rfl (qNK hK4 ?_);clear hK4;clear F a;intro a F;refine wp_ret ?_;simp only [Exit.then];refine JI results70 F rfl ?_
  refine ⟨?_,H.below⟩
  clear F H
  exact Np (Xfw h11)
 replace h11:=N2 h11
 refine Xk (k:=4) (i:=4) rfl F rfl rfl (fun w H=>rLr XM rfl ?si F rfl (H.whole 1 rfl)) H (fun _ _ _ h=>h) ?_
 case si=>exact Jz Ya
 clear F a;intro a F;refine Xv 5 rfl F rfl rfl (fun w H=>Nt XG rfl XL F rfl (H.whole 0 rfl)) H qq0 ?_;clear F a;intro a F;refine Xn (k:=6) (i:=6) rfl F (J3 call85 F rfl rfl (Lf s _) (gG H ?_));clear F a H;intro a w F H;refine JR H ?_;refine Xn (k:=7) (i:=7) rfl F (J3 call84 F rfl rfl (CP _ p _ (hP.own H) (hN.own H) (Qf s)) (gG H ?_));clear F a H;intro a w F H;refine Xo H ?_;refine Xj 8 rfl F rfl (fun w=>Xg5 F rfl) H qq0 (Xm 9 rfl rfl (fun a F w=>rPk F rfl rfl) H qq0 ?_);clear F a;intro a F;refine Xp (k:=10) ?_;refine hK3 _ _ ?_;clear hK3
 refine cIf F rfl (fun h17=>?_) (fun h17=>?_)
 ·
  replace h17:=N1 h17;refine cSR fun K5 hK5=>Xa F rfl (qNK hK5 ?_);clear hK5;clear F a;intro a F;refine wp_ret ?_;simp only [Exit.then];refine JI results70 F rfl ?_
  refine ⟨?_,H.below⟩
  clear F H
  exact Np (Xix h17)
 replace h17:=N2 h17;refine wp_skip (hK2 _ _ ?_);clear hK2;refine JD (fun K6 hK6=>?_);refine cSR fun K7 hK7=>Xf F rfl (qNK hK7 ?_);clear hK7;clear F a;intro a F;refine wp_block ?_
 refine JN [1,3,5] (fun m ups w=>∃ j:Nat,m=4 - j∧ups=[(18,.int .i64 ((j:Nat):Int))]∧j≤4∧(∀ i,i < j→Nd p mc s i=true)∧Own w0 none w [.blk b5 (bs 142 s) 60,.blk b3 [d1,d2,d3,d4,d5,d6,d7,d8,d9,d10] 29]) F (4) [(18,.int .i64 ((0:Nat):Int))] ?_ ?_
 · exact ⟨0,rfl,rfl,by omega,fun i hi=>absurd hi (by omega),H.sel [0,1] rfl rfl⟩
 clear F
 clear H
 intro m ups a w hI F
 obtain ⟨j,rfl,rfl,hj,hok,H⟩:=hI
 refine cSR fun K8 hK8=>Xg F rfl rfl QF (qNK hK8 ?_);clear hK8;clear F a;intro a F;refine JD (fun K9 hK9=>?_)
 refine cIf F rfl (fun h19=>?_) (fun h19=>?_)
 ·
  replace h19:=of_decide_eq_true h19;refine wp_skip (hK9 _ _ ?_);clear hK9;refine JD (fun K10 hK10=>?_);refine wp_block ?_;refine cSR fun K11 hK11=>Xf F rfl (Xd rfl (qNK hK11 (qSR fun K12 hK12=>?_)));clear hK11;clear F a;intro a F
  refine Xw XM rfl ?si F rfl (H.whole 1 rfl) ?_
  case si=>exact Jz Ya
  clear F a;intro a F;refine Xf F rfl (Nu XG rfl XL rfl rfl rfl (H.whole 0 rfl) (Xh rfl ?_));clear F a;intro a F;refine Xu call86 F rfl (XhZ _ p _ (hP.own H) mc s j (by omega)) (gG H ?_);clear F a H;intro a w F H;refine Xav F rfl rfl rfl (qNK hK12 ?_);clear hK12;clear F a;intro a F
  refine cIf F rfl (fun h26=>?_) (fun h26=>?_)
  ·
   replace h26:=N1 h26;refine cSR fun K13 hK13=>Xa F rfl (qNK hK13 ?_);clear hK13;clear F a;intro a F;refine wp_ret ?_;refine xI ?_;refine JI results70 F rfl ?_
   refine ⟨?_,H.below⟩
   clear F H
   exact Np (Xj5 (show j < 4 by omega) h26)
  replace h26:=N2 h26;refine wp_skip (hK10 _ _ (JY ?_));clear hK10
  refine Xg F rfl rfl (JJ (j:=1) ?_) ?_
  focus omega
  clear F a;intro a F;refine Xf F rfl ?_;clear F a;intro a F;refine J4 ?_
  exact ⟨_,by omega,_,⟨j+1,rfl,rfl,by omega,J9 hok h26,H.sel [0,1] rfl rfl⟩,F.tt⟩
 replace h19:=of_decide_eq_false h19
 obtain rfl:j=4:=by omega
 refine wp_exit ?_;refine hK6 _ _ (cSR fun K14 hK14=>Xa F rfl (qNK hK14 ?_));clear hK6 hK14;clear F a;intro a F;refine wp_ret ?_;refine JI results70 F rfl ?_
 refine ⟨?_,H.below⟩
 clear F H
 exact Np (Xiw h11 h17 hok)
end Go.Proofs.YtcpehikcegoojaaGreatDoor
