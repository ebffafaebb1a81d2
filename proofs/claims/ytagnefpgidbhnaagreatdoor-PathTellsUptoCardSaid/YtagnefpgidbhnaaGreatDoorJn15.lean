/-
  WALK2. The reference's arg, ins, Thread, Deep, cond, Cond. Conditions: the arguments lie in memory.
-/
import Derived.Test.YtagnefpgidbhnaaGreatDoorJn14
import Derived.Test.YtagnefpgidbhnaaGreatDoorVcL
set_option linter.unusedSimpArgs false
set_option linter.unusedVariables false
namespace Go.Proofs.YtagnefpgidbhnaaGreatDoor
-- RfA
open Go.Proofs.Tryz
open Go.RowKit
set_option maxRecDepth 100000
theorem ZH (r:Bool) (n:UInt8) (w0:World):Calls Tryz.prog 56 #[.agg #[.bool r,b8 n]] w0 fun e w'=>e = .returned (.bool (ZC r n))∧Below w0.heap.size w0 w':=by
 have H:=Own.start w0 none
 refine XE func56 rfl ntmps56 rfl (fun a F=>?_);refine cSR fun K1 hK1=>?_;refine sBx H F rfl rfl rfl ?_;clear F a H;intro b1 a w F H;refine Xa F rfl (qNK hK1 (qSR fun K2 hK2=>Xb (f:=0) (k:=0) underlying59 rfl sizeOf4 rfl rfl rfl (Xc isAgg4 rfl (H.cell 0 rfl rfl) (Es rfl rfl rfl (Xd rfl ?_)))));clear hK1;clear F a;intro a F
 refine F.split 6 rfl ?_ ?_ <;> (clear F;intro h6 F)
 ·
  replace h6:=ZA h6;refine Xe F (Xf (Xf (Xg rfl rfl (Xh rfl (qNK hK2 ?_)))));clear hK2;clear F a;intro a F;refine wp_ret ?_;refine bRet results56 F rfl ?_
  exact ⟨X1 (by simp_all [ZC]),H.below⟩
 replace h6:=ZB h6;refine Xi (f:=1) (k:=1) underlying59 rfl sizeOf5 rfl rfl F rfl (Xc isAgg5 rfl (H.cell 0 rfl rfl) (Xj rfl rfl (GY (y:=8)) (Xg rfl rfl (Xh rfl (qNK hK2 ?_)))));clear hK2;clear F a;intro a F;refine wp_ret ?_;refine bRet results56 F rfl ?_
 exact ⟨X1 (by simp_all [ZC]),H.below⟩
set_option maxHeartbeats 4000000 in
theorem Cd (x:Ins) (locs after:Int) (w0:World):Calls Tryz.prog 36 #[.agg x.cells.toArray,.int .i64 locs,.int .i64 after] w0 fun e w'=>e = .returned (.bool (ZV x locs after))∧Below w0.heap.size w0 w':=by
 have H:=Own.start w0 none
 refine XE func36 rfl ntmps36 rfl (fun a F=>?_);refine cSR fun K1 hK1=>?_;refine sBx H F rfl rfl rfl ?_;clear F a H;intro b3 a w F H;refine Xa F rfl (qNK hK1 (qSR fun K2 hK2=>Xb (f:=0) (k:=0) underlying61 rfl sizeOf5 rfl rfl rfl (Xc isAgg5 rfl (H.cell 0 rfl rfl) (qBd (places:=[(0,1),(1,1),(2,1),(3,2),(5,2),(7,1),(8,1),(9,1)]) zeroValue61 underlying61 (by kernel_rfl) rfl rfl rfl rfl ?_))));clear hK1;clear F a;intro a F;refine sAl H zeroValue61 F rfl rfl ?_;clear F a H;intro b7 a w F H
 refine sSr H 0 ?si F rfl rfl rfl ?s1 rfl rfl ?_
 case si=>exact XC sizeOf61
 case s1=>rfl
 clear H;intro w H;refine nK hK2 (cSR fun K3 hK3=>Xi (f:=2) (k:=2) underlying61 rfl sizeOf5 rfl rfl F rfl (Xc isAgg5 rfl (H.cell 1 rfl rfl) (qCv underlying5 underlying3 rfl rfl rfl (ZT _) (Xd rfl (Xj rfl rfl YW (Xh rfl (qNK hK3 (qSR fun K4 hK4=>Xb (f:=1) (k:=1) underlying61 rfl sizeOf5 rfl rfl rfl (Xc isAgg5 rfl (H.cell 1 rfl rfl) (Xj rfl rfl (GY (y:=8)) (Xh rfl (qNK hK4 ?_))))))))))));clear hK2 hK3 hK4;clear F a;intro a F;refine cSeq (fun K5 hK5=>?_);refine cSR fun K6 hK6=>Xi (f:=0) (k:=0) underlying61 rfl sizeOf5 rfl rfl F rfl (Xc isAgg5 rfl (H.cell 1 rfl rfl) (qCv underlying5 underlying3 rfl rfl rfl (ZT _) (qNK hK6 ?_)));clear hK6;clear F a;intro a F;refine wp_block ?_;refine cSR fun K7 hK7=>Xm F rfl rfl ZQ (Xh rfl (qNK hK7 ?_));clear hK7;clear F a;intro a F
 refine cIf F rfl (fun h24=>?_) (fun h24=>?_)
 ·
  replace h24:=Yh h24
  have ho:x.op=1:=UInt8.toNat_inj.1 (by have:(1:UInt8).toNat=1:=rfl;omega)
  refine cSR fun K8 hK8=>Xi (f:=1) (k:=1) underlying61 rfl sizeOf5 rfl rfl F rfl (Xc isAgg5 rfl (H.cell 1 rfl rfl) (Xb (f:=1) (k:=1) underlying61 rfl sizeOf5 rfl rfl rfl ?_));clear F a;intro a F;refine sSt H 0 sizeOf5 F rfl rfl rfl rfl rfl rfl ?_;clear H;intro w H;refine nK hK8 (cSR fun K9 hK9=>Xi (f:=2) (k:=2) underlying61 rfl sizeOf5 rfl rfl F rfl (Xc isAgg5 rfl (H.cell 1 rfl rfl) (Xb (f:=2) (k:=2) underlying61 rfl sizeOf5 rfl rfl rfl ?_)));clear hK8;clear F a;intro a F;refine sSt H 0 sizeOf5 F rfl rfl rfl rfl rfl rfl ?_;clear H;intro w H;refine nK hK9 (cSR fun K10 hK10=>Xi (f:=6) (k:=8) underlying61 rfl sizeOf5 rfl rfl F rfl (Xc isAgg5 rfl (H.cell 1 rfl rfl) (Xb (f:=6) (k:=8) underlying61 rfl sizeOf5 rfl rfl rfl ?_)));clear hK9;clear F a;intro a F;refine sSt H 0 sizeOf5 F rfl rfl rfl rfl rfl rfl ?_;clear H;intro w H;refine nK hK10 (cSR fun K11 hK11=>?_);clear hK10
  refine Xo underlying61 rfl ?si F rfl (H.whole 1 rfl) ?_
  case si=>exact XC sizeOf61
  clear F a;intro a F
  refine Xo underlying61 rfl ?si F rfl (H.whole 0 rfl) ?_
  case si=>exact XC sizeOf61
  clear F a;intro a F;refine Xm F rfl rfl (Ug (x:=x) (y:=NK x) rfl) (Xd rfl ?_);clear F a;intro a F
  refine F.split 38 rfl ?_ ?_ <;> (clear F;intro h38 F)
  ·
   replace h38:=Yh h38
   replace h38:(x == NK x)=true:=beq_iff_eq.2 h38
   refine Xl F rfl (Xg rfl rfl (Xd rfl ?_));clear F a;intro a F
   refine F.split 41 rfl ?_ ?_ <;> (clear F;intro h41 F)
   ·
    replace h41:=of_decide_eq_true h41;refine Xl F rfl (Xg rfl rfl (Xd rfl ?_));clear F a;intro a F
    refine F.split 44 rfl ?_ ?_ <;> (clear F;intro h44 F)
    ·
     replace h44:=of_decide_eq_true h44;refine Xi (f:=6) (k:=8) underlying61 rfl sizeOf5 rfl rfl F rfl (Xc isAgg5 rfl (H.cell 1 rfl rfl) (Xj rfl rfl (GY (y:=2)) (Xg rfl rfl (Xh rfl (qNK hK11 ?_)))));clear hK11;clear F a;intro a F;refine wp_ret ?_;refine xI ?_;refine bRet results36 F rfl ?_
     refine ⟨X1 ?_,H.below⟩
     clear F H
     (rw [CI ho];simp [*];done)
    replace h44:=of_decide_eq_false h44;refine Xe F (Xf (Xf (Xg rfl rfl (Xh rfl (qNK hK11 ?_)))));clear hK11;clear F a;intro a F;refine wp_ret ?_;refine xI ?_;refine bRet results36 F rfl ?_
    refine ⟨X1 ?_,H.below⟩
    clear F H
    (rw [CI ho];simp [*];done)
   replace h41:=of_decide_eq_false h41;refine Xe F (Xg rfl rfl (Xd rfl (Xf (Xf (Xf (Xg rfl rfl (Xh rfl (qNK hK11 ?_))))))));clear hK11;clear F a;intro a F;refine wp_ret ?_;refine xI ?_;refine bRet results36 F rfl ?_
   refine ⟨X1 ?_,H.below⟩
   clear F H
   (rw [CI ho];simp [*];done)
  replace h38:=Yi h38
  replace h38:(x == NK x)=false:=beq_false_of_ne h38
  refine Xe F (Xg rfl rfl (Xd rfl (Xf (Xg rfl rfl (Xd rfl (Xf (Xf (Xf (Xg rfl rfl (Xh rfl (qNK hK11 ?_)))))))))));clear hK11;clear F a;intro a F;refine wp_ret ?_;refine xI ?_;refine bRet results36 F rfl ?_
  refine ⟨X1 ?_,H.below⟩
  clear F H
  (rw [CI ho];simp [*];done)
 replace h24:=Yi h24;refine cSR fun K12 hK12=>Xm F rfl rfl ZQ (Xh rfl (qNK hK12 ?_));clear hK12;clear F a;intro a F
 refine cIf F rfl (fun h49=>?_) (fun h49=>?_)
 ·
  replace h49:=Yh h49
  have ho:x.op=2:=UInt8.toNat_inj.1 (by have:(2:UInt8).toNat=2:=rfl;omega)
  refine cSR fun K13 hK13=>Xi (f:=2) (k:=2) underlying61 rfl sizeOf5 rfl rfl F rfl (Xc isAgg5 rfl (H.cell 1 rfl rfl) (Xb (f:=2) (k:=2) underlying61 rfl sizeOf5 rfl rfl rfl ?_));clear F a;intro a F;refine sSt H 0 sizeOf5 F rfl rfl rfl rfl rfl rfl ?_;clear H;intro w H;refine nK hK13 (cSR fun K14 hK14=>Xi (f:=3) (k:=3) underlying61 rfl sizeOf59 rfl rfl F rfl ?_);clear hK13;clear F a;intro a F
  refine Xo underlying59 rfl ?si F rfl (H.range 1 rfl _ 2) ?_
  case si=>exact XC sizeOf59
  clear F a;intro a F;refine Xi (f:=3) (k:=3) underlying61 rfl sizeOf59 rfl rfl F rfl ?_;clear F a;intro a F
  refine sSr H 0 ?si F rfl rfl rfl ?s1 rfl rfl ?_
  case si=>exact XC sizeOf59
  case s1=>rfl
  clear H;intro w H;refine nK hK14 (cSR fun K15 hK15=>Xi (f:=6) (k:=8) underlying61 rfl sizeOf5 rfl rfl F rfl (Xc isAgg5 rfl (H.cell 1 rfl rfl) (Xb (f:=6) (k:=8) underlying61 rfl sizeOf5 rfl rfl rfl ?_)));clear hK14;clear F a;intro a F;refine sSt H 0 sizeOf5 F rfl rfl rfl rfl rfl rfl ?_;clear H;intro w H;refine nK hK15 (cSR fun K16 hK16=>?_);clear hK15
  refine Xo underlying61 rfl ?si F rfl (H.whole 1 rfl) ?_
  case si=>exact XC sizeOf61
  clear F a;intro a F
  refine Xo underlying61 rfl ?si F rfl (H.whole 0 rfl) ?_
  case si=>exact XC sizeOf61
  clear F a;intro a F;refine Xm F rfl rfl (Ug (x:=x) (y:=NJ x) rfl) (Xd rfl ?_);clear F a;intro a F
  refine F.split 63 rfl ?_ ?_ <;> (clear F;intro h63 F)
  ·
   replace h63:=Yh h63
   replace h63:(x == NJ x)=true:=beq_iff_eq.2 h63
   refine Xl F rfl (Xg rfl rfl (Xd rfl ?_));clear F a;intro a F
   refine F.split 66 rfl ?_ ?_ <;> (clear F;intro h66 F)
   ·
    replace h66:=of_decide_eq_true h66;refine Xi (f:=3) (k:=3) underlying61 rfl sizeOf59 rfl rfl F rfl ?_;clear F a;intro a F
    refine Xo underlying59 rfl ?si F rfl (H.range 1 rfl _ 2) ?_
    case si=>exact XC sizeOf59
    clear F a;intro a F;refine Xn call56 F rfl (ZH _ _ _) (gG H ?_);clear F a H;intro a w F H;refine sPk F rfl rfl rfl rfl (Xd rfl ?_);clear F a;intro a F
    refine F.split 71 rfl ?_ ?_ <;> (clear F;intro h71 F)
    ·
     refine Xi (f:=6) (k:=8) underlying61 rfl sizeOf5 rfl rfl F rfl (Xc isAgg5 rfl (H.cell 1 rfl rfl) (Xj rfl rfl (XZ (y:=0)) (Xd rfl ?_)));clear F a;intro a F
     refine F.split 75 rfl ?_ ?_ <;> (clear F;intro h75 F)
     ·
      replace h75:=Yh h75;refine Xe F (Xf (Xf (Xg rfl rfl (Xg rfl rfl (Xh rfl (qNK hK16 ?_))))));clear hK16;clear F a;intro a F;refine wp_ret ?_;refine xI ?_;refine bRet results36 F rfl ?_
      refine ⟨X1 ?_,H.below⟩
      clear F H
      (rw [DR ho];simp [*];done)
     replace h75:=Yi h75;refine Xi (f:=6) (k:=8) underlying61 rfl sizeOf5 rfl rfl F rfl (Xc isAgg5 rfl (H.cell 1 rfl rfl) (Xj rfl rfl (XZ (y:=2)) (Xg rfl rfl (Xg rfl rfl (Xh rfl (qNK hK16 ?_))))));clear hK16;clear F a;intro a F;refine wp_ret ?_;refine xI ?_;refine bRet results36 F rfl ?_
     refine ⟨X1 ?_,H.below⟩
     clear F H
     (rw [DR ho];simp [*];done)
    refine Xe F (Xf (Xf (Xf (Xf (Xf (Xf (Xf (Xg rfl rfl (Xh rfl (qNK hK16 ?_))))))))));clear hK16;clear F a;intro a F;refine wp_ret ?_;refine xI ?_;refine bRet results36 F rfl ?_
    refine ⟨X1 ?_,H.below⟩
    clear F H
    (rw [DR ho];simp [*];done)
   replace h66:=of_decide_eq_false h66;refine Xe F (Xf (Xf (Xg rfl rfl (Xd rfl (Xf (Xf (Xf (Xf (Xf (Xf (Xf (Xf (Xg rfl rfl (Xh rfl (qNK hK16 ?_)))))))))))))));clear hK16;clear F a;intro a F;refine wp_ret ?_;refine xI ?_;refine bRet results36 F rfl ?_
   refine ⟨X1 ?_,H.below⟩
   clear F H
   (rw [DR ho];simp [*];done)
  replace h63:=Yi h63
  replace h63:(x == NJ x)=false:=beq_false_of_ne h63
  refine Xe F (Xg rfl rfl (Xd rfl (Xf (Xf (Xf (Xg rfl rfl (Xd rfl (Xf (Xf (Xf (Xf (Xf (Xf (Xf (Xf (Xg rfl rfl (Xh rfl (qNK hK16 ?_))))))))))))))))));clear hK16;clear F a;intro a F;refine wp_ret ?_;refine xI ?_;refine bRet results36 F rfl ?_
  refine ⟨X1 ?_,H.below⟩
  clear F H
  (rw [DR ho];simp [*];done)
 replace h49:=Yi h49;refine cSR fun K17 hK17=>Xm F rfl rfl ZQ (Xh rfl (qNK hK17 ?_));clear hK17;clear F a;intro a F
 refine cIf F rfl (fun h81=>?_) (fun h81=>?_)
 ·
  replace h81:=Yh h81
  have ho:x.op=3:=UInt8.toNat_inj.1 (by have:(3:UInt8).toNat=3:=rfl;omega)
  refine cSR fun K18 hK18=>Xi (f:=1) (k:=1) underlying61 rfl sizeOf5 rfl rfl F rfl (Xc isAgg5 rfl (H.cell 1 rfl rfl) (Xb (f:=1) (k:=1) underlying61 rfl sizeOf5 rfl rfl rfl ?_));clear F a;intro a F;refine sSt H 0 sizeOf5 F rfl rfl rfl rfl rfl rfl ?_;clear H;intro w H;refine nK hK18 (cSR fun K19 hK19=>Xi (f:=3) (k:=3) underlying61 rfl sizeOf59 rfl rfl F rfl ?_);clear hK18;clear F a;intro a F
  refine Xo underlying59 rfl ?si F rfl (H.range 1 rfl _ 2) ?_
  case si=>exact XC sizeOf59
  clear F a;intro a F;refine Xi (f:=3) (k:=3) underlying61 rfl sizeOf59 rfl rfl F rfl ?_;clear F a;intro a F
  refine sSr H 0 ?si F rfl rfl rfl ?s1 rfl rfl ?_
  case si=>exact XC sizeOf59
  case s1=>rfl
  clear H;intro w H;refine nK hK19 (cSR fun K20 hK20=>Xi (f:=4) (k:=5) underlying61 rfl sizeOf59 rfl rfl F rfl ?_);clear hK19;clear F a;intro a F
  refine Xo underlying59 rfl ?si F rfl (H.range 1 rfl _ 2) ?_
  case si=>exact XC sizeOf59
  clear F a;intro a F;refine Xi (f:=4) (k:=5) underlying61 rfl sizeOf59 rfl rfl F rfl ?_;clear F a;intro a F
  refine sSr H 0 ?si F rfl rfl rfl ?s1 rfl rfl ?_
  case si=>exact XC sizeOf59
  case s1=>rfl
  clear H;intro w H;refine nK hK20 (cSR fun K21 hK21=>Xi (f:=5) (k:=7) underlying61 rfl sizeOf5 rfl rfl F rfl (Xc isAgg5 rfl (H.cell 1 rfl rfl) (Xb (f:=5) (k:=7) underlying61 rfl sizeOf5 rfl rfl rfl ?_)));clear hK20;clear F a;intro a F;refine sSt H 0 sizeOf5 F rfl rfl rfl rfl rfl rfl ?_;clear H;intro w H;refine nK hK21 (cSR fun K22 hK22=>?_);clear hK21
  refine Xo underlying61 rfl ?si F rfl (H.whole 1 rfl) ?_
  case si=>exact XC sizeOf61
  clear F a;intro a F
  refine Xo underlying61 rfl ?si F rfl (H.whole 0 rfl) ?_
  case si=>exact XC sizeOf61
  clear F a;intro a F;refine Xm F rfl rfl (Ug (x:=x) (y:=NI x) rfl) (Xd rfl ?_);clear F a;intro a F
  refine F.split 98 rfl ?_ ?_ <;> (clear F;intro h98 F)
  ·
   replace h98:=Yh h98
   replace h98:(x == NI x)=true:=beq_iff_eq.2 h98
   refine Xl F rfl (Xg rfl rfl (Xd rfl ?_));clear F a;intro a F
   refine F.split 101 rfl ?_ ?_ <;> (clear F;intro h101 F)
   ·
    replace h101:=of_decide_eq_true h101;refine Xi (f:=3) (k:=3) underlying61 rfl sizeOf59 rfl rfl F rfl ?_;clear F a;intro a F
    refine Xo underlying59 rfl ?si F rfl (H.range 1 rfl _ 2) ?_
    case si=>exact XC sizeOf59
    clear F a;intro a F;refine Xn call56 F rfl (ZH _ _ _) (gG H ?_);clear F a H;intro a w F H;refine sPk F rfl rfl rfl rfl (Xd rfl ?_);clear F a;intro a F
    refine F.split 106 rfl ?_ ?_ <;> (clear F;intro h106 F)
    ·
     refine Xi (f:=4) (k:=5) underlying61 rfl sizeOf59 rfl rfl F rfl ?_;clear F a;intro a F
     refine Xo underlying59 rfl ?si F rfl (H.range 1 rfl _ 2) ?_
     case si=>exact XC sizeOf59
     clear F a;intro a F;refine Xn call56 F rfl (ZH _ _ _) (gG H ?_);clear F a H;intro a w F H;refine sPk F rfl rfl rfl rfl (Xd rfl ?_);clear F a;intro a F
     refine F.split 111 rfl ?_ ?_ <;> (clear F;intro h111 F)
     ·
      refine Xi (f:=5) (k:=7) underlying61 rfl sizeOf5 rfl rfl F rfl (Xc isAgg5 rfl (H.cell 1 rfl rfl) (Xj rfl rfl (Mw (y:=1)) (Xg rfl rfl (Xd rfl ?_))));clear F a;intro a F
      refine F.split 116 rfl ?_ ?_ <;> (clear F;intro h116 F)
      ·
       replace h116:=of_decide_eq_true h116;refine Xi (f:=5) (k:=7) underlying61 rfl sizeOf5 rfl rfl F rfl (Xc isAgg5 rfl (H.cell 1 rfl rfl) (Xj rfl rfl (BB (y:=3)) (Xg rfl rfl (Xh rfl (qNK hK22 ?_)))));clear hK22;clear F a;intro a F;refine wp_ret ?_;refine xI ?_;refine bRet results36 F rfl ?_
       refine ⟨X1 ?_,H.below⟩
       clear F H
       (rw [Eb ho];simp [*];done)
      replace h116:=of_decide_eq_false h116;refine Xe F (Xf (Xf (Xg rfl rfl (Xh rfl (qNK hK22 ?_)))));clear hK22;clear F a;intro a F;refine wp_ret ?_;refine xI ?_;refine bRet results36 F rfl ?_
      refine ⟨X1 ?_,H.below⟩
      clear F H
      (rw [Eb ho];simp [*];done)
     refine Xe F (Xf (Xf (Xg rfl rfl (Xd rfl (Xf (Xf (Xf (Xg rfl rfl (Xh rfl (qNK hK22 ?_))))))))));clear hK22;clear F a;intro a F;refine wp_ret ?_;refine xI ?_;refine bRet results36 F rfl ?_
     refine ⟨X1 ?_,H.below⟩
     clear F H
     (rw [Eb ho];simp [*];done)
    refine Xe F (Xf (Xf (Xg rfl rfl (Xd rfl (Xf (Xf (Xf (Xg rfl rfl (Xd rfl (Xf (Xf (Xf (Xg rfl rfl (Xh rfl (qNK hK22 ?_)))))))))))))));clear hK22;clear F a;intro a F;refine wp_ret ?_;refine xI ?_;refine bRet results36 F rfl ?_
    refine ⟨X1 ?_,H.below⟩
    clear F H
    (rw [Eb ho];simp [*];done)
   replace h101:=of_decide_eq_false h101;refine Xe F (Xf (Xf (Xg rfl rfl (Xd rfl (Xf (Xf (Xf (Xg rfl rfl (Xd rfl (Xf (Xf (Xf (Xg rfl rfl (Xd rfl (Xf (Xf (Xf (Xg rfl rfl (Xh rfl (qNK hK22 ?_))))))))))))))))))));clear hK22;clear F a;intro a F;refine wp_ret ?_;refine xI ?_;refine bRet results36 F rfl ?_
   refine ⟨X1 ?_,H.below⟩
   clear F H
   (rw [Eb ho];simp [*];done)
  replace h98:=Yi h98
  replace h98:(x == NI x)=false:=beq_false_of_ne h98
  refine Xe F (Xg rfl rfl (Xd rfl (Xf (Xf (Xf (Xg rfl rfl (Xd rfl (Xf (Xf (Xf (Xg rfl rfl (Xd rfl (Xf (Xf (Xf (Xg rfl rfl (Xd rfl (Xf (Xf (Xf (Xg rfl rfl (Xh rfl (qNK hK22 ?_)))))))))))))))))))))));clear hK22;clear F a;intro a F;refine wp_ret ?_;refine xI ?_;refine bRet results36 F rfl ?_
  refine ⟨X1 ?_,H.below⟩
  clear F H
  (rw [Eb ho];simp [*];done)
 replace h81:=Yi h81;refine cSeq (fun K23 hK23=>?_);refine cSR fun K24 hK24=>Xm F rfl rfl ZQ (Xh rfl (qNK hK24 ?_));clear hK24;clear F a;intro a F
 refine F.split 121 rfl ?_ ?_ <;> (clear F;intro h121 F)
 ·
  replace h121:=Yh h121
  have ho:x.op=4∨x.op=5:=(by exact .inl (UInt8.toNat_inj.1 (by have:(4:UInt8).toNat=4:=rfl;omega)))
  refine cIfT F rfl ?_;refine wp_skip (hK23 _ _ ?_);clear hK23;refine cIfT F rfl ?_;refine cSR fun K25 hK25=>Xi (f:=1) (k:=1) underlying61 rfl sizeOf5 rfl rfl F rfl (Xc isAgg5 rfl (H.cell 1 rfl rfl) (Xb (f:=1) (k:=1) underlying61 rfl sizeOf5 rfl rfl rfl ?_));clear F a;intro a F;refine sSt H 0 sizeOf5 F rfl rfl rfl rfl rfl rfl ?_;clear H;intro w H;refine nK hK25 (cSR fun K26 hK26=>Xi (f:=2) (k:=2) underlying61 rfl sizeOf5 rfl rfl F rfl (Xc isAgg5 rfl (H.cell 1 rfl rfl) (Xb (f:=2) (k:=2) underlying61 rfl sizeOf5 rfl rfl rfl ?_)));clear hK25;clear F a;intro a F;refine sSt H 0 sizeOf5 F rfl rfl rfl rfl rfl rfl ?_;clear H;intro w H;refine nK hK26 (cSR fun K27 hK27=>Xi (f:=3) (k:=3) underlying61 rfl sizeOf59 rfl rfl F rfl ?_);clear hK26;clear F a;intro a F
  refine Xo underlying59 rfl ?si F rfl (H.range 1 rfl _ 2) ?_
  case si=>exact XC sizeOf59
  clear F a;intro a F;refine Xi (f:=3) (k:=3) underlying61 rfl sizeOf59 rfl rfl F rfl ?_;clear F a;intro a F
  refine sSr H 0 ?si F rfl rfl rfl ?s1 rfl rfl ?_
  case si=>exact XC sizeOf59
  case s1=>rfl
  clear H;intro w H;refine nK hK27 (cSR fun K28 hK28=>?_);clear hK27
  refine Xo underlying61 rfl ?si F rfl (H.whole 1 rfl) ?_
  case si=>exact XC sizeOf61
  clear F a;intro a F
  refine Xo underlying61 rfl ?si F rfl (H.whole 0 rfl) ?_
  case si=>exact XC sizeOf61
  clear F a;intro a F;refine Xm F rfl rfl (Ug (x:=x) (y:=VO x) rfl) (Xd rfl ?_);clear F a;intro a F
  refine F.split 136 rfl ?_ ?_ <;> (clear F;intro h136 F)
  ·
   replace h136:=Yh h136
   replace h136:(x == VO x)=true:=beq_iff_eq.2 h136
   refine Xl F rfl (Xg rfl rfl (Xd rfl ?_));clear F a;intro a F
   refine F.split 139 rfl ?_ ?_ <;> (clear F;intro h139 F)
   ·
    replace h139:=of_decide_eq_true h139;refine Xl F rfl (Xg rfl rfl (Xd rfl ?_));clear F a;intro a F
    refine F.split 142 rfl ?_ ?_ <;> (clear F;intro h142 F)
    ·
     replace h142:=of_decide_eq_true h142;refine Xi (f:=3) (k:=3) underlying61 rfl sizeOf59 rfl rfl F rfl ?_;clear F a;intro a F
     refine Xo underlying59 rfl ?si F rfl (H.range 1 rfl _ 2) ?_
     case si=>exact XC sizeOf59
     clear F a;intro a F;refine Xn call56 F rfl (ZH _ _ _) (gG H ?_);clear F a H;intro a w F H;refine sPk F rfl rfl rfl rfl (Xh rfl (qNK hK28 ?_));clear hK28;clear F a;intro a F;refine wp_ret ?_;refine xI ?_;refine bRet results36 F rfl ?_
     refine ⟨X1 ?_,H.below⟩
     clear F H
     (rcases ho with ho | ho
      · rw [QZ ho];simp [*];done
      · rw [QY ho];simp [*];done)
    replace h142:=of_decide_eq_false h142;refine Xe F (Xf (Xf (Xg rfl rfl (Xh rfl (qNK hK28 ?_)))));clear hK28;clear F a;intro a F;refine wp_ret ?_;refine xI ?_;refine bRet results36 F rfl ?_
    refine ⟨X1 ?_,H.below⟩
    clear F H
    (rcases ho with ho | ho
     · rw [QZ ho];simp [*];done
     · rw [QY ho];simp [*];done)
   replace h139:=of_decide_eq_false h139;refine Xe F (Xg rfl rfl (Xd rfl (Xf (Xf (Xf (Xg rfl rfl (Xh rfl (qNK hK28 ?_))))))));clear hK28;clear F a;intro a F;refine wp_ret ?_;refine xI ?_;refine bRet results36 F rfl ?_
   refine ⟨X1 ?_,H.below⟩
   clear F H
   (rcases ho with ho | ho
    · rw [QZ ho];simp [*];done
    · rw [QY ho];simp [*];done)
  replace h136:=Yi h136
  replace h136:(x == VO x)=false:=beq_false_of_ne h136
  refine Xe F (Xg rfl rfl (Xd rfl (Xf (Xg rfl rfl (Xd rfl (Xf (Xf (Xf (Xg rfl rfl (Xh rfl (qNK hK28 ?_)))))))))));clear hK28;clear F a;intro a F;refine wp_ret ?_;refine xI ?_;refine bRet results36 F rfl ?_
  refine ⟨X1 ?_,H.below⟩
  clear F H
  (rcases ho with ho | ho
   · rw [QZ ho];simp [*];done
   · rw [QY ho];simp [*];done)
 replace h121:=Yi h121;refine cIfF F rfl ?_;refine cReg (Xm F rfl rfl ZQ (Xh rfl (qNK hK23 ?_)));clear hK23;clear F a;intro a F
 refine F.split 121 rfl ?_ ?_ <;> (clear F;intro h121 F)
 ·
  replace h121:=Yh h121
  have ho:x.op=4∨x.op=5:=(by exact .inr (UInt8.toNat_inj.1 (by have:(5:UInt8).toNat=5:=rfl;omega)))
  refine cIfT F rfl ?_;refine cSR fun K29 hK29=>Xi (f:=1) (k:=1) underlying61 rfl sizeOf5 rfl rfl F rfl (Xc isAgg5 rfl (H.cell 1 rfl rfl) (Xb (f:=1) (k:=1) underlying61 rfl sizeOf5 rfl rfl rfl ?_));clear F a;intro a F;refine sSt H 0 sizeOf5 F rfl rfl rfl rfl rfl rfl ?_;clear H;intro w H;refine nK hK29 (cSR fun K30 hK30=>Xi (f:=2) (k:=2) underlying61 rfl sizeOf5 rfl rfl F rfl (Xc isAgg5 rfl (H.cell 1 rfl rfl) (Xb (f:=2) (k:=2) underlying61 rfl sizeOf5 rfl rfl rfl ?_)));clear hK29;clear F a;intro a F;refine sSt H 0 sizeOf5 F rfl rfl rfl rfl rfl rfl ?_;clear H;intro w H;refine nK hK30 (cSR fun K31 hK31=>Xi (f:=3) (k:=3) underlying61 rfl sizeOf59 rfl rfl F rfl ?_);clear hK30;clear F a;intro a F
  refine Xo underlying59 rfl ?si F rfl (H.range 1 rfl _ 2) ?_
  case si=>exact XC sizeOf59
  clear F a;intro a F;refine Xi (f:=3) (k:=3) underlying61 rfl sizeOf59 rfl rfl F rfl ?_;clear F a;intro a F
  refine sSr H 0 ?si F rfl rfl rfl ?s1 rfl rfl ?_
  case si=>exact XC sizeOf59
  case s1=>rfl
  clear H;intro w H;refine nK hK31 (cSR fun K32 hK32=>?_);clear hK31
  refine Xo underlying61 rfl ?si F rfl (H.whole 1 rfl) ?_
  case si=>exact XC sizeOf61
  clear F a;intro a F
  refine Xo underlying61 rfl ?si F rfl (H.whole 0 rfl) ?_
  case si=>exact XC sizeOf61
  clear F a;intro a F;refine Xm F rfl rfl (Ug (x:=x) (y:=VO x) rfl) (Xd rfl ?_);clear F a;intro a F
  refine F.split 136 rfl ?_ ?_ <;> (clear F;intro h136 F)
  ·
   replace h136:=Yh h136
   replace h136:(x == VO x)=true:=beq_iff_eq.2 h136
   refine Xl F rfl (Xg rfl rfl (Xd rfl ?_));clear F a;intro a F
   refine F.split 139 rfl ?_ ?_ <;> (clear F;intro h139 F)
   ·
    replace h139:=of_decide_eq_true h139;refine Xl F rfl (Xg rfl rfl (Xd rfl ?_));clear F a;intro a F
    refine F.split 142 rfl ?_ ?_ <;> (clear F;intro h142 F)
    ·
     replace h142:=of_decide_eq_true h142;refine Xi (f:=3) (k:=3) underlying61 rfl sizeOf59 rfl rfl F rfl ?_;clear F a;intro a F
     refine Xo underlying59 rfl ?si F rfl (H.range 1 rfl _ 2) ?_
     case si=>exact XC sizeOf59
     clear F a;intro a F;refine Xn call56 F rfl (ZH _ _ _) (gG H ?_);clear F a H;intro a w F H;refine sPk F rfl rfl rfl rfl (Xh rfl (qNK hK32 ?_));clear hK32;clear F a;intro a F;refine wp_ret ?_;refine xI ?_;refine bRet results36 F rfl ?_
     refine ⟨X1 ?_,H.below⟩
     clear F H
     (rcases ho with ho | ho
      · rw [QZ ho];simp [*];done
      · rw [QY ho];simp [*];done)
    replace h142:=of_decide_eq_false h142;refine Xe F (Xf (Xf (Xg rfl rfl (Xh rfl (qNK hK32 ?_)))));clear hK32;clear F a;intro a F;refine wp_ret ?_;refine xI ?_;refine bRet results36 F rfl ?_
    refine ⟨X1 ?_,H.below⟩
    clear F H
    (rcases ho with ho | ho
     · rw [QZ ho];simp [*];done
     · rw [QY ho];simp [*];done)
   replace h139:=of_decide_eq_false h139;refine Xe F (Xg rfl rfl (Xd rfl (Xf (Xf (Xf (Xg rfl rfl (Xh rfl (qNK hK32 ?_))))))));clear hK32;clear F a;intro a F;refine wp_ret ?_;refine xI ?_;refine bRet results36 F rfl ?_
   refine ⟨X1 ?_,H.below⟩
   clear F H
   (rcases ho with ho | ho
    · rw [QZ ho];simp [*];done
    · rw [QY ho];simp [*];done)
  replace h136:=Yi h136
  replace h136:(x == VO x)=false:=beq_false_of_ne h136
  refine Xe F (Xg rfl rfl (Xd rfl (Xf (Xg rfl rfl (Xd rfl (Xf (Xf (Xf (Xg rfl rfl (Xh rfl (qNK hK32 ?_)))))))))));clear hK32;clear F a;intro a F;refine wp_ret ?_;refine xI ?_;refine bRet results36 F rfl ?_
  refine ⟨X1 ?_,H.below⟩
  clear F H
  (rcases ho with ho | ho
   · rw [QZ ho];simp [*];done
   · rw [QY ho];simp [*];done)
 replace h121:=Yi h121;refine cIfF F rfl ?_;refine cSR fun K33 hK33=>Xm F rfl rfl ZQ (Xh rfl (qNK hK33 ?_));clear hK33;clear F a;intro a F
 refine cIf F rfl (fun h147=>?_) (fun h147=>?_)
 ·
  replace h147:=Yh h147
  have ho:x.op=6:=UInt8.toNat_inj.1 (by have:(6:UInt8).toNat=6:=rfl;omega)
  refine cSR fun K34 hK34=>Xi (f:=1) (k:=1) underlying61 rfl sizeOf5 rfl rfl F rfl (Xc isAgg5 rfl (H.cell 1 rfl rfl) (Xb (f:=1) (k:=1) underlying61 rfl sizeOf5 rfl rfl rfl ?_));clear F a;intro a F;refine sSt H 0 sizeOf5 F rfl rfl rfl rfl rfl rfl ?_;clear H;intro w H;refine nK hK34 (cSR fun K35 hK35=>Xi (f:=2) (k:=2) underlying61 rfl sizeOf5 rfl rfl F rfl (Xc isAgg5 rfl (H.cell 1 rfl rfl) (Xb (f:=2) (k:=2) underlying61 rfl sizeOf5 rfl rfl rfl ?_)));clear hK34;clear F a;intro a F;refine sSt H 0 sizeOf5 F rfl rfl rfl rfl rfl rfl ?_;clear H;intro w H;refine nK hK35 (cSR fun K36 hK36=>Xi (f:=3) (k:=3) underlying61 rfl sizeOf59 rfl rfl F rfl ?_);clear hK35;clear F a;intro a F
  refine Xo underlying59 rfl ?si F rfl (H.range 1 rfl _ 2) ?_
  case si=>exact XC sizeOf59
  clear F a;intro a F;refine Xi (f:=3) (k:=3) underlying61 rfl sizeOf59 rfl rfl F rfl ?_;clear F a;intro a F
  refine sSr H 0 ?si F rfl rfl rfl ?s1 rfl rfl ?_
  case si=>exact XC sizeOf59
  case s1=>rfl
  clear H;intro w H;refine nK hK36 (cSR fun K37 hK37=>Xi (f:=4) (k:=5) underlying61 rfl sizeOf59 rfl rfl F rfl ?_);clear hK36;clear F a;intro a F
  refine Xo underlying59 rfl ?si F rfl (H.range 1 rfl _ 2) ?_
  case si=>exact XC sizeOf59
  clear F a;intro a F;refine Xi (f:=4) (k:=5) underlying61 rfl sizeOf59 rfl rfl F rfl ?_;clear F a;intro a F
  refine sSr H 0 ?si F rfl rfl rfl ?s1 rfl rfl ?_
  case si=>exact XC sizeOf59
  case s1=>rfl
  clear H;intro w H;refine nK hK37 (cSR fun K38 hK38=>?_);clear hK37
  refine Xo underlying61 rfl ?si F rfl (H.whole 1 rfl) ?_
  case si=>exact XC sizeOf61
  clear F a;intro a F
  refine Xo underlying61 rfl ?si F rfl (H.whole 0 rfl) ?_
  case si=>exact XC sizeOf61
  clear F a;intro a F;refine Xm F rfl rfl (Ug (x:=x) (y:=NH x) rfl) (Xd rfl ?_);clear F a;intro a F
  refine F.split 164 rfl ?_ ?_ <;> (clear F;intro h164 F)
  ·
   replace h164:=Yh h164
   replace h164:(x == NH x)=true:=beq_iff_eq.2 h164
   refine Xl F rfl (Xg rfl rfl (Xd rfl ?_));clear F a;intro a F
   refine F.split 167 rfl ?_ ?_ <;> (clear F;intro h167 F)
   ·
    replace h167:=of_decide_eq_true h167;refine Xl F rfl (Xg rfl rfl (Xd rfl ?_));clear F a;intro a F
    refine F.split 170 rfl ?_ ?_ <;> (clear F;intro h170 F)
    ·
     replace h170:=of_decide_eq_true h170;refine Xi (f:=3) (k:=3) underlying61 rfl sizeOf59 rfl rfl F rfl ?_;clear F a;intro a F
     refine Xo underlying59 rfl ?si F rfl (H.range 1 rfl _ 2) ?_
     case si=>exact XC sizeOf59
     clear F a;intro a F;refine Xn call56 F rfl (ZH _ _ _) (gG H ?_);clear F a H;intro a w F H;refine sPk F rfl rfl rfl rfl (Xd rfl ?_);clear F a;intro a F
     refine F.split 175 rfl ?_ ?_ <;> (clear F;intro h175 F)
     ·
      refine Xi (f:=4) (k:=5) underlying61 rfl sizeOf59 rfl rfl F rfl ?_;clear F a;intro a F
      refine Xo underlying59 rfl ?si F rfl (H.range 1 rfl _ 2) ?_
      case si=>exact XC sizeOf59
      clear F a;intro a F;refine Xn call56 F rfl (ZH _ _ _) (gG H ?_);clear F a H;intro a w F H;refine sPk F rfl rfl rfl rfl (Xh rfl (qNK hK38 ?_));clear hK38;clear F a;intro a F;refine wp_ret ?_;refine xI ?_;refine bRet results36 F rfl ?_
      refine ⟨X1 ?_,H.below⟩
      clear F H
      (rw [DQ ho];simp [*];done)
     refine Xe F (Xf (Xf (Xg rfl rfl (Xh rfl (qNK hK38 ?_)))));clear hK38;clear F a;intro a F;refine wp_ret ?_;refine xI ?_;refine bRet results36 F rfl ?_
     refine ⟨X1 ?_,H.below⟩
     clear F H
     (rw [DQ ho];simp [*];done)
    replace h170:=of_decide_eq_false h170;refine Xe F (Xf (Xf (Xg rfl rfl (Xd rfl (Xf (Xf (Xf (Xg rfl rfl (Xh rfl (qNK hK38 ?_))))))))));clear hK38;clear F a;intro a F;refine wp_ret ?_;refine xI ?_;refine bRet results36 F rfl ?_
    refine ⟨X1 ?_,H.below⟩
    clear F H
    (rw [DQ ho];simp [*];done)
   replace h167:=of_decide_eq_false h167;refine Xe F (Xg rfl rfl (Xd rfl (Xf (Xf (Xf (Xg rfl rfl (Xd rfl (Xf (Xf (Xf (Xg rfl rfl (Xh rfl (qNK hK38 ?_)))))))))))));clear hK38;clear F a;intro a F;refine wp_ret ?_;refine xI ?_;refine bRet results36 F rfl ?_
   refine ⟨X1 ?_,H.below⟩
   clear F H
   (rw [DQ ho];simp [*];done)
  replace h164:=Yi h164
  replace h164:(x == NH x)=false:=beq_false_of_ne h164
  refine Xe F (Xg rfl rfl (Xd rfl (Xf (Xg rfl rfl (Xd rfl (Xf (Xf (Xf (Xg rfl rfl (Xd rfl (Xf (Xf (Xf (Xg rfl rfl (Xh rfl (qNK hK38 ?_))))))))))))))));clear hK38;clear F a;intro a F;refine wp_ret ?_;refine xI ?_;refine bRet results36 F rfl ?_
  refine ⟨X1 ?_,H.below⟩
  clear F H
  (rw [DQ ho];simp [*];done)
 replace h147:=Yi h147;refine cSR fun K39 hK39=>Xm F rfl rfl ZQ (Xh rfl (qNK hK39 ?_));clear hK39;clear F a;intro a F
 refine cIf F rfl (fun h180=>?_) (fun h180=>?_)
 ·
  replace h180:=Yh h180
  have ho:x.op=7:=UInt8.toNat_inj.1 (by have:(7:UInt8).toNat=7:=rfl;omega)
  refine cSR fun K40 hK40=>Xi (f:=6) (k:=8) underlying61 rfl sizeOf5 rfl rfl F rfl (Xc isAgg5 rfl (H.cell 1 rfl rfl) (Xb (f:=6) (k:=8) underlying61 rfl sizeOf5 rfl rfl rfl ?_));clear F a;intro a F;refine sSt H 0 sizeOf5 F rfl rfl rfl rfl rfl rfl ?_;clear H;intro w H;refine nK hK40 (cSR fun K41 hK41=>?_);clear hK40
  refine Xo underlying61 rfl ?si F rfl (H.whole 1 rfl) ?_
  case si=>exact XC sizeOf61
  clear F a;intro a F
  refine Xo underlying61 rfl ?si F rfl (H.whole 0 rfl) ?_
  case si=>exact XC sizeOf61
  clear F a;intro a F;refine Xm F rfl rfl (Ug (x:=x) (y:=NG x) rfl) (Xd rfl ?_);clear F a;intro a F
  refine F.split 188 rfl ?_ ?_ <;> (clear F;intro h188 F)
  ·
   replace h188:=Yh h188
   replace h188:(x == NG x)=true:=beq_iff_eq.2 h188
   refine Xi (f:=6) (k:=8) underlying61 rfl sizeOf5 rfl rfl F rfl (Xc isAgg5 rfl (H.cell 1 rfl rfl) (Xj rfl rfl (Mw (y:=3)) (Xg rfl rfl (Xd rfl ?_))));clear F a;intro a F
   refine F.split 193 rfl ?_ ?_ <;> (clear F;intro h193 F)
   ·
    replace h193:=of_decide_eq_true h193;refine Xi (f:=6) (k:=8) underlying61 rfl sizeOf5 rfl rfl F rfl (Xc isAgg5 rfl (H.cell 1 rfl rfl) (Xj rfl rfl (BB (y:=5)) (Xg rfl rfl (Xh rfl (qNK hK41 ?_)))));clear hK41;clear F a;intro a F;refine wp_ret ?_;refine xI ?_;refine bRet results36 F rfl ?_
    refine ⟨X1 ?_,H.below⟩
    clear F H
    (rw [Xbs ho];simp [*];done)
   replace h193:=of_decide_eq_false h193;refine Xe F (Xf (Xf (Xg rfl rfl (Xh rfl (qNK hK41 ?_)))));clear hK41;clear F a;intro a F;refine wp_ret ?_;refine xI ?_;refine bRet results36 F rfl ?_
   refine ⟨X1 ?_,H.below⟩
   clear F H
   (rw [Xbs ho];simp [*];done)
  replace h188:=Yi h188
  replace h188:(x == NG x)=false:=beq_false_of_ne h188
  refine Xe F (Xf (Xf (Xg rfl rfl (Xd rfl (Xf (Xf (Xf (Xg rfl rfl (Xh rfl (qNK hK41 ?_))))))))));clear hK41;clear F a;intro a F;refine wp_ret ?_;refine xI ?_;refine bRet results36 F rfl ?_
  refine ⟨X1 ?_,H.below⟩
  clear F H
  (rw [Xbs ho];simp [*];done)
 replace h180:=Yi h180;refine cSR fun K42 hK42=>Xm F rfl rfl ZQ (Xh rfl (qNK hK42 ?_));clear hK42;clear F a;intro a F
 refine cIf F rfl (fun h198=>?_) (fun h198=>?_)
 ·
  replace h198:=Yh h198
  have ho:x.op=8:=UInt8.toNat_inj.1 (by have:(8:UInt8).toNat=8:=rfl;omega)
  refine cSR fun K43 hK43=>Xi (f:=3) (k:=3) underlying61 rfl sizeOf59 rfl rfl F rfl ?_;clear F a;intro a F
  refine Xo underlying59 rfl ?si F rfl (H.range 1 rfl _ 2) ?_
  case si=>exact XC sizeOf59
  clear F a;intro a F;refine Xi (f:=3) (k:=3) underlying61 rfl sizeOf59 rfl rfl F rfl ?_;clear F a;intro a F
  refine sSr H 0 ?si F rfl rfl rfl ?s1 rfl rfl ?_
  case si=>exact XC sizeOf59
  case s1=>rfl
  clear H;intro w H;refine nK hK43 (cSR fun K44 hK44=>Xi (f:=4) (k:=5) underlying61 rfl sizeOf59 rfl rfl F rfl ?_);clear hK43;clear F a;intro a F
  refine Xo underlying59 rfl ?si F rfl (H.range 1 rfl _ 2) ?_
  case si=>exact XC sizeOf59
  clear F a;intro a F;refine Xi (f:=4) (k:=5) underlying61 rfl sizeOf59 rfl rfl F rfl ?_;clear F a;intro a F
  refine sSr H 0 ?si F rfl rfl rfl ?s1 rfl rfl ?_
  case si=>exact XC sizeOf59
  case s1=>rfl
  clear H;intro w H;refine nK hK44 (cSR fun K45 hK45=>Xi (f:=5) (k:=7) underlying61 rfl sizeOf5 rfl rfl F rfl (Xc isAgg5 rfl (H.cell 1 rfl rfl) (Xb (f:=5) (k:=7) underlying61 rfl sizeOf5 rfl rfl rfl ?_)));clear hK44;clear F a;intro a F;refine sSt H 0 sizeOf5 F rfl rfl rfl rfl rfl rfl ?_;clear H;intro w H;refine nK hK45 (cSR fun K46 hK46=>Xi (f:=7) (k:=9) underlying61 rfl sizeOf5 rfl rfl F rfl (Xc isAgg5 rfl (H.cell 1 rfl rfl) (Xb (f:=7) (k:=9) underlying61 rfl sizeOf5 rfl rfl rfl ?_)));clear hK45;clear F a;intro a F;refine sSt H 0 sizeOf5 F rfl rfl rfl rfl rfl rfl ?_;clear H;intro w H;refine nK hK46 (cSR fun K47 hK47=>?_);clear hK46
  refine Xo underlying61 rfl ?si F rfl (H.whole 1 rfl) ?_
  case si=>exact XC sizeOf61
  clear F a;intro a F
  refine Xo underlying61 rfl ?si F rfl (H.whole 0 rfl) ?_
  case si=>exact XC sizeOf61
  clear F a;intro a F;refine Xm F rfl rfl (Ug (x:=x) (y:=NF x) rfl) (Xd rfl ?_);clear F a;intro a F
  refine F.split 215 rfl ?_ ?_ <;> (clear F;intro h215 F)
  ·
   replace h215:=Yh h215
   replace h215:(x == NF x)=true:=beq_iff_eq.2 h215
   refine Xi (f:=3) (k:=3) underlying61 rfl sizeOf59 rfl rfl F rfl ?_;clear F a;intro a F
   refine Xo underlying59 rfl ?si F rfl (H.range 1 rfl _ 2) ?_
   case si=>exact XC sizeOf59
   clear F a;intro a F;refine Xn call56 F rfl (ZH _ _ _) (gG H ?_);clear F a H;intro a w F H;refine sPk F rfl rfl rfl rfl (Xd rfl ?_);clear F a;intro a F
   refine F.split 220 rfl ?_ ?_ <;> (clear F;intro h220 F)
   ·
    refine Xi (f:=4) (k:=5) underlying61 rfl sizeOf59 rfl rfl F rfl ?_;clear F a;intro a F
    refine Xo underlying59 rfl ?si F rfl (H.range 1 rfl _ 2) ?_
    case si=>exact XC sizeOf59
    clear F a;intro a F;refine Xn call56 F rfl (ZH _ _ _) (gG H ?_);clear F a H;intro a w F H;refine sPk F rfl rfl rfl rfl (Xd rfl ?_);clear F a;intro a F
    refine F.split 225 rfl ?_ ?_ <;> (clear F;intro h225 F)
    ·
     refine Xi (f:=5) (k:=7) underlying61 rfl sizeOf5 rfl rfl F rfl (Xc isAgg5 rfl (H.cell 1 rfl rfl) (Xj rfl rfl (Mw (y:=4)) (Xg rfl rfl (Xd rfl ?_))));clear F a;intro a F
     refine F.split 230 rfl ?_ ?_ <;> (clear F;intro h230 F)
     ·
      replace h230:=of_decide_eq_true h230;refine Xi (f:=5) (k:=7) underlying61 rfl sizeOf5 rfl rfl F rfl (Xc isAgg5 rfl (H.cell 1 rfl rfl) (Xj rfl rfl (BB (y:=6)) (Xg rfl rfl (Xd rfl ?_))));clear F a;intro a F
      refine F.split 235 rfl ?_ ?_ <;> (clear F;intro h235 F)
      ·
       replace h235:=of_decide_eq_true h235;refine Xi (f:=7) (k:=9) underlying61 rfl sizeOf5 rfl rfl F rfl (Xc isAgg5 rfl (H.cell 1 rfl rfl) (Xj rfl rfl (Mw (y:=1)) (Xg rfl rfl (Xd rfl ?_))));clear F a;intro a F
       refine F.split 240 rfl ?_ ?_ <;> (clear F;intro h240 F)
       ·
        replace h240:=of_decide_eq_true h240;refine Xi (f:=7) (k:=9) underlying61 rfl sizeOf5 rfl rfl F rfl (Xc isAgg5 rfl (H.cell 1 rfl rfl) (qCv underlying5 underlying3 rfl rfl rfl (ZT _) (Xd rfl (Xj rfl rfl GZ (Xg rfl rfl (Xh rfl (qNK hK47 ?_)))))));clear hK47;clear F a;intro a F;refine wp_ret ?_;refine xI ?_;refine bRet results36 F rfl ?_
        refine ⟨X1 ?_,H.below⟩
        clear F H
        (rw [Ma ho];simp [*];done)
       replace h240:=of_decide_eq_false h240;refine Xe F (Xf (Xf (Xf (Xf (Xg rfl rfl (Xh rfl (qNK hK47 ?_)))))));clear hK47;clear F a;intro a F;refine wp_ret ?_;refine xI ?_;refine bRet results36 F rfl ?_
       refine ⟨X1 ?_,H.below⟩
       clear F H
       (rw [Ma ho];simp [*];done)
      replace h235:=of_decide_eq_false h235;refine Xe F (Xf (Xf (Xg rfl rfl (Xd rfl (Xf (Xf (Xf (Xf (Xf (Xg rfl rfl (Xh rfl (qNK hK47 ?_))))))))))));clear hK47;clear F a;intro a F;refine wp_ret ?_;refine xI ?_;refine bRet results36 F rfl ?_
      refine ⟨X1 ?_,H.below⟩
      clear F H
      (rw [Ma ho];simp [*];done)
     replace h230:=of_decide_eq_false h230;refine Xe F (Xf (Xf (Xg rfl rfl (Xd rfl (Xf (Xf (Xf (Xg rfl rfl (Xd rfl (Xf (Xf (Xf (Xf (Xf (Xg rfl rfl (Xh rfl (qNK hK47 ?_)))))))))))))))));clear hK47;clear F a;intro a F;refine wp_ret ?_;refine xI ?_;refine bRet results36 F rfl ?_
     refine ⟨X1 ?_,H.below⟩
     clear F H
     (rw [Ma ho];simp [*];done)
    refine Xe F (Xf (Xf (Xg rfl rfl (Xd rfl (Xf (Xf (Xf (Xg rfl rfl (Xd rfl (Xf (Xf (Xf (Xg rfl rfl (Xd rfl (Xf (Xf (Xf (Xf (Xf (Xg rfl rfl (Xh rfl (qNK hK47 ?_))))))))))))))))))))));clear hK47;clear F a;intro a F;refine wp_ret ?_;refine xI ?_;refine bRet results36 F rfl ?_
    refine ⟨X1 ?_,H.below⟩
    clear F H
    (rw [Ma ho];simp [*];done)
   refine Xe F (Xf (Xf (Xg rfl rfl (Xd rfl (Xf (Xf (Xf (Xg rfl rfl (Xd rfl (Xf (Xf (Xf (Xg rfl rfl (Xd rfl (Xf (Xf (Xf (Xg rfl rfl (Xd rfl (Xf (Xf (Xf (Xf (Xf (Xg rfl rfl (Xh rfl (qNK hK47 ?_)))))))))))))))))))))))))));clear hK47;clear F a;intro a F;refine wp_ret ?_;refine xI ?_;refine bRet results36 F rfl ?_
   refine ⟨X1 ?_,H.below⟩
   clear F H
   (rw [Ma ho];simp [*];done)
  replace h215:=Yi h215
  replace h215:(x == NF x)=false:=beq_false_of_ne h215
  refine Xe F (Xf (Xf (Xg rfl rfl (Xd rfl (Xf (Xf (Xf (Xg rfl rfl (Xd rfl (Xf (Xf (Xf (Xg rfl rfl (Xd rfl (Xf (Xf (Xf (Xg rfl rfl (Xd rfl (Xf (Xf (Xf (Xg rfl rfl (Xd rfl (Xf (Xf (Xf (Xf (Xf (Xg rfl rfl (Xh rfl (qNK hK47 ?_))))))))))))))))))))))))))))))));clear hK47;clear F a;intro a F;refine wp_ret ?_;refine xI ?_;refine bRet results36 F rfl ?_
  refine ⟨X1 ?_,H.below⟩
  clear F H
  (rw [Ma ho];simp [*];done)
 replace h198:=Yi h198;refine wp_skip (hK5 _ _ (cSR fun K48 hK48=>Xa F rfl (qNK hK48 ?_)));clear hK5 hK48;clear F a;intro a F;refine wp_ret ?_;refine bRet results36 F rfl ?_
 refine ⟨X1 ?_,H.below⟩
 clear F H
 (rw [ins_0 (by omega)];done)
theorem Vu (A:Option Addr) (C:Nat) (l:List Ins) (locs:Int) (w0:World) (hR:RowsAt w0 A 10 (l.map Ins.cells)) (hl:l.length≤9223372036854775807) :
   Calls Tryz.prog 22 #[.slice A l.length C,.int .i64 locs] w0 fun e w'=>e = .returned (.bool (XH locs l))∧Below w0.heap.size w0 w':=by
 have H:=Own.start w0 none
 refine XE func22 rfl ntmps22 rfl (fun a F=>?_);refine cSR fun K1 hK1=>Xa F rfl (qNK hK1 ?_);clear hK1;clear F a;intro a F;refine cSeq (fun K2 hK2=>?_);refine cSR fun K3 hK3=>Xa F rfl (qNK hK3 ?_);clear hK3;clear F a;intro a F;refine wp_block ?_
 refine cLoopS [0,1] (fun m ups w=>∃ j:Nat,m=l.length - j∧ups=[(5,.int .i64 (j:Int))]∧j≤l.length∧YP locs l.length 0 l=YP locs l.length j (l.drop j)∧Own w0 none w []) F (l.length) [(5,.int .i64 ((0:Nat):Int))] ?_ ?_
 · exact ⟨0,rfl,rfl,by omega,rfl,H⟩
 clear F
 clear H
 intro m ups a w hI F
 obtain ⟨j,rfl,rfl,hj,ht,H⟩:=hI
 refine cSeq (fun K4 hK4=>?_);refine cSR fun K5 hK5=>Xl F rfl (Xd rfl (Xs underlying22 rfl (Xj rfl rfl YW (qNK hK5 ?_))));clear hK5;clear F a;intro a F
 refine cIf F rfl (fun h9=>?_) (fun h9=>?_)
 ·
  replace h9:=of_decide_eq_true h9
  have hjl:j < l.length:=by omega
  obtain ⟨x,hx⟩:∃ x,l[j]? = some x:=⟨_,List.getElem?_eq_getElem hjl⟩
  obtain ⟨b,off,rfl,hI2⟩:=hR j x.cells (by rw [List.getElem?_map,hx];rfl)
  have hd:l.drop j=x :: l.drop (j+1):=by
    obtain ⟨_,rfl⟩:=List.getElem?_eq_some_iff.1 hx
    exact List.drop_eq_getElem_cons hjl
  refine wp_skip (hK4 _ _ ?_);clear hK4;refine cSeq (fun K6 hK6=>?_);refine wp_block ?_;refine cSR fun K7 hK7=>Xl F rfl (Xd rfl ?_);clear F a;intro a F
  refine sIx underlying22 sizeOf61 F rfl rfl rfl rfl ?_ ?_
  focus (omega)
  clear F a;intro a F
  refine Xo underlying61 rfl ?si F rfl (H.argR hI2) ?_
  case si=>exact XC sizeOf61
  clear F a;intro a F;refine Xl F rfl (Xd rfl (Xs underlying22 rfl ?_));clear F a;intro a F
  refine Xm F rfl rfl (Ns ?_) ?_
  focus omega
  clear F a;intro a F;refine Xl F rfl ?_;clear F a;intro a F
  refine Xm F rfl rfl (Ns ?_) ?_
  focus omega
  clear F a;intro a F;refine Xn call36 F rfl (Cd x locs _ _) (gG H ?_);clear F a H;intro a w F H;refine UV F rfl rfl rfl (qNK hK7 ?_);clear hK7;clear F a;intro a F
  refine cIf F rfl (fun h23=>?_) (fun h23=>?_)
  ·
   replace h23:=ZA h23;refine cSR fun K8 hK8=>Xa F rfl (qNK hK8 ?_);clear hK8;clear F a;intro a F;refine wp_ret ?_;refine xI ?_;refine bRet results22 F rfl ?_
   exact ⟨X1 (by rw [XH,ht,hd,YP,h23,Bool.false_and,Bool.and_false]),H.below⟩
  replace h23:=ZB h23;refine wp_skip (hK6 _ _ (cReg (Xl F rfl ?_)));clear hK6;clear F a;intro a F
  refine Xm F rfl rfl (XJ (j:=1) ?_) ?_
  focus omega
  clear F a;intro a F;refine Xa F rfl ?_;clear F a;intro a F;refine sNil ?_
  exact ⟨_,by omega,_,⟨j+1,rfl,rfl,by omega,by rw [ht,hd,YP,h23,Bool.true_and],H⟩,F.tt⟩
 replace h9:=of_decide_eq_false h9;refine wp_exit ?_;refine hK2 _ _ (cSR fun K9 hK9=>Xl F rfl (Xs underlying22 rfl (Xj rfl rfl GZ (Xh rfl (qNK hK9 ?_)))));clear hK2 hK9;clear F a;intro a F;refine wp_ret ?_;refine bRet results22 F rfl ?_
 exact ⟨X1 (by rw [XH,ht,List.drop_eq_nil_of_le (by omega),YP,Bool.and_true,Bool.eq_iff_iff];simp;omega),H.below⟩
-- ReJ
open Go.Proofs.Tryz
open Go.RowKit
set_option maxRecDepth 100000
structure PathIn (L:List Sl) (p:PathP) (A1 A2 A3 A4:Option Addr):Prop where
 e:InL L (A1,7,p.evs.map Ev.cells)
 d:InL L (A2,2,p.data.map prC)
 c:InL L (A3,2,p.ctrl.map prC)
 m:InL L (A4,2,p.rmw.map prC)
theorem PathIn.zero {L:List Sl}:PathIn L ZZ none none none none:=⟨.inr rfl,.inr rfl,.inr rfl,.inr rfl⟩
def Lu (q:FR) (w0:World) (e:Ending) (w':World):Prop:=
 ∃ A1 c1 A2 c2 A3 c3 A4 c4 S L,e = .returned (.tuple #[.agg (q.path.cells A1 c1 A2 c2 A3 c3 A4 c4).toArray,.bool q.more,.int .i64 (q.err:Int)])∧PathIn L q.path A1 A2 A3 A4∧Own w0 none w' [.mem S L]
theorem Us {w0 w:World} {rs:List Res} (H:Own w0 none w rs) (more:Bool) (err:Nat):Lu ⟨ZZ,more,err⟩ w0 (.returned (.tuple #[.agg zCells.toArray,.bool more,.int .i64 (err:Int)])) w:=
 ⟨none,0,none,0,none,0,none,0,_,[],rfl,PathIn.zero,(H.memNil.sel [0] rfl rfl)⟩
theorem Ed {l:List Ins} {reads:List UInt8} (h:XH 6 l=false):X0 l reads=⟨ZZ,false,2⟩:=by unfold X0;rw [if_neg (fun e=>Bool.noConfusion (h.symm.trans e))]
theorem GH {l:List Ins} {reads:List UInt8} {q:Fol} (h:XH 6 l=true) (hg:goP l reads zRun=q):X0 l reads=Xbu q:=by unfold X0 UE;rw [if_pos h,hg]
set_option maxHeartbeats 2000000 in
theorem NZ (IA:Option Addr) (IC:Nat) (l:List Ins) (RA:Option Addr) (RC:Nat) (reads:List UInt8) (w0:World) (hA:RowsAt w0 IA 10 (l.map Ins.cells)) (hn:l.length≤9223372036854775807) (hR:RowsAt w0 RA 1 (XN reads)) (hc:reads.length≤RC) :
   Calls Tryz.prog 7 #[.slice IA l.length IC,.slice RA reads.length RC] w0 (Lu (X0 l reads) w0):=by
 have H:=Own.start w0 none
 refine XE func7 rfl ntmps7 rfl (fun a F=>?_);refine cSR fun K1 hK1=>?_;refine sAl H zeroValue37 F rfl rfl ?_;clear F a H;intro b4 a w F H;refine Xa F rfl (Xh rfl ?_);clear F a;intro a F;refine sNil ?_
 replace H:Own w0 none w [.blk b4 zCells 37]:=H
 refine hK1 _ _ ?_;clear hK1;refine cSeq (fun K2 hK2=>?_);refine cSR fun K3 hK3=>Xl F rfl ?_;clear F a;intro a F;refine Xn call22 F rfl (Vu IA IC l 6 _ (hA.own H) hn) (gG H ?_);clear F a H;intro a w F H;refine UV F rfl rfl rfl (qNK hK3 ?_);clear hK3;clear F a;intro a F
 refine cIf F rfl (fun h10=>?_) (fun h10=>?_)
 ·
  replace h10:=ZA h10;refine cSR fun K4 hK4=>sBd (cs:=zCells) (places:=[(0,1),(1,1),(2,1),(3,1),(4,8)]) zeroValue37 underlying37 (by kernel_rfl) F rfl rfl rfl rfl ?_;clear F a;intro a F
  refine sSr H 0 ?si F rfl rfl rfl ?s1 rfl rfl ?_
  case si=>exact XC sizeOf37
  case s1=>rfl
  clear H;intro w H;refine Xa F rfl (Xh rfl ?_);clear F a;intro a F;refine sNil ?_;rw [XG (by rfl)] at H;refine hK4 _ _ ?_;clear hK4;refine wp_ret ?_;simp only [Exit.then];refine Vp results7 F rfl rfl rfl underlying37 rfl H 0 rfl sizeOf37 rfl ?_
  (rw [Ed (by simpa using h10)];exact Us H false 2)
 replace h10:=ZB h10
 have hok:XH 6 l=true:=by simpa using h10
 refine wp_skip (hK2 _ _ (cSR fun K5 hK5=>Xl F rfl (Xd rfl ?_)));clear hK2;clear F a;intro a F;refine Xn call23 F rfl (Ju IA IC l RA RC reads _ (hA.own H) hok (hR.own H) hc) ?_;rintro e w ⟨v,r,lf,LA,LC,W,S,L,rfl,hS,hI,hZ,hout,H2⟩;replace H:=H.join H2;clear H2;refine ⟨_,rfl,?_⟩;clear F a;intro a F;refine sAl H zeroValue77 F rfl rfl ?_;clear F a H;intro b7 a w F H
 refine sSr H 0 ?si F rfl rfl rfl ?s1 rfl rfl ?_
 case si=>exact XC sizeOf77
 case s1=>rfl
 clear H;intro w H;refine sNil ?_;rw [XG (by rfl)] at H;refine hK5 _ _ ?_;clear hK5;refine cSeq (fun K6 hK6=>?_);refine cSR fun K7 hK7=>Xi (f:=4) (k:=15) underlying77 rfl sizeOf4 rfl rfl F rfl (Xc isAgg4 rfl (H.cell 0 rfl rfl) (qNK hK7 ?_));clear hK7;clear F a;intro a F
 refine cIf F rfl (fun h16=>?_) (fun h16=>?_)
 ·
  obtain rfl:W=true:=h16
  have hfo:X0 l reads=⟨ZZ,true,0⟩:=by
   rcases hout with ⟨_,h⟩ | ⟨h,_⟩
   · exact GH hok h
   · cases h
  refine cSR fun K8 hK8=>sBd (cs:=zCells) (places:=[(0,1),(1,1),(2,1),(3,1),(4,8)]) zeroValue37 underlying37 (by kernel_rfl) F rfl rfl rfl rfl ?_;clear F a;intro a F
  refine sSr H 2 ?si F rfl rfl rfl ?s1 rfl rfl ?_
  case si=>exact XC sizeOf37
  case s1=>rfl
  clear H;intro w H;refine Xa F rfl (Xh rfl ?_);clear F a;intro a F;refine sNil ?_;rw [XG (by rfl)] at H;refine hK8 _ _ ?_;clear hK8;refine wp_ret ?_;simp only [Exit.then];refine Vp results7 F rfl rfl rfl underlying37 rfl H 2 rfl sizeOf37 rfl ?_
  (rw [hfo];exact Us H _ _)
 obtain rfl:W=false:=h16
 have hgo:goP l reads zRun=if lf=[] then .done r else .many:=by
  rcases hout with ⟨h,_⟩ | ⟨_,h⟩
  · cases h
  · exact h
 refine wp_skip (hK6 _ _ ?_);clear hK6;refine cSeq (fun K9 hK9=>?_);refine cSR fun K10 hK10=>Xi (f:=3) (k:=14) underlying77 rfl sizeOf23 rfl rfl F rfl (Xc isAgg23 rfl (H.cell 0 rfl rfl) (Xs underlying23 rfl (Xj rfl rfl UO (qNK hK10 ?_))));clear hK10;clear F a;intro a F
 refine cIf F rfl (fun h21=>?_) (fun h21=>?_)
 ·
  replace h21:=of_decide_eq_true h21
  have hfo:X0 l reads=⟨ZZ,false,5⟩:=by rw [if_neg (fun e=>by rw [e] at h21;simp at h21)] at hgo;exact GH hok hgo
  refine cSR fun K11 hK11=>sBd (cs:=zCells) (places:=[(0,1),(1,1),(2,1),(3,1),(4,8)]) zeroValue37 underlying37 (by kernel_rfl) F rfl rfl rfl rfl ?_;clear F a;intro a F
  refine sSr H 2 ?si F rfl rfl rfl ?s1 rfl rfl ?_
  case si=>exact XC sizeOf37
  case s1=>rfl
  clear H;intro w H;refine Xa F rfl (Xh rfl ?_);clear F a;intro a F;refine sNil ?_;rw [XG (by rfl)] at H;refine hK11 _ _ ?_;clear hK11;refine wp_ret ?_;simp only [Exit.then];refine Vp results7 F rfl rfl rfl underlying37 rfl H 2 rfl sizeOf37 rfl ?_
  (rw [hfo];exact Us H _ _)
 replace h21:=of_decide_eq_false h21
 have hfo:X0 l reads=⟨XX r,false,0⟩:=by rw [if_pos (List.length_eq_zero_iff.1 (by omega))] at hgo;exact GH hok hgo
 refine wp_skip (hK9 _ _ (cSR fun K12 hK12=>Xi (f:=2) (k:=2) underlying77 rfl sizeOf37 rfl rfl F rfl ?_));clear hK9;clear F a;intro a F
 refine Xo underlying37 rfl ?si F rfl (H.range 0 rfl _ 12) ?_
 case si=>exact XC sizeOf37
 clear F a;intro a F
 refine sSr H 2 ?si F rfl rfl rfl ?s1 rfl rfl ?_
 case si=>exact XC sizeOf37
 case s1=>rfl
 clear H;intro w H;refine Xa F rfl (Xh rfl ?_);clear F a;intro a F;refine sNil ?_;rw [XG (by rfl)] at H;refine hK12 _ _ ?_;clear hK12;refine wp_ret ?_;refine Vp results7 F rfl rfl rfl underlying37 rfl H 2 rfl sizeOf37 rfl ?_
 (rw [hfo]
  exact ⟨v.E,v.Ec,v.D,v.Dc,v.K,v.Kc,v.M,v.Mc,S,L,rfl,⟨hS.E,hS.D,hS.K,hS.M⟩,H.sel [1] rfl rfl⟩)
-- ReL
open Go.RowKit
set_option maxRecDepth 100000
theorem NW (A:Option Addr) (C:Nat) (l:List UInt8) (x:UInt8) (w0:World) (hA:RowsAt w0 A 1 (XN l)) (hn:l.length≤9223372036854775807) :
   Calls Tryz.prog 31 #[.slice A l.length C,Go.Proofs.YtagnefpgidbhnaaGreatDoor.b8 x] w0 fun e w'=>e = .returned (.bool (decide (x ∈ l)))∧Below w0.heap.size w0 w':=by
 have H:=Own.start w0 none
 refine XE Tryz.func31 rfl Tryz.ntmps31 rfl (fun a F=>?_);refine cSR fun K1 hK1=>Xa F rfl (qNK hK1 ?_);clear hK1;clear F a;intro a F;refine cSeq (fun K2 hK2=>?_);refine cSR fun K3 hK3=>Xa F rfl (qNK hK3 ?_);clear hK3;clear F a;intro a F;refine wp_block ?_
 refine cLoopS [0,1] (fun m ups w=>∃ i:Nat,m=l.length - i∧ups=[(5,.int .i64 ((i:Nat):Int))]∧i≤l.length∧x ∉ l.take i∧Own w0 none w []) F (l.length) [(5,.int .i64 ((0:Nat):Int))] ?_ ?_
 · exact ⟨0,rfl,rfl,Nat.zero_le _,by simp,H⟩
 clear F
 clear H
 intro m ups a w hI F
 obtain ⟨i,rfl,rfl,hi,hni,H⟩:=hI
 refine cSeq (fun K4 hK4=>?_);refine cSR fun K5 hK5=>Xl F rfl (Xd rfl (Xs Tryz.underlying23 rfl (Xj rfl rfl YW (qNK hK5 ?_))));clear hK5;clear F a;intro a F
 refine cIf F rfl (fun h9=>?_) (fun h9=>?_)
 ·
  replace h9:=of_decide_eq_true h9
  have hil:i < l.length:=by omega
  obtain ⟨y,hy⟩:∃ y,l[i]? = some y:=⟨_,List.getElem?_eq_getElem hil⟩
  obtain ⟨bL,oL,rfl,hLx⟩:=hA i [Go.Proofs.YtagnefpgidbhnaaGreatDoor.b8 y] (by rw [List.getElem?_map,hy];rfl)
  refine wp_skip (hK4 _ _ ?_);clear hK4;refine cSeq (fun K6 hK6=>?_);refine wp_block ?_;refine cSR fun K7 hK7=>Xl F rfl (Xd rfl ?_);clear F a;intro a F
  refine sIx Tryz.underlying23 Tryz.sizeOf5 F rfl rfl rfl rfl ?_ ?_
  focus exact hil
  clear F a;intro a F;refine sLd Tryz.isAgg5 F rfl rfl rfl (H.arg (by simpa using hLx 0 _ rfl)) (Xd rfl (Xj rfl rfl XZ (qNK hK7 ?_)));clear hK7;clear F a;intro a F
  refine cIf F rfl (fun h17=>?_) (fun h17=>?_)
  ·
   replace h17:=Yh h17
   have hyx:y=x:=h17
   have hin:x ∈ l:=by rw [← hyx];exact List.mem_of_getElem? hy
   refine cSR fun K8 hK8=>Xa F rfl (qNK hK8 ?_);clear hK8;clear F a;intro a F;refine wp_ret ?_;refine xI ?_;refine bRet Tryz.results31 F rfl ?_
   exact ⟨by rw [decide_eq_true hin],H.below⟩
  replace h17:=Yi h17
  have hyx:y ≠ x:=h17
  refine wp_skip (hK6 _ _ (cReg (Xl F rfl ?_)));clear hK6;clear F a;intro a F
  refine Xm F rfl rfl (XJ (j:=1) ?_) ?_
  focus omega
  clear F a;intro a F;refine Xa F rfl ?_;clear F a;intro a F;refine sNil ?_
  exact ⟨_,by omega,_,⟨i+1,rfl,rfl,by omega,(by rw [List.take_add_one,hy];simp only [List.mem_append,Option.toList_some,List.mem_singleton,not_or];exact ⟨hni,fun e=>hyx e.symm⟩),H⟩,F.tt⟩
 replace h9:=of_decide_eq_false h9;refine wp_exit ?_;refine hK2 _ _ (cSR fun K9 hK9=>Xa F rfl (qNK hK9 ?_));clear hK2 hK9;clear F a;intro a F;refine wp_ret ?_;refine bRet Tryz.results31 F rfl ?_
 (rw [List.take_of_length_le (by omega)] at hni
  exact ⟨by rw [decide_eq_false hni],H.below⟩)
-- ReM
theorem EJ {α:Type} (X Y:List α) (n:Nat):(X.take n++Y).take n=(X++Y).take n:=by
 rcases Nat.le_total X.length n with h | h
 · rw [List.take_of_length_le h]
 · rw [List.take_append_of_le_length (by rw [List.length_take];omega),List.take_append_of_le_length h,List.take_take,Nat.min_self]
theorem EK {α:Type} {X:List α} (Y:List α) {n:Nat} (h:n≤(X.take n).length):(X++Y).take n=X.take n:=by
 rw [List.length_take] at h
 exact List.take_append_of_le_length (by omega)
def Y9 (dom:List UInt8) (k:Nat):List UInt8:=((List.range k).map UInt8.ofNat).filter fun v=>decide (v ∈ dom)
theorem EC (dom:List UInt8):Y9 dom 0=[]:=rfl
theorem WP (dom:List UInt8) (k:Nat):Y9 dom (k+1)=Y9 dom k++if UInt8.ofNat k ∈ dom then [UInt8.ofNat k] else []:=by
 unfold Y9
 rw [List.range_succ,List.map_append,List.filter_append]
 congr 1
 by_cases h:UInt8.ofNat k ∈ dom
 · rw [if_pos h];simp [h]
 · rw [if_neg h];simp [h]
def WT {α:Type} (X:List α) (g:UInt8→List α) (dom:List UInt8) (n k:Nat):List α:=(X++(Y9 dom k).flatMap g).take n
theorem Cq {α:Type} {X:List α} {g:UInt8→List α} {dom:List UInt8} {n:Nat} (h:X.length≤n):WT X g dom n 0=X:=by
 unfold WT;rw [EC,List.flatMap_nil,List.append_nil,List.take_of_length_le h]
theorem Xcl {α:Type} {X:List α} {g:UInt8→List α} {dom:List UInt8} {n k:Nat} (h:UInt8.ofNat k ∈ dom):(WT X g dom n k++g (UInt8.ofNat k)).take n=WT X g dom n (k+1):=by
 unfold WT
 rw [EJ,WP,if_pos h,List.flatMap_append,List.append_assoc]
 simp
theorem Xbf {α:Type} {X:List α} {g:UInt8→List α} {dom:List UInt8} {n k:Nat} (h:UInt8.ofNat k ∉ dom):WT X g dom n (k+1)=WT X g dom n k:=by
 unfold WT
 rw [WP,if_neg h,List.append_nil]
theorem Ji (dom:List UInt8):∀ (d k:Nat),∃ t,Y9 dom (k+d)=Y9 dom k++t
 | 0,k=>⟨[],by simp⟩
 | d+1,k=>by
   obtain ⟨t,h⟩:=Ji dom d k
   exact ⟨t++_,by rw [← Nat.add_assoc,WP,h,List.append_assoc]⟩
theorem Cr {α:Type} {X:List α} {g:UInt8→List α} {dom:List UInt8} {n k:Nat} (hk:k≤256) (h:n≤(WT X g dom n k).length):WT X g dom n 256=WT X g dom n k:=by
 obtain ⟨t,ht⟩:=Ji dom (256 - k) k
 rw [show k+(256 - k)=256 by omega] at ht
 unfold WT at h ⊢
 rw [ht,List.flatMap_append,← List.append_assoc]
 exact EK _ h
def Stand (l:List Ins) (rd:List UInt8) (r:RunP):Prop:=∀ vs,goP l (rd++vs) zRun=goP l vs r
theorem Lz (l:List Ins):Stand l [] zRun:=fun _=>rfl
theorem Stand.go {l:List Ins} {rd:List UInt8} {r:RunP} (h:Stand l rd r):goP l rd zRun=goP l [] r:=by have:=h [];rwa [List.append_nil] at this
theorem Stand.next {l:List Ins} {rd:List UInt8} {r:RunP} (h:Stand l rd r) (hw:X2 l (XD l r)=true) (v:UInt8):Stand l (rd++[v]) (X8 (Y0 l (XD l r)) v (XD l r)):=fun vs=>by
 rw [List.append_assoc,h ([v]++vs)]
 exact CN hw
end Go.Proofs.YtagnefpgidbhnaaGreatDoor
