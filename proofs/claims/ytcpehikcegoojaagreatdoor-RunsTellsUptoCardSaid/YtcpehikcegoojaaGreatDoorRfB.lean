/-
  WALK2. The reference's Deep, cond, Cond. Conditions: the condition lies in memory, and its depth is a Ml that an int holds.
-/
import Derived.Test.YtcpehikcegoojaaGreatDoorJn5
import Derived.Test.YtcpehikcegoojaaGreatDoorJn1
set_option linter.unusedSimpArgs false
set_option linter.unusedVariables false
namespace Go.Proofs.YtcpehikcegoojaaGreatDoor
open Go.Proofs.Tryz
open Go.RowKit
set_option maxRecDepth 100000
theorem XhP (n:Nat):((n:Int) == 1)=(n == 1):=by rw [Bool.eq_iff_iff];simp;omega
set_option maxHeartbeats 2000000 in
theorem XfH (threads locs:Int) (h:Nat):∀ (cs:List Value) (c:Cnd) (w0:World),CondAt w0 h cs c →
   Calls Tryz.prog 64 #[.agg cs.toArray,.int .i64 threads,.int .i64 locs] w0 fun e w'=>e = .returned (.bool (NZ threads locs c))∧Below w0.heap.size w0 w':=by
 induction h with
 | zero=>intro cs c w0 hC;exact hC.elim
 | succ h ih=>
   intro cs c w0 hC
   obtain ⟨k,t,n,v,kids⟩:=c
   obtain ⟨A,C,rfl,hkl,hK⟩:=hC
   have H:=Own.start w0 none
   refine JF func64 rfl ntmps64 rfl (fun a F=>?_);refine cSR fun K1 hK1=>?_;refine sBx H F rfl rfl rfl ?_;clear F a H;intro b3 a w F H;refine Xa F rfl (qNK hK1 ?_);clear hK1;clear F a;intro a F;refine JD (fun K2 hK2=>?_);refine cSR fun K3 hK3=>Xa F rfl (qNK hK3 ?_);clear hK3;clear F a;intro a F;refine wp_block ?_
   refine JN [1,2,3] (fun m ups w=>∃ j:Nat,m=kids.length - j∧ups=[(7,.int .i64 ((j:Nat):Int))]∧j≤kids.length∧kids.all (NZ threads locs)=(kids.drop j).all (NZ threads locs)∧Own w0 none w [.blk b3 [YtcpehikcegoojaaGreatDoor.b8 k,YtcpehikcegoojaaGreatDoor.b8 t,YtcpehikcegoojaaGreatDoor.b8 n,YtcpehikcegoojaaGreatDoor.b8 v,.slice A kids.length C] 27]) F (kids.length) [(7,.int .i64 ((0:Nat):Int))] ?_ ?_
   · exact ⟨0,rfl,rfl,by omega,rfl,H⟩
   clear F
   clear H
   intro m ups a w hI F
   obtain ⟨j,rfl,rfl,hj,ht,H⟩:=hI
   refine JD (fun K4 hK4=>?_);refine cSR fun K5 hK5=>Xf F rfl (Xr (f:=4) (k:=4) X3 rfl YC rfl rfl rfl (Xc YG rfl (H.cell 0 rfl rfl) (Xx Ys rfl (Xe rfl rfl QF (qNK hK5 ?_)))));clear hK5;clear F a;intro a F
   refine cIf F rfl (fun h13=>?_) (fun h13=>?_)
   ·
    replace h13:=of_decide_eq_true h13
    have hjl:j < kids.length:=by omega
    obtain ⟨kid,hx⟩:∃ x,kids[j]? = some x:=⟨_,List.getElem?_eq_getElem hjl⟩
    obtain ⟨b',off',cs',rfl,hR',hC'⟩:=hK j kid hx
    obtain ⟨k0,k1,k2,k3,k4,rfl⟩:=DM (JT hC')
    have hd:=Lg (NZ threads locs) hx
    refine wp_skip (hK4 _ _ ?_);clear hK4;refine JD (fun K6 hK6=>?_);refine wp_block ?_;refine cSR fun K7 hK7=>Xb (f:=4) (k:=4) X3 rfl YC rfl rfl F rfl (Xc YG rfl (H.cell 0 rfl rfl) (Xh rfl ?_));clear F a;intro a F
    refine sIx Ys YP F rfl rfl rfl rfl ?_ ?_
    focus (omega)
    clear F a;intro a F
    refine Xw X3 rfl ?si F rfl (H.argR hR') ?_
    case si=>exact Jz YP
    clear F a;intro a F;refine Xf F rfl (Xh rfl ?_);clear F a;intro a F;refine Xu call64 F rfl (ih _ kid _ (CondAt.grown H.grown rfl _ _ _ hC')) (gG H ?_);clear F a H;intro a w F H;refine Xav F rfl rfl rfl (qNK hK7 ?_);clear hK7;clear F a;intro a F
    refine cIf F rfl (fun h24=>?_) (fun h24=>?_)
    ·
     replace h24:=N1 h24;refine cSR fun K8 hK8=>Xa F rfl (qNK hK8 ?_);clear hK8;clear F a;intro a F;refine wp_ret ?_;refine xI ?_;refine JI YA F rfl ?_
     refine ⟨JZ ?_,H.below⟩
     clear F H ih hK
     (rw [NZ,EU,ht,hd,h24];simp;done)
    replace h24:=N2 h24;refine wp_skip (hK6 _ _ (JY (Xf F rfl ?_)));clear hK6;clear F a;intro a F
    refine Xg F rfl rfl (JJ (j:=1) ?_) ?_
    focus omega
    clear F a;intro a F;refine Xa F rfl ?_;clear F a;intro a F;refine J4 ?_
    exact ⟨_,by omega,_,⟨j+1,rfl,rfl,by omega,by rw [ht,hd,h24,Bool.true_and],H⟩,F.tt⟩
   replace h13:=of_decide_eq_false h13;rw [List.drop_eq_nil_of_le (by omega),List.all_nil,← EU] at ht;refine wp_exit ?_;refine hK2 _ _ ?_;clear hK2
   refine Mx [1,2,3] (fun ups w=>∃ r,ups=[(8,.bool r)]∧r=(t == 0 && n == 0 && v == 0)∧Own w0 none w [.blk b3 [YtcpehikcegoojaaGreatDoor.b8 k,YtcpehikcegoojaaGreatDoor.b8 t,YtcpehikcegoojaaGreatDoor.b8 n,YtcpehikcegoojaaGreatDoor.b8 v,.slice A kids.length C] 27]) F ?_ ?_
   ·
    refine JY (Xb (f:=1) (k:=1) X3 rfl XH rfl rfl F rfl (Xc XJ rfl (H.cell 0 rfl rfl) (Xe rfl rfl (JL (y:=0)) (Xh rfl ?_))));clear F a;intro a F
    refine F.split 28 rfl ?_ ?_ <;> (clear F;intro h28 F)
    ·
     replace h28:=J1 h28;refine Xb (f:=2) (k:=2) X3 rfl XH rfl rfl F rfl (Xc XJ rfl (H.cell 0 rfl rfl) (Xe rfl rfl (JL (y:=0)) (Xy rfl rfl (Xh rfl ?_))));clear F a;intro a F
     refine F.split 33 rfl ?_ ?_ <;> (clear F;intro h33 F)
     ·
      replace h33:=J1 h33;refine Xb (f:=3) (k:=3) X3 rfl XH rfl rfl F rfl (Xc XJ rfl (H.cell 0 rfl rfl) (Xe rfl rfl (JL (y:=0)) (Xy rfl rfl (Xd rfl ?_))));clear F a;intro a F;refine J4 ?_
      refine ⟨_,⟨_,rfl,?_,H⟩,F.tt⟩
      simp_all
     replace h33:=J2 h33;refine XB F (XC (XC (Xy rfl rfl (Xd rfl ?_))));clear F a;intro a F;refine J4 ?_
     refine ⟨_,⟨_,rfl,?_,H⟩,F.tt⟩
     simp_all
    replace h28:=J2 h28;refine XB F (XC (XC (Xy rfl rfl (Xh rfl (XC (XC (XC (Xy rfl rfl (Xd rfl ?_)))))))));clear F a;intro a F;refine J4 ?_
    refine ⟨_,⟨_,rfl,?_,H⟩,F.tt⟩
    simp_all
   clear F H
   intro ups a w hI F
   obtain ⟨r,rfl,hr,H⟩:=hI
   refine JD (fun K9 hK9=>?_);refine cSR fun K10 hK10=>Xb (f:=0) (k:=0) X3 rfl XH rfl rfl F rfl (Xc XJ rfl (H.cell 0 rfl rfl) (qCv XO XT rfl rfl rfl (QG _) (qNK hK10 ?_)));clear hK10;clear F a;intro a F;refine wp_block ?_;refine cSR fun K11 hK11=>Xg F rfl rfl Mp (Xd rfl (qNK hK11 ?_));clear hK11;clear F a;intro a F
   refine cIf F rfl (fun h41=>?_) (fun h41=>?_)
   ·
    replace h41:=J1 h41
    have hk:k=0:=UInt8.toNat_inj.1 (by have:(0:UInt8).toNat=0:=rfl;omega)
    refine cSR fun K12 hK12=>Xf F rfl (Xh rfl ?_);clear F a;intro a F
    refine F.split 44 rfl ?_ ?_ <;> (clear F;intro h44 F)
    ·
     refine Xb (f:=4) (k:=4) X3 rfl YC rfl rfl F rfl (Xc YG rfl (H.cell 0 rfl rfl) (Xx Ys rfl (Xe rfl rfl Mp (Xy rfl rfl (Xd rfl (qNK hK12 ?_))))));clear hK12;clear F a;intro a F;refine wp_ret ?_;refine xI ?_;refine JI YA F rfl ?_
     refine ⟨JZ ?_,H.below⟩
     clear F H ih hK
     (rw [NZ,ht,Bool.true_and,if_pos hk,← hr,h44,Bool.true_and,Qb];done)
    refine XB F (XC (XC (XC (Xy rfl rfl (Xd rfl (qNK hK12 ?_))))));clear hK12;clear F a;intro a F;refine wp_ret ?_;refine xI ?_;refine JI YA F rfl ?_
    refine ⟨JZ ?_,H.below⟩
    clear F H ih hK
    (rw [NZ,ht,Bool.true_and,if_pos hk,← hr,h44,Bool.false_and];done)
   replace h41:=J2 h41
   have nk0:k ≠ 0:=fun e=>h41 (by rw [e];rfl)
   refine cSR fun K13 hK13=>Xg F rfl rfl Mp (Xd rfl (qNK hK13 ?_));clear hK13;clear F a;intro a F
   refine cIf F rfl (fun h50=>?_) (fun h50=>?_)
   ·
    replace h50:=J1 h50
    have hk:k=1:=UInt8.toNat_inj.1 (by have:(1:UInt8).toNat=1:=rfl;omega)
    refine cSR fun K14 hK14=>Xb (f:=1) (k:=1) X3 rfl XH rfl rfl F rfl (Xc XJ rfl (H.cell 0 rfl rfl) (qCv XO XT rfl rfl rfl (QG _) (Xh rfl (Xe rfl rfl QF (Xh rfl ?_)))));clear F a;intro a F
    refine F.split 57 rfl ?_ ?_ <;> (clear F;intro h57 F)
    ·
     replace h57:=of_decide_eq_true h57;refine Xb (f:=2) (k:=2) X3 rfl XH rfl rfl F rfl (Xc XJ rfl (H.cell 0 rfl rfl) (Xe rfl rfl (Eu (y:=8)) (Xy rfl rfl (Xh rfl ?_))));clear F a;intro a F
     refine F.split 62 rfl ?_ ?_ <;> (clear F;intro h62 F)
     ·
      replace h62:=of_decide_eq_true h62;refine Xb (f:=4) (k:=4) X3 rfl YC rfl rfl F rfl (Xc YG rfl (H.cell 0 rfl rfl) (Xx Ys rfl (Xe rfl rfl Mp (Xy rfl rfl (Xd rfl (qNK hK14 ?_))))));clear hK14;clear F a;intro a F;refine wp_ret ?_;refine xI ?_;refine JI YA F rfl ?_
      refine ⟨JZ ?_,H.below⟩
      clear F H ih hK
      (rw [NZ,ht,Bool.true_and,if_neg nk0,if_pos hk];simp [*,Qb];done)
     replace h62:=of_decide_eq_false h62;refine XB F (XC (XC (XC (Xy rfl rfl (Xd rfl (qNK hK14 ?_))))));clear hK14;clear F a;intro a F;refine wp_ret ?_;refine xI ?_;refine JI YA F rfl ?_
     refine ⟨JZ ?_,H.below⟩
     clear F H ih hK
     (rw [NZ,ht,Bool.true_and,if_neg nk0,if_pos hk];simp [*,Qb];done)
    replace h57:=of_decide_eq_false h57;refine XB F (XC (XC (Xy rfl rfl (Xh rfl (XC (XC (XC (XC (Xy rfl rfl (Xd rfl (qNK hK14 ?_)))))))))));clear hK14;clear F a;intro a F;refine wp_ret ?_;refine xI ?_;refine JI YA F rfl ?_
    refine ⟨JZ ?_,H.below⟩
    clear F H ih hK
    (rw [NZ,ht,Bool.true_and,if_neg nk0,if_pos hk];simp [*,Qb];done)
   replace h50:=J2 h50
   have nk1:k ≠ 1:=fun e=>h50 (by rw [e];rfl)
   refine cSR fun K15 hK15=>Xg F rfl rfl Mp (Xd rfl (qNK hK15 ?_));clear hK15;clear F a;intro a F
   refine cIf F rfl (fun h68=>?_) (fun h68=>?_)
   ·
    replace h68:=J1 h68
    have hk:k=2:=UInt8.toNat_inj.1 (by have:(2:UInt8).toNat=2:=rfl;omega)
    refine cSR fun K16 hK16=>Xb (f:=2) (k:=2) X3 rfl XH rfl rfl F rfl (Xc XJ rfl (H.cell 0 rfl rfl) (qCv XO XT rfl rfl rfl (QG _) (Xh rfl (Xe rfl rfl QF (Xh rfl ?_)))));clear F a;intro a F
    refine F.split 75 rfl ?_ ?_ <;> (clear F;intro h75 F)
    ·
     replace h75:=of_decide_eq_true h75;refine Xb (f:=1) (k:=1) X3 rfl XH rfl rfl F rfl (Xc XJ rfl (H.cell 0 rfl rfl) (Xe rfl rfl (JL (y:=0)) (Xy rfl rfl (Xh rfl ?_))));clear F a;intro a F
     refine F.split 80 rfl ?_ ?_ <;> (clear F;intro h80 F)
     ·
      replace h80:=J1 h80;refine Xb (f:=4) (k:=4) X3 rfl YC rfl rfl F rfl (Xc YG rfl (H.cell 0 rfl rfl) (Xx Ys rfl (Xe rfl rfl Mp (Xy rfl rfl (Xd rfl (qNK hK16 ?_))))));clear hK16;clear F a;intro a F;refine wp_ret ?_;refine xI ?_;refine JI YA F rfl ?_
      refine ⟨JZ ?_,H.below⟩
      clear F H ih hK
      (rw [NZ,ht,Bool.true_and,if_neg nk0,if_pos hk];simp [*,Qb];done)
     replace h80:=J2 h80;refine XB F (XC (XC (XC (Xy rfl rfl (Xd rfl (qNK hK16 ?_))))));clear hK16;clear F a;intro a F;refine wp_ret ?_;refine xI ?_;refine JI YA F rfl ?_
     refine ⟨JZ ?_,H.below⟩
     clear F H ih hK
     (rw [NZ,ht,Bool.true_and,if_neg nk0,if_pos hk];simp [*,Qb];done)
    replace h75:=of_decide_eq_false h75;refine XB F (XC (XC (Xy rfl rfl (Xh rfl (XC (XC (XC (XC (Xy rfl rfl (Xd rfl (qNK hK16 ?_)))))))))));clear hK16;clear F a;intro a F;refine wp_ret ?_;refine xI ?_;refine JI YA F rfl ?_
    refine ⟨JZ ?_,H.below⟩
    clear F H ih hK
    (rw [NZ,ht,Bool.true_and,if_neg nk0,if_pos hk];simp [*,Qb];done)
   replace h68:=J2 h68
   have nk2:k ≠ 2:=fun e=>h68 (by rw [e];rfl)
   refine JD (fun K17 hK17=>?_);refine cSR fun K18 hK18=>Xg F rfl rfl Mp (Xd rfl (qNK hK18 ?_));clear hK18;clear F a;intro a F
   refine F.split 86 rfl ?_ ?_ <;> (clear F;intro h86 F)
   ·
    replace h86:=J1 h86
    have hk:k=3∨k=4:=(by exact .inl (UInt8.toNat_inj.1 (by have:(3:UInt8).toNat=3:=rfl;omega)))
    refine MQ F rfl ?_;refine wp_skip (hK17 _ _ ?_);clear hK17;refine MQ F rfl ?_;refine cSR fun K19 hK19=>Xf F rfl (Xh rfl ?_);clear F a;intro a F
    refine F.split 90 rfl ?_ ?_ <;> (clear F;intro h90 F)
    ·
     refine Xb (f:=4) (k:=4) X3 rfl YC rfl rfl F rfl (Xc YG rfl (H.cell 0 rfl rfl) (Xx Ys rfl (Xe rfl rfl L3 (Xy rfl rfl (Xd rfl (qNK hK19 ?_))))));clear hK19;clear F a;intro a F;refine wp_ret ?_;refine xI ?_;refine JI YA F rfl ?_
     refine ⟨JZ ?_,H.below⟩
     clear F H ih hK
     (rw [NZ,ht,Bool.true_and,if_neg nk0,if_neg nk1,if_neg nk2,if_pos hk,← hr,h90,Bool.true_and,Bool.eq_iff_iff];simp only [decide_eq_true_eq];omega)
    refine XB F (XC (XC (XC (Xy rfl rfl (Xd rfl (qNK hK19 ?_))))));clear hK19;clear F a;intro a F;refine wp_ret ?_;refine xI ?_;refine JI YA F rfl ?_
    refine ⟨JZ ?_,H.below⟩
    clear F H ih hK
    (rw [NZ,ht,Bool.true_and,if_neg nk0,if_neg nk1,if_neg nk2,if_pos hk,← hr,h90,Bool.false_and];done)
   replace h86:=J2 h86;refine LB F rfl ?_;refine JY (Xg F rfl rfl Mp (Xd rfl (qNK hK17 ?_)));clear hK17;clear F a;intro a F
   refine F.split 86 rfl ?_ ?_ <;> (clear F;intro h86 F)
   ·
    replace h86:=J1 h86
    have hk:k=3∨k=4:=(by exact .inr (UInt8.toNat_inj.1 (by have:(4:UInt8).toNat=4:=rfl;omega)))
    refine MQ F rfl ?_;refine cSR fun K20 hK20=>Xf F rfl (Xh rfl ?_);clear F a;intro a F
    refine F.split 90 rfl ?_ ?_ <;> (clear F;intro h90 F)
    ·
     refine Xb (f:=4) (k:=4) X3 rfl YC rfl rfl F rfl (Xc YG rfl (H.cell 0 rfl rfl) (Xx Ys rfl (Xe rfl rfl L3 (Xy rfl rfl (Xd rfl (qNK hK20 ?_))))));clear hK20;clear F a;intro a F;refine wp_ret ?_;refine xI ?_;refine JI YA F rfl ?_
     refine ⟨JZ ?_,H.below⟩
     clear F H ih hK
     (rw [NZ,ht,Bool.true_and,if_neg nk0,if_neg nk1,if_neg nk2,if_pos hk,← hr,h90,Bool.true_and,Bool.eq_iff_iff];simp only [decide_eq_true_eq];omega)
    refine XB F (XC (XC (XC (Xy rfl rfl (Xd rfl (qNK hK20 ?_))))));clear hK20;clear F a;intro a F;refine wp_ret ?_;refine xI ?_;refine JI YA F rfl ?_
    refine ⟨JZ ?_,H.below⟩
    clear F H ih hK
    (rw [NZ,ht,Bool.true_and,if_neg nk0,if_neg nk1,if_neg nk2,if_pos hk,← hr,h90,Bool.false_and];done)
   replace h86:=J2 h86;refine LB F rfl ?_;refine cSR fun K21 hK21=>Xg F rfl rfl Mp (Xd rfl (qNK hK21 ?_));clear hK21;clear F a;intro a F
   refine cIf F rfl (fun h96=>?_) (fun h96=>?_)
   ·
    replace h96:=J1 h96
    have hk:k=5:=UInt8.toNat_inj.1 (by have:(5:UInt8).toNat=5:=rfl;omega)
    refine cSR fun K22 hK22=>Xf F rfl (Xh rfl ?_);clear F a;intro a F
    refine F.split 99 rfl ?_ ?_ <;> (clear F;intro h99 F)
    ·
     refine Xb (f:=4) (k:=4) X3 rfl YC rfl rfl F rfl (Xc YG rfl (H.cell 0 rfl rfl) (Xx Ys rfl (Xe rfl rfl Mp (Xy rfl rfl (Xd rfl (qNK hK22 ?_))))));clear hK22;clear F a;intro a F;refine wp_ret ?_;refine xI ?_;refine JI YA F rfl ?_
     refine ⟨JZ ?_,H.below⟩
     clear F H ih hK
     (have nk34:¬ (k=3∨k=4):=by rw [hk];decide
      rw [NZ,ht,Bool.true_and,if_neg nk0,if_neg nk1,if_neg nk2,if_neg nk34,if_pos hk,← hr,h99,Bool.true_and,XhP];done)
    refine XB F (XC (XC (XC (Xy rfl rfl (Xd rfl (qNK hK22 ?_))))));clear hK22;clear F a;intro a F;refine wp_ret ?_;refine xI ?_;refine JI YA F rfl ?_
    refine ⟨JZ ?_,H.below⟩
    clear F H ih hK
    (have nk34:¬ (k=3∨k=4):=by rw [hk];decide
     rw [NZ,ht,Bool.true_and,if_neg nk0,if_neg nk1,if_neg nk2,if_neg nk34,if_pos hk,← hr,h99,Bool.false_and];done)
   replace h96:=J2 h96
   have nk5:k ≠ 5:=fun e=>h96 (by rw [e];rfl)
   refine wp_skip (hK9 _ _ (cSR fun K23 hK23=>Xa F rfl (qNK hK23 ?_)));clear hK9 hK23;clear F a;intro a F;refine wp_ret ?_;refine JI YA F rfl ?_
   refine ⟨JZ ?_,H.below⟩
   clear F H ih hK
   (have nk34:¬ (k=3∨k=4):=by
      have e3:(3:UInt8).toNat=3:=rfl
      have e4:(4:UInt8).toNat=4:=rfl
      rintro (e | e) <;> (have:=congrArg UInt8.toNat e;omega)
    rw [NZ,ht,Bool.true_and,if_neg nk0,if_neg nk1,if_neg nk2,if_neg nk34,if_neg nk5];done)
theorem XfI (threads locs:Int) (h:Nat) (cs:List Value) (c:Cnd) (w0:World) (hC:CondAt w0 h cs c) (hd:Nw c≤9223372036854775807) :
   Calls Tryz.prog 32 #[.agg cs.toArray,.int .i64 threads,.int .i64 locs] w0 fun e w'=>e = .returned (.bool (Qs threads locs 20 c))∧Below w0.heap.size w0 w':=by
 obtain ⟨k0,k1,k2,k3,k4,rfl⟩:=DM (JT hC)
 have H:=Own.start w0 none
 refine JF func32 rfl ntmps32 rfl (fun a F=>?_);refine cSR fun K1 hK1=>?_;refine sBx H F rfl rfl rfl ?_;clear F a H;intro b3 a w F H;refine Xa F rfl (qNK hK1 (qSR fun K2 hK2=>?_));clear hK1;clear F a;intro a F
 refine Xw X3 rfl ?si F rfl (H.whole 0 rfl) ?_
 case si=>exact Jz YP
 clear F a;intro a F;refine Xu call63 F rfl (XfG h _ c _ (CondAt.grown H.grown rfl _ _ _ hC) hd) (gG H ?_);clear F a H;intro a w F H;refine Xg F rfl rfl XjE (Xh rfl ?_);clear F a;intro a F
 refine F.split 10 rfl ?_ ?_ <;> (clear F;intro h10 F)
 ·
  replace h10:=of_decide_eq_true h10
  refine Xw X3 rfl ?si F rfl (H.whole 0 rfl) ?_
  case si=>exact Jz YP
  clear F a;intro a F;refine Xf F rfl (Xh rfl ?_);clear F a;intro a F;refine Xu call64 F rfl (XfH threads locs h _ c _ (CondAt.grown H.grown rfl _ _ _ hC)) (gG H ?_);clear F a H;intro a w F H;refine sPk F rfl rfl rfl rfl (Xd rfl (qNK hK2 ?_));clear hK2;clear F a;intro a F;refine wp_ret ?_;refine JI results32 F rfl ?_
  refine ⟨JZ ?_,H.below⟩
  rw [Lb]
  clear F H
  (rw [decide_eq_true (by omega),Bool.true_and];done)
 replace h10:=of_decide_eq_false h10;refine XB F (XC (XC (XC (Xy rfl rfl (Xd rfl (qNK hK2 ?_))))));clear hK2;clear F a;intro a F;refine wp_ret ?_;refine JI results32 F rfl ?_
 refine ⟨JZ ?_,H.below⟩
 rw [Lb]
 clear F H
 (rw [decide_eq_false (by omega),Bool.false_and];done)
end Go.Proofs.YtcpehikcegoojaaGreatDoor
