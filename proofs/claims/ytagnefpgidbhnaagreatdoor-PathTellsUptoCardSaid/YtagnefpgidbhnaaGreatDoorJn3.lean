/-
  WALK2. slices.Sort at bytes: the two partitions. Conditions: the slice is the caller's own.
-/
import Derived.Test.YtagnefpgidbhnaaGreatDoorJn2
set_option linter.unusedSimpArgs false
set_option linter.unusedVariables false
namespace Go.Proofs.YtagnefpgidbhnaaGreatDoor
-- SoF
open Go.Proofs.Tryz
open Go.RowKit
set_option maxRecDepth 100000
set_option maxHeartbeats 2000000 in
theorem LS (g n c:Nat) (d:By) (lo up pv:Nat) (W:World) (row:Option Nat) (rs:List Res) (w0:World) (H:Own W row w0 (.byt g n c d :: rs)) (hb:up≤n) (hn:n≤1000000) (hlo:lo≤pv) (hup:pv < up) :
   Calls Tryz.prog 107 #[.slice (some ⟨g,0,none⟩) n c,.int .i64 (lo:Int),.int .i64 (up:Int),.int .i64 (pv:Int)] w0 fun e w'=>∃ (m:Nat) (d':By),e = .returned (.int .i64 (m:Int))∧Sm lo up d d'∧lo < m∧m≤up∧d' lo=d pv∧(∀ k,lo < k→k < m→(d' k).toNat≤(d' lo).toNat)∧(∀ k,m≤k→k < up→(d' lo).toNat < (d' k).toNat)∧Own W row w' (.byt g n c d' :: rs):=by
 refine XE func107 rfl ntmps107 rfl (fun a F=>?_);refine cSR fun K1 hK1=>Xa F rfl (qNK hK1 ?_);clear hK1;clear F a;intro a F;refine cSeq (fun K2 hK2=>?_);refine cRegRO (by kernel_rfl) H ?_;replace H:=H.drew;refine Xt 0 rfl F rfl (fun w=>rMv F rfl) H qq0 (Xu 1 rfl rfl (fun a F w=>rMv F rfl) H qq0 (Xu 2 rfl rfl (fun a F w=>rMv F rfl) H qq0 (Xu 3 rfl rfl (fun a F w=>rMv F rfl) H qq0 (Xu 4 rfl rfl (fun a F w=>rMv F rfl) H qq0 (Xu 5 rfl rfl (fun a F w=>rMv F rfl) H qq0 ?_)))));clear F a;intro a F
 refine Xv (k:=6) (i:=6) rfl F rfl (fun w=>rIx underlying23 sizeOf5 F rfl rfl ?_) H (fun _ _ _ h=>h) ?_
 focus (omega)
 clear F a;intro a F;refine Xw 7 rfl F rfl rfl (fun w H=>rLd isAgg5 F rfl (H.by' 0 rfl)) H qq0 (Xu 8 rfl rfl (fun a F w=>rMv F rfl) H qq0 (Xu 9 rfl rfl (fun a F w=>rMv F rfl) H qq0 ?_));clear F a;intro a F
 refine Xv (k:=10) (i:=10) rfl F rfl (fun w=>rIx underlying23 sizeOf5 F rfl rfl ?_) H (fun _ _ _ h=>h) ?_
 focus (omega)
 clear F a;intro a F;refine Xw 11 rfl F rfl rfl (fun w H=>rLd isAgg5 F rfl (H.by' 0 rfl)) H qq0 ?_;clear F a;intro a F
 refine Xv (k:=12) (i:=12) rfl F rfl (fun w=>rIx underlying23 sizeOf5 F rfl rfl ?_) H (fun _ _ _ h=>h) ?_
 focus (omega)
 clear F a;intro a F;refine Xx (k:=13) (i:=13) rfl (by kernel_rfl) F (Wa H 0 sizeOf5 F rfl rfl rfl (by omega) ?_);clear H;intro w H;refine XF (by kernel_rfl) H ?_
 refine Xv (k:=14) (i:=14) rfl F rfl (fun w=>rIx underlying23 sizeOf5 F rfl rfl ?_) H (fun _ _ _ h=>h) ?_
 focus (omega)
 clear F a;intro a F;refine Xx (k:=15) (i:=15) rfl (by kernel_rfl) F (Wa H 0 sizeOf5 F rfl rfl rfl (by omega) ?_);clear H;intro w H;refine XF (by kernel_rfl) H ?_;refine eNil (k:=16) (by kernel_rfl) ?_;refine hK2 _ _ (cSR fun K3 hK3=>Xl F rfl ?_);clear hK2;clear F a;intro a F
 refine Xm F rfl rfl (XJ (j:=1) ?_) ?_
 focus omega
 clear F a;intro a F;refine Xl F rfl ?_;clear F a;intro a F
 refine Xm F rfl rfl (Yp (j:=1) ?_ ?_) ?_
 focus omega
 focus omega
 clear F a;intro a F;refine Xa F rfl (Xh rfl (qNK hK3 ?_));clear hK3;clear F a;intro a F;refine cSeq (fun K4 hK4=>?_);refine wp_block ?_
 refine cLoopS [0,1] (fun m ups w=>∃ (i j:Nat) (e:By),m=j+1∧ups=[(9,.int .i64 ((i:Nat):Int)),(10,.int .i64 ((j:Nat):Int))]∧Pe lo up i j e∧e lo=d pv∧Sm lo up d e∧Own W row w (.byt g n c e :: rs)) F (up - 1+1) [(9,.int .i64 ((lo+1:Nat):Int)),(10,.int .i64 ((up - 1:Nat):Int))] ?_ ?_
 · exact ⟨lo+1,up - 1,_,rfl,rfl,⟨Nat.le_refl _,by omega,by omega,fun k h1 h2=>by omega,fun k h1 h2=>by omega⟩,by unfold swp;rw [if_pos rfl],Sm.swap d (by omega) (by omega) (by omega) (by omega),YU H⟩
 clear F
 clear H
 intro m ups a w hI F
 obtain ⟨i,j,e,rfl,rfl,hpe,hel,hsm,H⟩:=hI
 refine wp_block ?_;refine cSeq (fun K5 hK5=>?_);refine wp_block ?_
 refine cLoopS [0,1,10] (fun m ups w=>∃ (i:Nat),m=j+1 - i∧ups=[(9,.int .i64 ((i:Nat):Int))]∧Pe lo up i j e∧Own W row w (.byt g n c e :: rs)) F (j+1 - i) [(9,.int .i64 ((i:Nat):Int))] ?_ ?_
 · exact ⟨i,rfl,rfl,hpe,H⟩
 clear F
 clear H
 intro m ups a w hI F
 clear hpe;obtain ⟨i,rfl,rfl,hpe,H⟩:=hI;have q1:=hpe.lo;have q2:=hpe.ij;have q3:=hpe.jb
 refine cSeq (fun K6 hK6=>?_);refine cSeq (fun K7 hK7=>?_);refine cRegRO (by kernel_rfl) H ?_;replace H:=H.drew;refine Xt 0 rfl F rfl (fun w=>rMv F rfl) H qq0 (Xu 1 rfl rfl (fun a F w=>rMv F rfl) H qq0 (Xu 2 rfl rfl (fun a F w=>YA F rfl rfl GZ) H qq0 (Xu 3 rfl rfl (fun a F w=>rMv F rfl) H qq0 ?_)));clear F a;intro a F
 refine F.split 32 rfl ?_ ?_ <;> (clear F;intro h32 F)
 ·
  replace h32:=of_decide_eq_true h32;refine Xt 4 rfl F rfl (fun w=>rMv F rfl) H qq0 (Xu 5 rfl rfl (fun a F w=>rMv F rfl) H qq0 ?_);clear F a;intro a F
  refine Xv (k:=6) (i:=6) rfl F rfl (fun w=>rIx underlying23 sizeOf5 F rfl rfl ?_) H (fun _ _ _ h=>h) ?_
  focus (omega)
  clear F a;intro a F;refine Xw 7 rfl F rfl rfl (fun w H=>rLd isAgg5 F rfl (H.by' 0 rfl)) H qq0 (Xu 8 rfl rfl (fun a F w=>rMv F rfl) H qq0 (Xu 9 rfl rfl (fun a F w=>rMv F rfl) H qq0 ?_));clear F a;intro a F
  refine Xv (k:=10) (i:=10) rfl F rfl (fun w=>rIx underlying23 sizeOf5 F rfl rfl ?_) H (fun _ _ _ h=>h) ?_
  focus (omega)
  clear F a;intro a F;refine Xw 11 rfl F rfl rfl (fun w H=>rLd isAgg5 F rfl (H.by' 0 rfl)) H qq0 ?_;clear F a;intro a F;refine Xx (k:=12) (i:=12) rfl (by kernel_rfl) F (XS call106 F rfl rfl (YE (e lo) (e i) _) ?_);rintro e w ⟨rfl,hb⟩;replace H:=H.grow hb;clear hb;refine ⟨_,rfl,?_⟩;clear F a;intro a F;refine XF (by kernel_rfl) H ?_;refine Xt 13 rfl F rfl (fun w=>NA F rfl) H qq0 (Xu 14 rfl rfl (fun a F w=>rPk F rfl rfl) H qq0 ?_);clear F a;intro a F;refine eNil (k:=15) (by kernel_rfl) ?_;refine hK7 _ _ ?_;clear hK7
  refine cIf F rfl (fun h43=>?_) (fun h43=>?_)
  ·
   replace h43:=ZA h43;refine wp_skip (hK6 _ _ ?_);clear hK6;refine wp_block ?_;refine cReg (Xl F rfl ?_);clear F a;intro a F
   refine Xm F rfl rfl (XJ (j:=1) ?_) ?_
   focus omega
   clear F a;intro a F;refine Xa F rfl ?_;clear F a;intro a F;refine sNil ?_
   have h43':¬ (e lo).toNat < (e i).toNat:=by simpa using h43
   exact ⟨_,by omega,_,⟨i+1,rfl,rfl,hpe.up (by omega) h43',H⟩,F.tt⟩
  replace h43:=ZB h43;refine wp_exit ?_;refine hK5 _ _ ?_;clear hK5;refine cSeq (fun K8 hK8=>?_);refine wp_block ?_
  refine cLoopS [0,1,9] (fun m ups w=>∃ (j2:Nat),m=j2+1∧ups=[(10,.int .i64 ((j2:Nat):Int))]∧Pe lo up i j2 e∧(i≤j2→(e lo).toNat < (e i).toNat)∧j2≤j∧Own W row w (.byt g n c e :: rs)) F (j+1) [(10,.int .i64 ((j:Nat):Int))] ?_ ?_
  · (have h43':(e lo).toNat < (e i).toNat:=by simpa using h43
     exact ⟨j,rfl,rfl,hpe,fun _=>h43',Nat.le_refl _,H⟩)
  clear F
  clear H
  intro m ups a w hI F
  clear hpe q2 q3;obtain ⟨j2,rfl,rfl,hpe,hir,hjj,H⟩:=hI;have q2:=hpe.ij;have q3:=hpe.jb
  refine cSeq (fun K9 hK9=>?_);refine cSeq (fun K10 hK10=>?_);refine cRegRO (by kernel_rfl) H ?_;replace H:=H.drew;refine Xt 0 rfl F rfl (fun w=>rMv F rfl) H qq0 (Xu 1 rfl rfl (fun a F w=>rMv F rfl) H qq0 (Xu 2 rfl rfl (fun a F w=>YA F rfl rfl GZ) H qq0 (Xu 3 rfl rfl (fun a F w=>rMv F rfl) H qq0 ?_)));clear F a;intro a F
  refine F.split 49 rfl ?_ ?_ <;> (clear F;intro h49 F)
  ·
   replace h49:=of_decide_eq_true h49;refine Xt 4 rfl F rfl (fun w=>rMv F rfl) H qq0 (Xu 5 rfl rfl (fun a F w=>rMv F rfl) H qq0 ?_);clear F a;intro a F
   refine Xv (k:=6) (i:=6) rfl F rfl (fun w=>rIx underlying23 sizeOf5 F rfl rfl ?_) H (fun _ _ _ h=>h) ?_
   focus (omega)
   clear F a;intro a F;refine Xw 7 rfl F rfl rfl (fun w H=>rLd isAgg5 F rfl (H.by' 0 rfl)) H qq0 (Xu 8 rfl rfl (fun a F w=>rMv F rfl) H qq0 (Xu 9 rfl rfl (fun a F w=>rMv F rfl) H qq0 ?_));clear F a;intro a F
   refine Xv (k:=10) (i:=10) rfl F rfl (fun w=>rIx underlying23 sizeOf5 F rfl rfl ?_) H (fun _ _ _ h=>h) ?_
   focus (omega)
   clear F a;intro a F;refine Xw 11 rfl F rfl rfl (fun w H=>rLd isAgg5 F rfl (H.by' 0 rfl)) H qq0 ?_;clear F a;intro a F;refine Xx (k:=12) (i:=12) rfl (by kernel_rfl) F (XS call106 F rfl rfl (YE (e lo) (e j2) _) ?_);rintro e w ⟨rfl,hb⟩;replace H:=H.grow hb;clear hb;refine ⟨_,rfl,?_⟩;clear F a;intro a F;refine XF (by kernel_rfl) H ?_;refine Xt 13 rfl F rfl (fun w=>rPk F rfl rfl) H qq0 ?_;clear F a;intro a F;refine eNil (k:=14) (by kernel_rfl) ?_;refine hK10 _ _ ?_;clear hK10
   refine cIf F rfl (fun h59=>?_) (fun h59=>?_)
   ·
    refine wp_skip (hK9 _ _ ?_);clear hK9;refine wp_block ?_;refine cReg (Xl F rfl ?_);clear F a;intro a F
    refine Xm F rfl rfl (Yp (j:=1) ?_ ?_) ?_
    focus omega
    focus omega
    clear F a;intro a F;refine Xa F rfl ?_;clear F a;intro a F;refine sNil ?_
    have h59':(e lo).toNat < (e j2).toNat:=by simpa using h59
    exact ⟨_,by omega,_,⟨j2 - 1,rfl,rfl,hpe.down (by omega) h59',fun h=>hir (by omega),by omega,H⟩,F.tt⟩
   refine wp_exit ?_;refine hK8 _ _ ?_;clear hK8;refine cSeq (fun K11 hK11=>?_);refine cSR fun K12 hK12=>Xl F rfl (Xd rfl (Xj rfl rfl UO (qNK hK12 ?_)));clear hK12;clear F a;intro a F
   refine cIf F rfl (fun h64=>?_) (fun h64=>?_)
   ·
    replace h64:=of_decide_eq_true h64;refine wp_exit ?_;refine hK4 _ _ (cSR fun K13 hK13=>Xl F rfl (Xh rfl (qNK hK13 ?_)));clear hK4 hK13;clear F a;intro a F;refine wp_ret ?_;refine bRet results107 F rfl ?_
    exact ⟨i,e,rfl,hsm,by omega,by omega,hel,hpe.small,fun k h1 h2=>hpe.big k (by omega) h2,H⟩
   replace h64:=of_decide_eq_false h64;refine wp_skip (hK11 _ _ ?_);clear hK11;refine cSeq (fun K14 hK14=>?_);refine cRegRO (by kernel_rfl) H ?_;replace H:=H.drew;refine Xt 0 rfl F rfl (fun w=>rMv F rfl) H qq0 (Xu 1 rfl rfl (fun a F w=>rMv F rfl) H qq0 (Xu 2 rfl rfl (fun a F w=>rMv F rfl) H qq0 (Xu 3 rfl rfl (fun a F w=>rMv F rfl) H qq0 (Xu 4 rfl rfl (fun a F w=>rMv F rfl) H qq0 (Xu 5 rfl rfl (fun a F w=>rMv F rfl) H qq0 ?_)))));clear F a;intro a F
   refine Xv (k:=6) (i:=6) rfl F rfl (fun w=>rIx underlying23 sizeOf5 F rfl rfl ?_) H (fun _ _ _ h=>h) ?_
   focus (omega)
   clear F a;intro a F;refine Xw 7 rfl F rfl rfl (fun w H=>rLd isAgg5 F rfl (H.by' 0 rfl)) H qq0 (Xu 8 rfl rfl (fun a F w=>rMv F rfl) H qq0 (Xu 9 rfl rfl (fun a F w=>rMv F rfl) H qq0 ?_));clear F a;intro a F
   refine Xv (k:=10) (i:=10) rfl F rfl (fun w=>rIx underlying23 sizeOf5 F rfl rfl ?_) H (fun _ _ _ h=>h) ?_
   focus (omega)
   clear F a;intro a F;refine Xw 11 rfl F rfl rfl (fun w H=>rLd isAgg5 F rfl (H.by' 0 rfl)) H qq0 ?_;clear F a;intro a F
   refine Xv (k:=12) (i:=12) rfl F rfl (fun w=>rIx underlying23 sizeOf5 F rfl rfl ?_) H (fun _ _ _ h=>h) ?_
   focus (omega)
   clear F a;intro a F;refine Xx (k:=13) (i:=13) rfl (by kernel_rfl) F (Wa H 0 sizeOf5 F rfl rfl rfl (by omega) ?_);clear H;intro w H;refine XF (by kernel_rfl) H ?_
   refine Xv (k:=14) (i:=14) rfl F rfl (fun w=>rIx underlying23 sizeOf5 F rfl rfl ?_) H (fun _ _ _ h=>h) ?_
   focus (omega)
   clear F a;intro a F;refine Xx (k:=15) (i:=15) rfl (by kernel_rfl) F (Wa H 0 sizeOf5 F rfl rfl rfl (by omega) ?_);clear H;intro w H;refine XF (by kernel_rfl) H ?_;refine eNil (k:=16) (by kernel_rfl) ?_;refine hK14 _ _ (cSR fun K15 hK15=>Xl F rfl ?_);clear hK14;clear F a;intro a F
   refine Xm F rfl rfl (XJ (j:=1) ?_) ?_
   focus omega
   clear F a;intro a F;refine Xa F rfl (qNK hK15 (WN (Xd rfl ?_)));clear hK15;clear F a;intro a F
   refine Xm F rfl rfl (Yp (j:=1) ?_ ?_) ?_
   focus omega
   focus omega
   clear F a;intro a F;refine Xa F rfl ?_;clear F a;intro a F;refine sNil ?_
   (have h59':¬ (e lo).toNat < (e j2).toNat:=by simpa using h59
    exact ⟨_,by omega,_,⟨i+1,j2 - 1,_,rfl,rfl,hpe.swap (by omega) (hir (by omega)) h59',by unfold swp;rw [if_neg (by omega),if_neg (by omega)];exact hel,hsm.trans (Sm.swap e (by omega) (by omega) (by omega) (by omega)),YU H⟩,F.tt⟩)
  replace h49:=of_decide_eq_false h49;refine eSF 4 rfl (by kernel_rfl) F rfl rfl rfl H qq0 (Xy 5 rfl rfl H qq0 (Xy 6 rfl rfl H qq0 (Xy 7 rfl rfl H qq0 (Xy 8 rfl rfl H qq0 (Xy 9 rfl rfl H qq0 (Xy 10 rfl rfl H qq0 (Xy 11 rfl rfl H qq0 (Xy 12 rfl rfl H qq0 (Xu 13 rfl rfl (fun a F w=>rPk F rfl rfl) H qq0 ?_)))))))));clear F a;intro a F;refine eNil (k:=14) (by kernel_rfl) ?_;refine hK10 _ _ ?_;clear hK10;refine cIfF F rfl ?_;refine wp_exit ?_;refine hK8 _ _ ?_;clear hK8;refine cSeq (fun K16 hK16=>?_);refine cSR fun K17 hK17=>Xl F rfl (Xd rfl (Xj rfl rfl UO (qNK hK17 ?_)));clear hK17;clear F a;intro a F
  refine cIf F rfl (fun h64=>?_) (fun h64=>?_)
  ·
   replace h64:=of_decide_eq_true h64;refine wp_exit ?_;refine hK4 _ _ (cSR fun K18 hK18=>Xl F rfl (Xh rfl (qNK hK18 ?_)));clear hK4 hK18;clear F a;intro a F;refine wp_ret ?_;refine bRet results107 F rfl ?_
   exact ⟨i,e,rfl,hsm,by omega,by omega,hel,hpe.small,fun k h1 h2=>hpe.big k (by omega) h2,H⟩
  replace h64:=of_decide_eq_false h64;refine wp_skip (hK16 _ _ ?_);clear hK16;refine cSeq (fun K19 hK19=>?_);refine cRegRO (by kernel_rfl) H ?_;replace H:=H.drew;refine Xt 0 rfl F rfl (fun w=>rMv F rfl) H qq0 (Xu 1 rfl rfl (fun a F w=>rMv F rfl) H qq0 (Xu 2 rfl rfl (fun a F w=>rMv F rfl) H qq0 (Xu 3 rfl rfl (fun a F w=>rMv F rfl) H qq0 (Xu 4 rfl rfl (fun a F w=>rMv F rfl) H qq0 (Xu 5 rfl rfl (fun a F w=>rMv F rfl) H qq0 ?_)))));clear F a;intro a F
  refine Xv (k:=6) (i:=6) rfl F rfl (fun w=>rIx underlying23 sizeOf5 F rfl rfl ?_) H (fun _ _ _ h=>h) ?_
  focus (omega)
  clear F a;intro a F;refine Xw 7 rfl F rfl rfl (fun w H=>rLd isAgg5 F rfl (H.by' 0 rfl)) H qq0 (Xu 8 rfl rfl (fun a F w=>rMv F rfl) H qq0 (Xu 9 rfl rfl (fun a F w=>rMv F rfl) H qq0 ?_));clear F a;intro a F
  refine Xv (k:=10) (i:=10) rfl F rfl (fun w=>rIx underlying23 sizeOf5 F rfl rfl ?_) H (fun _ _ _ h=>h) ?_
  focus (omega)
  clear F a;intro a F;refine Xw 11 rfl F rfl rfl (fun w H=>rLd isAgg5 F rfl (H.by' 0 rfl)) H qq0 ?_;clear F a;intro a F
  refine Xv (k:=12) (i:=12) rfl F rfl (fun w=>rIx underlying23 sizeOf5 F rfl rfl ?_) H (fun _ _ _ h=>h) ?_
  focus (omega)
  clear F a;intro a F;refine Xx (k:=13) (i:=13) rfl (by kernel_rfl) F (Wa H 0 sizeOf5 F rfl rfl rfl (by omega) ?_);clear H;intro w H;refine XF (by kernel_rfl) H ?_
  refine Xv (k:=14) (i:=14) rfl F rfl (fun w=>rIx underlying23 sizeOf5 F rfl rfl ?_) H (fun _ _ _ h=>h) ?_
  focus (omega)
  clear F a;intro a F;refine Xx (k:=15) (i:=15) rfl (by kernel_rfl) F (Wa H 0 sizeOf5 F rfl rfl rfl (by omega) ?_);clear H;intro w H;refine XF (by kernel_rfl) H ?_;refine eNil (k:=16) (by kernel_rfl) ?_;refine hK19 _ _ (cSR fun K20 hK20=>Xl F rfl ?_);clear hK19;clear F a;intro a F
  refine Xm F rfl rfl (XJ (j:=1) ?_) ?_
  focus omega
  clear F a;intro a F;refine Xa F rfl (qNK hK20 (WN (Xd rfl ?_)));clear hK20;clear F a;intro a F
  refine Xm F rfl rfl (Yp (j:=1) ?_ ?_) ?_
  focus omega
  focus omega
  clear F a;intro a F;refine Xa F rfl ?_;clear F a;intro a F;refine sNil ?_
  (exfalso;omega)
 replace h32:=of_decide_eq_false h32;refine eSF 4 rfl (by kernel_rfl) F rfl rfl rfl H qq0 (Xy 5 rfl rfl H qq0 (Xy 6 rfl rfl H qq0 (Xy 7 rfl rfl H qq0 (Xy 8 rfl rfl H qq0 (Xy 9 rfl rfl H qq0 (Xy 10 rfl rfl H qq0 (Xy 11 rfl rfl H qq0 (Xy 12 rfl rfl H qq0 (Xy 13 rfl rfl H qq0 (Xu 14 rfl rfl (fun a F w=>rPk F rfl rfl) H qq0 ?_))))))))));clear F a;intro a F;refine eNil (k:=15) (by kernel_rfl) ?_;refine hK7 _ _ ?_;clear hK7;refine cIfF F rfl ?_;refine wp_exit ?_;refine hK5 _ _ ?_;clear hK5;refine cSeq (fun K21 hK21=>?_);refine wp_block ?_
 refine cLoopS [0,1,9] (fun m ups w=>∃ (j2:Nat),m=j2+1∧ups=[(10,.int .i64 ((j2:Nat):Int))]∧Pe lo up i j2 e∧(i≤j2→(e lo).toNat < (e i).toNat)∧j2≤j∧Own W row w (.byt g n c e :: rs)) F (j+1) [(10,.int .i64 ((j:Nat):Int))] ?_ ?_
 · exact ⟨j,rfl,rfl,hpe,fun h=>(by omega),Nat.le_refl _,H⟩
 clear F
 clear H
 intro m ups a w hI F
 clear hpe q2 q3;obtain ⟨j2,rfl,rfl,hpe,hir,hjj,H⟩:=hI;have q2:=hpe.ij;have q3:=hpe.jb
 refine cSeq (fun K22 hK22=>?_);refine cSeq (fun K23 hK23=>?_);refine cRegRO (by kernel_rfl) H ?_;replace H:=H.drew;refine Xt 0 rfl F rfl (fun w=>rMv F rfl) H qq0 (Xu 1 rfl rfl (fun a F w=>rMv F rfl) H qq0 (Xu 2 rfl rfl (fun a F w=>YA F rfl rfl GZ) H qq0 (Xu 3 rfl rfl (fun a F w=>rMv F rfl) H qq0 ?_)));clear F a;intro a F
 refine F.split 49 rfl ?_ ?_ <;> (clear F;intro h49 F)
 ·
  replace h49:=of_decide_eq_true h49;refine Xt 4 rfl F rfl (fun w=>rMv F rfl) H qq0 (Xu 5 rfl rfl (fun a F w=>rMv F rfl) H qq0 ?_);clear F a;intro a F
  refine Xv (k:=6) (i:=6) rfl F rfl (fun w=>rIx underlying23 sizeOf5 F rfl rfl ?_) H (fun _ _ _ h=>h) ?_
  focus (omega)
  clear F a;intro a F;refine Xw 7 rfl F rfl rfl (fun w H=>rLd isAgg5 F rfl (H.by' 0 rfl)) H qq0 (Xu 8 rfl rfl (fun a F w=>rMv F rfl) H qq0 (Xu 9 rfl rfl (fun a F w=>rMv F rfl) H qq0 ?_));clear F a;intro a F
  refine Xv (k:=10) (i:=10) rfl F rfl (fun w=>rIx underlying23 sizeOf5 F rfl rfl ?_) H (fun _ _ _ h=>h) ?_
  focus (omega)
  clear F a;intro a F;refine Xw 11 rfl F rfl rfl (fun w H=>rLd isAgg5 F rfl (H.by' 0 rfl)) H qq0 ?_;clear F a;intro a F;refine Xx (k:=12) (i:=12) rfl (by kernel_rfl) F (XS call106 F rfl rfl (YE (e lo) (e j2) _) ?_);rintro e w ⟨rfl,hb⟩;replace H:=H.grow hb;clear hb;refine ⟨_,rfl,?_⟩;clear F a;intro a F;refine XF (by kernel_rfl) H ?_;refine Xt 13 rfl F rfl (fun w=>rPk F rfl rfl) H qq0 ?_;clear F a;intro a F;refine eNil (k:=14) (by kernel_rfl) ?_;refine hK23 _ _ ?_;clear hK23
  refine cIf F rfl (fun h59=>?_) (fun h59=>?_)
  ·
   refine wp_skip (hK22 _ _ ?_);clear hK22;refine wp_block ?_;refine cReg (Xl F rfl ?_);clear F a;intro a F
   refine Xm F rfl rfl (Yp (j:=1) ?_ ?_) ?_
   focus omega
   focus omega
   clear F a;intro a F;refine Xa F rfl ?_;clear F a;intro a F;refine sNil ?_
   have h59':(e lo).toNat < (e j2).toNat:=by simpa using h59
   exact ⟨_,by omega,_,⟨j2 - 1,rfl,rfl,hpe.down (by omega) h59',fun h=>hir (by omega),by omega,H⟩,F.tt⟩
  refine wp_exit ?_;refine hK21 _ _ ?_;clear hK21;refine cSeq (fun K24 hK24=>?_);refine cSR fun K25 hK25=>Xl F rfl (Xd rfl (Xj rfl rfl UO (qNK hK25 ?_)));clear hK25;clear F a;intro a F
  refine cIf F rfl (fun h64=>?_) (fun h64=>?_)
  ·
   replace h64:=of_decide_eq_true h64;refine wp_exit ?_;refine hK4 _ _ (cSR fun K26 hK26=>Xl F rfl (Xh rfl (qNK hK26 ?_)));clear hK4 hK26;clear F a;intro a F;refine wp_ret ?_;refine bRet results107 F rfl ?_
   exact ⟨i,e,rfl,hsm,by omega,by omega,hel,hpe.small,fun k h1 h2=>hpe.big k (by omega) h2,H⟩
  replace h64:=of_decide_eq_false h64;refine wp_skip (hK24 _ _ ?_);clear hK24;refine cSeq (fun K27 hK27=>?_);refine cRegRO (by kernel_rfl) H ?_;replace H:=H.drew;refine Xt 0 rfl F rfl (fun w=>rMv F rfl) H qq0 (Xu 1 rfl rfl (fun a F w=>rMv F rfl) H qq0 (Xu 2 rfl rfl (fun a F w=>rMv F rfl) H qq0 (Xu 3 rfl rfl (fun a F w=>rMv F rfl) H qq0 (Xu 4 rfl rfl (fun a F w=>rMv F rfl) H qq0 (Xu 5 rfl rfl (fun a F w=>rMv F rfl) H qq0 ?_)))));clear F a;intro a F
  refine Xv (k:=6) (i:=6) rfl F rfl (fun w=>rIx underlying23 sizeOf5 F rfl rfl ?_) H (fun _ _ _ h=>h) ?_
  focus (omega)
  clear F a;intro a F;refine Xw 7 rfl F rfl rfl (fun w H=>rLd isAgg5 F rfl (H.by' 0 rfl)) H qq0 (Xu 8 rfl rfl (fun a F w=>rMv F rfl) H qq0 (Xu 9 rfl rfl (fun a F w=>rMv F rfl) H qq0 ?_));clear F a;intro a F
  refine Xv (k:=10) (i:=10) rfl F rfl (fun w=>rIx underlying23 sizeOf5 F rfl rfl ?_) H (fun _ _ _ h=>h) ?_
  focus (omega)
  clear F a;intro a F;refine Xw 11 rfl F rfl rfl (fun w H=>rLd isAgg5 F rfl (H.by' 0 rfl)) H qq0 ?_;clear F a;intro a F
  refine Xv (k:=12) (i:=12) rfl F rfl (fun w=>rIx underlying23 sizeOf5 F rfl rfl ?_) H (fun _ _ _ h=>h) ?_
  focus (omega)
  clear F a;intro a F;refine Xx (k:=13) (i:=13) rfl (by kernel_rfl) F (Wa H 0 sizeOf5 F rfl rfl rfl (by omega) ?_);clear H;intro w H;refine XF (by kernel_rfl) H ?_
  refine Xv (k:=14) (i:=14) rfl F rfl (fun w=>rIx underlying23 sizeOf5 F rfl rfl ?_) H (fun _ _ _ h=>h) ?_
  focus (omega)
  clear F a;intro a F;refine Xx (k:=15) (i:=15) rfl (by kernel_rfl) F (Wa H 0 sizeOf5 F rfl rfl rfl (by omega) ?_);clear H;intro w H;refine XF (by kernel_rfl) H ?_;refine eNil (k:=16) (by kernel_rfl) ?_;refine hK27 _ _ (cSR fun K28 hK28=>Xl F rfl ?_);clear hK27;clear F a;intro a F
  refine Xm F rfl rfl (XJ (j:=1) ?_) ?_
  focus omega
  clear F a;intro a F;refine Xa F rfl (qNK hK28 (WN (Xd rfl ?_)));clear hK28;clear F a;intro a F
  refine Xm F rfl rfl (Yp (j:=1) ?_ ?_) ?_
  focus omega
  focus omega
  clear F a;intro a F;refine Xa F rfl ?_;clear F a;intro a F;refine sNil ?_
  (have h59':¬ (e lo).toNat < (e j2).toNat:=by simpa using h59
   exact ⟨_,by omega,_,⟨i+1,j2 - 1,_,rfl,rfl,hpe.swap (by omega) (hir (by omega)) h59',by unfold swp;rw [if_neg (by omega),if_neg (by omega)];exact hel,hsm.trans (Sm.swap e (by omega) (by omega) (by omega) (by omega)),YU H⟩,F.tt⟩)
 replace h49:=of_decide_eq_false h49;refine eSF 4 rfl (by kernel_rfl) F rfl rfl rfl H qq0 (Xy 5 rfl rfl H qq0 (Xy 6 rfl rfl H qq0 (Xy 7 rfl rfl H qq0 (Xy 8 rfl rfl H qq0 (Xy 9 rfl rfl H qq0 (Xy 10 rfl rfl H qq0 (Xy 11 rfl rfl H qq0 (Xy 12 rfl rfl H qq0 (Xu 13 rfl rfl (fun a F w=>rPk F rfl rfl) H qq0 ?_)))))))));clear F a;intro a F;refine eNil (k:=14) (by kernel_rfl) ?_;refine hK23 _ _ ?_;clear hK23;refine cIfF F rfl ?_;refine wp_exit ?_;refine hK21 _ _ ?_;clear hK21;refine cSeq (fun K29 hK29=>?_);refine cSR fun K30 hK30=>Xl F rfl (Xd rfl (Xj rfl rfl UO (qNK hK30 ?_)));clear hK30;clear F a;intro a F
 refine cIf F rfl (fun h64=>?_) (fun h64=>?_)
 ·
  replace h64:=of_decide_eq_true h64;refine wp_exit ?_;refine hK4 _ _ (cSR fun K31 hK31=>Xl F rfl (Xh rfl (qNK hK31 ?_)));clear hK4 hK31;clear F a;intro a F;refine wp_ret ?_;refine bRet results107 F rfl ?_
  exact ⟨i,e,rfl,hsm,by omega,by omega,hel,hpe.small,fun k h1 h2=>hpe.big k (by omega) h2,H⟩
 replace h64:=of_decide_eq_false h64;refine wp_skip (hK29 _ _ ?_);clear hK29;refine cSeq (fun K32 hK32=>?_);refine cRegRO (by kernel_rfl) H ?_;replace H:=H.drew;refine Xt 0 rfl F rfl (fun w=>rMv F rfl) H qq0 (Xu 1 rfl rfl (fun a F w=>rMv F rfl) H qq0 (Xu 2 rfl rfl (fun a F w=>rMv F rfl) H qq0 (Xu 3 rfl rfl (fun a F w=>rMv F rfl) H qq0 (Xu 4 rfl rfl (fun a F w=>rMv F rfl) H qq0 (Xu 5 rfl rfl (fun a F w=>rMv F rfl) H qq0 ?_)))));clear F a;intro a F
 refine Xv (k:=6) (i:=6) rfl F rfl (fun w=>rIx underlying23 sizeOf5 F rfl rfl ?_) H (fun _ _ _ h=>h) ?_
 focus (omega)
 clear F a;intro a F;refine Xw 7 rfl F rfl rfl (fun w H=>rLd isAgg5 F rfl (H.by' 0 rfl)) H qq0 (Xu 8 rfl rfl (fun a F w=>rMv F rfl) H qq0 (Xu 9 rfl rfl (fun a F w=>rMv F rfl) H qq0 ?_));clear F a;intro a F
 refine Xv (k:=10) (i:=10) rfl F rfl (fun w=>rIx underlying23 sizeOf5 F rfl rfl ?_) H (fun _ _ _ h=>h) ?_
 focus (omega)
 clear F a;intro a F;refine Xw 11 rfl F rfl rfl (fun w H=>rLd isAgg5 F rfl (H.by' 0 rfl)) H qq0 ?_;clear F a;intro a F
 refine Xv (k:=12) (i:=12) rfl F rfl (fun w=>rIx underlying23 sizeOf5 F rfl rfl ?_) H (fun _ _ _ h=>h) ?_
 focus (omega)
 clear F a;intro a F;refine Xx (k:=13) (i:=13) rfl (by kernel_rfl) F (Wa H 0 sizeOf5 F rfl rfl rfl (by omega) ?_);clear H;intro w H;refine XF (by kernel_rfl) H ?_
 refine Xv (k:=14) (i:=14) rfl F rfl (fun w=>rIx underlying23 sizeOf5 F rfl rfl ?_) H (fun _ _ _ h=>h) ?_
 focus (omega)
 clear F a;intro a F;refine Xx (k:=15) (i:=15) rfl (by kernel_rfl) F (Wa H 0 sizeOf5 F rfl rfl rfl (by omega) ?_);clear H;intro w H;refine XF (by kernel_rfl) H ?_;refine eNil (k:=16) (by kernel_rfl) ?_;refine hK32 _ _ (cSR fun K33 hK33=>Xl F rfl ?_);clear hK32;clear F a;intro a F
 refine Xm F rfl rfl (XJ (j:=1) ?_) ?_
 focus omega
 clear F a;intro a F;refine Xa F rfl (qNK hK33 (WN (Xd rfl ?_)));clear hK33;clear F a;intro a F
 refine Xm F rfl rfl (Yp (j:=1) ?_ ?_) ?_
 focus omega
 focus omega
 clear F a;intro a F;refine Xa F rfl ?_;clear F a;intro a F;refine sNil ?_
 (exfalso;omega)
-- SoG
open Go.Proofs.Tryz
open Go.RowKit
set_option maxRecDepth 100000
set_option maxHeartbeats 4000000 in
theorem MX (g n c:Nat) (d:By) (lo up pv:Nat) (W:World) (row:Option Nat) (rs:List Res) (w0:World) (H:Own W row w0 (.byt g n c d :: rs)) (hb:up≤n) (hn:n≤1000000) (hlo:lo≤pv) (hup:pv < up) :
   Calls Tryz.prog 108 #[.slice (some ⟨g,0,none⟩) n c,.int .i64 (lo:Int),.int .i64 (up:Int),.int .i64 (pv:Int)] w0 fun e w'=>∃ (m:Nat) (r:Bool) (d':By),e = .returned (.tuple #[.int .i64 (m:Int),.bool r])∧Sm lo up d d'∧Parted lo up m d'∧Own W row w' (.byt g n c d' :: rs):=by
 refine XE func108 rfl ntmps108 rfl (fun a F=>?_);refine cSR fun K1 hK1=>Xa F rfl (Xh rfl (qNK hK1 ?_));clear hK1;clear F a;intro a F;refine cSeq (fun K2 hK2=>?_);refine cRegRO (by kernel_rfl) H ?_;replace H:=H.drew;refine Xt 0 rfl F rfl (fun w=>rMv F rfl) H qq0 (Xu 1 rfl rfl (fun a F w=>rMv F rfl) H qq0 (Xu 2 rfl rfl (fun a F w=>rMv F rfl) H qq0 (Xu 3 rfl rfl (fun a F w=>rMv F rfl) H qq0 (Xu 4 rfl rfl (fun a F w=>rMv F rfl) H qq0 (Xu 5 rfl rfl (fun a F w=>rMv F rfl) H qq0 ?_)))));clear F a;intro a F
 refine Xv (k:=6) (i:=6) rfl F rfl (fun w=>rIx underlying23 sizeOf5 F rfl rfl ?_) H (fun _ _ _ h=>h) ?_
 focus (omega)
 clear F a;intro a F;refine Xw 7 rfl F rfl rfl (fun w H=>rLd isAgg5 F rfl (H.by' 0 rfl)) H qq0 (Xu 8 rfl rfl (fun a F w=>rMv F rfl) H qq0 (Xu 9 rfl rfl (fun a F w=>rMv F rfl) H qq0 ?_));clear F a;intro a F
 refine Xv (k:=10) (i:=10) rfl F rfl (fun w=>rIx underlying23 sizeOf5 F rfl rfl ?_) H (fun _ _ _ h=>h) ?_
 focus (omega)
 clear F a;intro a F;refine Xw 11 rfl F rfl rfl (fun w H=>rLd isAgg5 F rfl (H.by' 0 rfl)) H qq0 ?_;clear F a;intro a F
 refine Xv (k:=12) (i:=12) rfl F rfl (fun w=>rIx underlying23 sizeOf5 F rfl rfl ?_) H (fun _ _ _ h=>h) ?_
 focus (omega)
 clear F a;intro a F;refine Xx (k:=13) (i:=13) rfl (by kernel_rfl) F (Wa H 0 sizeOf5 F rfl rfl rfl (by omega) ?_);clear H;intro w H;refine XF (by kernel_rfl) H ?_
 refine Xv (k:=14) (i:=14) rfl F rfl (fun w=>rIx underlying23 sizeOf5 F rfl rfl ?_) H (fun _ _ _ h=>h) ?_
 focus (omega)
 clear F a;intro a F;refine Xx (k:=15) (i:=15) rfl (by kernel_rfl) F (Wa H 0 sizeOf5 F rfl rfl rfl (by omega) ?_);clear H;intro w H;refine XF (by kernel_rfl) H ?_;refine eNil (k:=16) (by kernel_rfl) ?_;refine hK2 _ _ (cSR fun K3 hK3=>Xl F rfl ?_);clear hK2;clear F a;intro a F
 refine Xm F rfl rfl (XJ (j:=1) ?_) ?_
 focus omega
 clear F a;intro a F;refine Xl F rfl ?_;clear F a;intro a F
 refine Xm F rfl rfl (Yp (j:=1) ?_ ?_) ?_
 focus omega
 focus omega
 clear F a;intro a F;refine Xa F rfl (Xh rfl (qNK hK3 ?_));clear hK3;clear F a;intro a F
 refine cSeqS [0,1,11] (fun ups w=>∃ (i:Nat) (e:By),ups=[(10,.int .i64 ((i:Nat):Int))]∧Pt lo up i (up - 1) e∧Sm lo up d e∧(i≤up - 1→¬ (e i).toNat < (e lo).toNat)∧Own W row w (.byt g n c e :: rs)) F ?_ ?_
 ·
  refine wp_block ?_
  refine cLoopS [0,1,11] (fun m ups w=>∃ (i:Nat) (e:By),m=up - i∧ups=[(10,.int .i64 ((i:Nat):Int))]∧Pt lo up i (up - 1) e∧Sm lo up d e∧Own W row w (.byt g n c e :: rs)) F (up - (lo+1)) [(10,.int .i64 ((lo+1:Nat):Int))] ?_ ?_
  · exact ⟨lo+1,_,rfl,rfl,⟨Nat.le_refl _,by omega,by omega,by omega,fun k h1 h2=>by omega,fun k h1 h2=>by omega⟩,Sm.swap d (by omega) (by omega) (by omega) (by omega),YU H⟩
  clear F
  clear H
  intro m ups a w hI F
  obtain ⟨i,e,rfl,rfl,hpt,hsm,H⟩:=hI;have q1:=hpt.lo;have q2:=hpt.ij;have q3:=hpt.jb;have q4:=hpt.aj
  refine cSeq (fun K4 hK4=>?_);refine cSeq (fun K5 hK5=>?_);refine cRegRO (by kernel_rfl) H ?_;replace H:=H.drew;refine Xt 0 rfl F rfl (fun w=>rMv F rfl) H qq0 (Xu 1 rfl rfl (fun a F w=>rMv F rfl) H qq0 (Xu 2 rfl rfl (fun a F w=>YA F rfl rfl GZ) H qq0 (Xu 3 rfl rfl (fun a F w=>rMv F rfl) H qq0 ?_)));clear F a;intro a F
  refine F.split 33 rfl ?_ ?_ <;> (clear F;intro h33 F)
  ·
   replace h33:=of_decide_eq_true h33;refine Xt 4 rfl F rfl (fun w=>rMv F rfl) H qq0 (Xu 5 rfl rfl (fun a F w=>rMv F rfl) H qq0 ?_);clear F a;intro a F
   refine Xv (k:=6) (i:=6) rfl F rfl (fun w=>rIx underlying23 sizeOf5 F rfl rfl ?_) H (fun _ _ _ h=>h) ?_
   focus (omega)
   clear F a;intro a F;refine Xw 7 rfl F rfl rfl (fun w H=>rLd isAgg5 F rfl (H.by' 0 rfl)) H qq0 (Xu 8 rfl rfl (fun a F w=>rMv F rfl) H qq0 (Xu 9 rfl rfl (fun a F w=>rMv F rfl) H qq0 ?_));clear F a;intro a F
   refine Xv (k:=10) (i:=10) rfl F rfl (fun w=>rIx underlying23 sizeOf5 F rfl rfl ?_) H (fun _ _ _ h=>h) ?_
   focus (omega)
   clear F a;intro a F;refine Xw 11 rfl F rfl rfl (fun w H=>rLd isAgg5 F rfl (H.by' 0 rfl)) H qq0 ?_;clear F a;intro a F;refine Xx (k:=12) (i:=12) rfl (by kernel_rfl) F (XS call106 F rfl rfl (YE (e i) (e lo) _) ?_);rintro e w ⟨rfl,hb⟩;replace H:=H.grow hb;clear hb;refine ⟨_,rfl,?_⟩;clear F a;intro a F;refine XF (by kernel_rfl) H ?_;refine Xt 13 rfl F rfl (fun w=>rPk F rfl rfl) H qq0 ?_;clear F a;intro a F;refine eNil (k:=14) (by kernel_rfl) ?_;refine hK5 _ _ ?_;clear hK5
   refine cIf F rfl (fun h43=>?_) (fun h43=>?_)
   ·
    refine wp_skip (hK4 _ _ ?_);clear hK4;refine wp_block ?_;refine cReg (Xl F rfl ?_);clear F a;intro a F
    refine Xm F rfl rfl (XJ (j:=1) ?_) ?_
    focus omega
    clear F a;intro a F;refine Xa F rfl ?_;clear F a;intro a F;refine sNil ?_
    exact ⟨_,by omega,_,⟨i+1,e,rfl,rfl,hpt.up (by omega) (of_decide_eq_true h43),hsm,H⟩,F.tt⟩
   refine wp_exit ?_
   exact ⟨_,⟨i,e,rfl,hpt,hsm,fun _=>of_decide_eq_false h43,H⟩,F.tt⟩
  replace h33:=of_decide_eq_false h33;refine eSF 4 rfl (by kernel_rfl) F rfl rfl rfl H qq0 (Xy 5 rfl rfl H qq0 (Xy 6 rfl rfl H qq0 (Xy 7 rfl rfl H qq0 (Xy 8 rfl rfl H qq0 (Xy 9 rfl rfl H qq0 (Xy 10 rfl rfl H qq0 (Xy 11 rfl rfl H qq0 (Xy 12 rfl rfl H qq0 (Xu 13 rfl rfl (fun a F w=>rPk F rfl rfl) H qq0 ?_)))))))));clear F a;intro a F;refine eNil (k:=14) (by kernel_rfl) ?_;refine hK5 _ _ ?_;clear hK5;refine cIfF F rfl ?_;refine wp_exit ?_
  exact ⟨_,⟨i,e,rfl,hpt,hsm,fun h=>absurd h (by omega),H⟩,F.tt⟩
 clear F H
 intro ups a w hI F
 obtain ⟨i,e,rfl,hpt,hsm,hge,H⟩:=hI;have q1:=hpt.lo;have q2:=hpt.ij;have q3:=hpt.jb;have q4:=hpt.aj
 refine cSeqS [0,1,10] (fun ups w=>∃ j:Nat,ups=[(11,.int .i64 ((j:Nat):Int))]∧Pt lo up i j e∧(i≤j→¬ (e i).toNat < (e lo).toNat)∧(i≤j→(e j).toNat < (e lo).toNat)∧j < up∧Own W row w (.byt g n c e :: rs)) F ?_ ?_
 ·
  refine wp_block ?_
  refine cLoopS [0,1,10] (fun m ups w=>∃ (j:Nat),m=j+1∧ups=[(11,.int .i64 ((j:Nat):Int))]∧Pt lo up i j e∧(i≤j→¬ (e i).toNat < (e lo).toNat)∧j < up∧Own W row w (.byt g n c e :: rs)) F (up - 1+1) [(11,.int .i64 ((up - 1:Nat):Int))] ?_ ?_
  · exact ⟨up - 1,rfl,rfl,hpt,hge,by omega,H⟩
  clear F
  clear H
  intro m ups a w hI F
  clear hpt q2 q3 q4;obtain ⟨j,rfl,rfl,hpt,hir,hju,H⟩:=hI;have q2:=hpt.ij;have q4:=hpt.aj
  refine cSeq (fun K6 hK6=>?_);refine cSeq (fun K7 hK7=>?_);refine cRegRO (by kernel_rfl) H ?_;replace H:=H.drew;refine Xt 0 rfl F rfl (fun w=>rMv F rfl) H qq0 (Xu 1 rfl rfl (fun a F w=>rMv F rfl) H qq0 (Xu 2 rfl rfl (fun a F w=>YA F rfl rfl GZ) H qq0 (Xu 3 rfl rfl (fun a F w=>rMv F rfl) H qq0 ?_)));clear F a;intro a F
  refine F.split 49 rfl ?_ ?_ <;> (clear F;intro h49 F)
  ·
   replace h49:=of_decide_eq_true h49;refine Xt 4 rfl F rfl (fun w=>rMv F rfl) H qq0 (Xu 5 rfl rfl (fun a F w=>rMv F rfl) H qq0 ?_);clear F a;intro a F
   refine Xv (k:=6) (i:=6) rfl F rfl (fun w=>rIx underlying23 sizeOf5 F rfl rfl ?_) H (fun _ _ _ h=>h) ?_
   focus (omega)
   clear F a;intro a F;refine Xw 7 rfl F rfl rfl (fun w H=>rLd isAgg5 F rfl (H.by' 0 rfl)) H qq0 (Xu 8 rfl rfl (fun a F w=>rMv F rfl) H qq0 (Xu 9 rfl rfl (fun a F w=>rMv F rfl) H qq0 ?_));clear F a;intro a F
   refine Xv (k:=10) (i:=10) rfl F rfl (fun w=>rIx underlying23 sizeOf5 F rfl rfl ?_) H (fun _ _ _ h=>h) ?_
   focus (omega)
   clear F a;intro a F;refine Xw 11 rfl F rfl rfl (fun w H=>rLd isAgg5 F rfl (H.by' 0 rfl)) H qq0 ?_;clear F a;intro a F;refine Xx (k:=12) (i:=12) rfl (by kernel_rfl) F (XS call106 F rfl rfl (YE (e j) (e lo) _) ?_);rintro e w ⟨rfl,hb⟩;replace H:=H.grow hb;clear hb;refine ⟨_,rfl,?_⟩;clear F a;intro a F;refine XF (by kernel_rfl) H ?_;refine Xt 13 rfl F rfl (fun w=>NA F rfl) H qq0 (Xu 14 rfl rfl (fun a F w=>rPk F rfl rfl) H qq0 ?_);clear F a;intro a F;refine eNil (k:=15) (by kernel_rfl) ?_;refine hK7 _ _ ?_;clear hK7
   refine cIf F rfl (fun h60=>?_) (fun h60=>?_)
   ·
    replace h60:=ZA h60;refine wp_skip (hK6 _ _ ?_);clear hK6;refine wp_block ?_;refine cReg (Xl F rfl ?_);clear F a;intro a F
    refine Xm F rfl rfl (Yp (j:=1) ?_ ?_) ?_
    focus omega
    focus omega
    clear F a;intro a F;refine Xa F rfl ?_;clear F a;intro a F;refine sNil ?_
    have h60':¬ (e j).toNat < (e lo).toNat:=by simpa using h60
    exact ⟨_,by omega,_,⟨j - 1,rfl,rfl,hpt.down (by omega) h60',fun h=>hir (by omega),by omega,H⟩,F.tt⟩
   replace h60:=ZB h60;refine wp_exit ?_
   exact ⟨_,⟨j,rfl,hpt,hir,fun _=>of_decide_eq_true h60,hju,H⟩,F.tt⟩
  replace h49:=of_decide_eq_false h49;refine eSF 4 rfl (by kernel_rfl) F rfl rfl rfl H qq0 (Xy 5 rfl rfl H qq0 (Xy 6 rfl rfl H qq0 (Xy 7 rfl rfl H qq0 (Xy 8 rfl rfl H qq0 (Xy 9 rfl rfl H qq0 (Xy 10 rfl rfl H qq0 (Xy 11 rfl rfl H qq0 (Xy 12 rfl rfl H qq0 (Xy 13 rfl rfl H qq0 (Xu 14 rfl rfl (fun a F w=>rPk F rfl rfl) H qq0 ?_))))))))));clear F a;intro a F;refine eNil (k:=15) (by kernel_rfl) ?_;refine hK7 _ _ ?_;clear hK7;refine cIfF F rfl ?_;refine wp_exit ?_
  exact ⟨_,⟨j,rfl,hpt,hir,fun h=>absurd h (by omega),hju,H⟩,F.tt⟩
 clear F H
 intro ups a w hI F
 clear hpt q2 q4;obtain ⟨j,rfl,hpt,hir,hls,hju,H⟩:=hI;have q2:=hpt.ij;have q4:=hpt.aj
 refine cSeq (fun K8 hK8=>?_);refine cSR fun K9 hK9=>Xl F rfl (Xd rfl (Xj rfl rfl UO (qNK hK9 ?_)));clear hK9;clear F a;intro a F
 refine cIf F rfl (fun h65=>?_) (fun h65=>?_)
 ·
  replace h65:=of_decide_eq_true h65;refine cSeq (fun K10 hK10=>?_);refine cRegRO (by kernel_rfl) H ?_;replace H:=H.drew;refine Xt 0 rfl F rfl (fun w=>rMv F rfl) H qq0 (Xu 1 rfl rfl (fun a F w=>rMv F rfl) H qq0 (Xu 2 rfl rfl (fun a F w=>rMv F rfl) H qq0 (Xu 3 rfl rfl (fun a F w=>rMv F rfl) H qq0 (Xu 4 rfl rfl (fun a F w=>rMv F rfl) H qq0 (Xu 5 rfl rfl (fun a F w=>rMv F rfl) H qq0 ?_)))));clear F a;intro a F
  refine Xv (k:=6) (i:=6) rfl F rfl (fun w=>rIx underlying23 sizeOf5 F rfl rfl ?_) H (fun _ _ _ h=>h) ?_
  focus (omega)
  clear F a;intro a F;refine Xw 7 rfl F rfl rfl (fun w H=>rLd isAgg5 F rfl (H.by' 0 rfl)) H qq0 (Xu 8 rfl rfl (fun a F w=>rMv F rfl) H qq0 (Xu 9 rfl rfl (fun a F w=>rMv F rfl) H qq0 ?_));clear F a;intro a F
  refine Xv (k:=10) (i:=10) rfl F rfl (fun w=>rIx underlying23 sizeOf5 F rfl rfl ?_) H (fun _ _ _ h=>h) ?_
  focus (omega)
  clear F a;intro a F;refine Xw 11 rfl F rfl rfl (fun w H=>rLd isAgg5 F rfl (H.by' 0 rfl)) H qq0 ?_;clear F a;intro a F
  refine Xv (k:=12) (i:=12) rfl F rfl (fun w=>rIx underlying23 sizeOf5 F rfl rfl ?_) H (fun _ _ _ h=>h) ?_
  focus (omega)
  clear F a;intro a F;refine Xx (k:=13) (i:=13) rfl (by kernel_rfl) F (Wa H 0 sizeOf5 F rfl rfl rfl (by omega) ?_);clear H;intro w H;refine XF (by kernel_rfl) H ?_
  refine Xv (k:=14) (i:=14) rfl F rfl (fun w=>rIx underlying23 sizeOf5 F rfl rfl ?_) H (fun _ _ _ h=>h) ?_
  focus (omega)
  clear F a;intro a F;refine Xx (k:=15) (i:=15) rfl (by kernel_rfl) F (Wa H 0 sizeOf5 F rfl rfl rfl (by omega) ?_);clear H;intro w H;refine XF (by kernel_rfl) H ?_;refine eNil (k:=16) (by kernel_rfl) ?_;refine hK10 _ _ (cSR fun K11 hK11=>Xl F rfl (Xh rfl (Xh rfl (qNK hK11 ?_))));clear hK10 hK11;clear F a;intro a F;refine wp_ret ?_;simp only [Exit.then];refine Zo results108 F rfl rfl ?_
  exact ⟨j,true,_,rfl,hsm.trans (Sm.swap e (by omega) (by omega) (by omega) (by omega)),hpt.done (by omega),YU H⟩
 replace h65:=of_decide_eq_false h65;refine wp_skip (hK8 _ _ ?_);clear hK8;refine cSeq (fun K12 hK12=>?_);refine cRegRO (by kernel_rfl) H ?_;replace H:=H.drew;refine Xt 0 rfl F rfl (fun w=>rMv F rfl) H qq0 (Xu 1 rfl rfl (fun a F w=>rMv F rfl) H qq0 (Xu 2 rfl rfl (fun a F w=>rMv F rfl) H qq0 (Xu 3 rfl rfl (fun a F w=>rMv F rfl) H qq0 (Xu 4 rfl rfl (fun a F w=>rMv F rfl) H qq0 (Xu 5 rfl rfl (fun a F w=>rMv F rfl) H qq0 ?_)))));clear F a;intro a F
 refine Xv (k:=6) (i:=6) rfl F rfl (fun w=>rIx underlying23 sizeOf5 F rfl rfl ?_) H (fun _ _ _ h=>h) ?_
 focus (omega)
 clear F a;intro a F;refine Xw 7 rfl F rfl rfl (fun w H=>rLd isAgg5 F rfl (H.by' 0 rfl)) H qq0 (Xu 8 rfl rfl (fun a F w=>rMv F rfl) H qq0 (Xu 9 rfl rfl (fun a F w=>rMv F rfl) H qq0 ?_));clear F a;intro a F
 refine Xv (k:=10) (i:=10) rfl F rfl (fun w=>rIx underlying23 sizeOf5 F rfl rfl ?_) H (fun _ _ _ h=>h) ?_
 focus (omega)
 clear F a;intro a F;refine Xw 11 rfl F rfl rfl (fun w H=>rLd isAgg5 F rfl (H.by' 0 rfl)) H qq0 ?_;clear F a;intro a F
 refine Xv (k:=12) (i:=12) rfl F rfl (fun w=>rIx underlying23 sizeOf5 F rfl rfl ?_) H (fun _ _ _ h=>h) ?_
 focus (omega)
 clear F a;intro a F;refine Xx (k:=13) (i:=13) rfl (by kernel_rfl) F (Wa H 0 sizeOf5 F rfl rfl rfl (by omega) ?_);clear H;intro w H;refine XF (by kernel_rfl) H ?_
 refine Xv (k:=14) (i:=14) rfl F rfl (fun w=>rIx underlying23 sizeOf5 F rfl rfl ?_) H (fun _ _ _ h=>h) ?_
 focus (omega)
 clear F a;intro a F;refine Xx (k:=15) (i:=15) rfl (by kernel_rfl) F (Wa H 0 sizeOf5 F rfl rfl rfl (by omega) ?_);clear H;intro w H;refine XF (by kernel_rfl) H ?_;refine eNil (k:=16) (by kernel_rfl) ?_;refine hK12 _ _ (cSR fun K13 hK13=>Xl F rfl ?_);clear hK12;clear F a;intro a F
 refine Xm F rfl rfl (XJ (j:=1) ?_) ?_
 focus omega
 clear F a;intro a F;refine Xa F rfl (qNK hK13 (qSR fun K14 hK14=>Xd rfl ?_));clear hK13;clear F a;intro a F
 refine Xm F rfl rfl (Yp (j:=1) ?_ ?_) ?_
 focus omega
 focus omega
 clear F a;intro a F;refine Xa F rfl (qNK hK14 ?_);clear hK14;clear F a;intro a F;refine cSeq (fun K15 hK15=>?_);refine wp_block ?_
 have hjl:i≤j:=by omega
 have h60':(e j).toNat < (e lo).toNat:=hls hjl
 have hne:i ≠ j:=fun h=>by
   have:=hir hjl
   rw [h] at this;omega
 have hpt3:=hpt.swap hjl hne (hir hjl) h60'
 have hsm3:=hsm.trans (Sm.swap e (a:=lo) (b:=up) (i:=i) (j:=j) (by omega) (by omega) (by omega) (by omega))
 generalize hgi:i+1=i3 at hpt3 F
 generalize hgj:j - 1=j3 at hpt3 F
 replace H:=YU H
 generalize swp e i j=e3 at H hpt3 hsm3
 clear hir hpt hsm q1 q2 q4
 refine cLoopS [0,1] (fun m ups w=>∃ (i j:Nat) (e:By),m=j+1∧ups=[(10,.int .i64 ((i:Nat):Int)),(11,.int .i64 ((j:Nat):Int))]∧Pt lo up i j e∧Sm lo up d e∧Own W row w (.byt g n c e :: rs)) F (j3+1) [(10,.int .i64 ((i3:Nat):Int)),(11,.int .i64 ((j3:Nat):Int))] ?_ ?_
 · exact ⟨i3,j3,e3,rfl,rfl,hpt3,hsm3,H⟩
 clear F
 clear H
 intro m ups a w hI F
 clear hpt3 hsm3;obtain ⟨i3,j3,e3,rfl,rfl,hpt3,hsm3,H⟩:=hI
 refine wp_block ?_
 refine cSeqS [0,1,11] (fun ups w=>∃ i4:Nat,ups=[(10,.int .i64 ((i4:Nat):Int))]∧Pt lo up i4 j3 e3∧(i4≤j3→¬ (e3 i4).toNat < (e3 lo).toNat)∧Own W row w (.byt g n c e3 :: rs)) F ?_ ?_
 ·
  refine wp_block ?_
  refine cLoopS [0,1,11] (fun m ups w=>∃ (i:Nat),m=j3+1 - i∧ups=[(10,.int .i64 ((i:Nat):Int))]∧Pt lo up i j3 e3∧Own W row w (.byt g n c e3 :: rs)) F (j3+1 - i3) [(10,.int .i64 ((i3:Nat):Int))] ?_ ?_
  · exact ⟨i3,rfl,rfl,hpt3,H⟩
  clear F
  clear H
  intro m ups a w hI F
  clear hpt3;obtain ⟨i4,rfl,rfl,hpt3,H⟩:=hI;have q1:=hpt3.lo;have q2:=hpt3.ij;have q3:=hpt3.jb;have q4:=hpt3.aj
  refine cSeq (fun K16 hK16=>?_);refine cSeq (fun K17 hK17=>?_);refine cRegRO (by kernel_rfl) H ?_;replace H:=H.drew;refine Xt 0 rfl F rfl (fun w=>rMv F rfl) H qq0 (Xu 1 rfl rfl (fun a F w=>rMv F rfl) H qq0 (Xu 2 rfl rfl (fun a F w=>YA F rfl rfl GZ) H qq0 (Xu 3 rfl rfl (fun a F w=>rMv F rfl) H qq0 ?_)));clear F a;intro a F
  refine F.split 102 rfl ?_ ?_ <;> (clear F;intro h102 F)
  ·
   replace h102:=of_decide_eq_true h102;refine Xt 4 rfl F rfl (fun w=>rMv F rfl) H qq0 (Xu 5 rfl rfl (fun a F w=>rMv F rfl) H qq0 ?_);clear F a;intro a F
   refine Xv (k:=6) (i:=6) rfl F rfl (fun w=>rIx underlying23 sizeOf5 F rfl rfl ?_) H (fun _ _ _ h=>h) ?_
   focus (omega)
   clear F a;intro a F;refine Xw 7 rfl F rfl rfl (fun w H=>rLd isAgg5 F rfl (H.by' 0 rfl)) H qq0 (Xu 8 rfl rfl (fun a F w=>rMv F rfl) H qq0 (Xu 9 rfl rfl (fun a F w=>rMv F rfl) H qq0 ?_));clear F a;intro a F
   refine Xv (k:=10) (i:=10) rfl F rfl (fun w=>rIx underlying23 sizeOf5 F rfl rfl ?_) H (fun _ _ _ h=>h) ?_
   focus (omega)
   clear F a;intro a F;refine Xw 11 rfl F rfl rfl (fun w H=>rLd isAgg5 F rfl (H.by' 0 rfl)) H qq0 ?_;clear F a;intro a F;refine Xx (k:=12) (i:=12) rfl (by kernel_rfl) F (XS call106 F rfl rfl (YE (e3 i4) (e3 lo) _) ?_);rintro e w ⟨rfl,hb⟩;replace H:=H.grow hb;clear hb;refine ⟨_,rfl,?_⟩;clear F a;intro a F;refine XF (by kernel_rfl) H ?_;refine Xt 13 rfl F rfl (fun w=>rPk F rfl rfl) H qq0 ?_;clear F a;intro a F;refine eNil (k:=14) (by kernel_rfl) ?_;refine hK17 _ _ ?_;clear hK17
   refine cIf F rfl (fun h112=>?_) (fun h112=>?_)
   ·
    refine wp_skip (hK16 _ _ ?_);clear hK16;refine wp_block ?_;refine cReg (Xl F rfl ?_);clear F a;intro a F
    refine Xm F rfl rfl (XJ (j:=1) ?_) ?_
    focus omega
    clear F a;intro a F;refine Xa F rfl ?_;clear F a;intro a F;refine sNil ?_
    exact ⟨_,by omega,_,⟨i4+1,rfl,rfl,hpt3.up (by omega) (of_decide_eq_true h112),H⟩,F.tt⟩
   refine wp_exit ?_
   exact ⟨_,⟨i4,rfl,hpt3,fun _=>of_decide_eq_false h112,H⟩,F.tt⟩
  replace h102:=of_decide_eq_false h102;refine eSF 4 rfl (by kernel_rfl) F rfl rfl rfl H qq0 (Xy 5 rfl rfl H qq0 (Xy 6 rfl rfl H qq0 (Xy 7 rfl rfl H qq0 (Xy 8 rfl rfl H qq0 (Xy 9 rfl rfl H qq0 (Xy 10 rfl rfl H qq0 (Xy 11 rfl rfl H qq0 (Xy 12 rfl rfl H qq0 (Xu 13 rfl rfl (fun a F w=>rPk F rfl rfl) H qq0 ?_)))))))));clear F a;intro a F;refine eNil (k:=14) (by kernel_rfl) ?_;refine hK17 _ _ ?_;clear hK17;refine cIfF F rfl ?_;refine wp_exit ?_
  exact ⟨_,⟨i4,rfl,hpt3,fun h=>absurd h (by omega),H⟩,F.tt⟩
 clear F H
 intro ups a w hI F
 clear hpt3;obtain ⟨i4,rfl,hpt3,hge3,H⟩:=hI;have q1:=hpt3.lo;have q2:=hpt3.ij;have q3:=hpt3.jb;have q4:=hpt3.aj
 refine cSeqS [0,1,10] (fun ups w=>∃ j5:Nat,ups=[(11,.int .i64 ((j5:Nat):Int))]∧Pt lo up i4 j5 e3∧(i4≤j5→¬ (e3 i4).toNat < (e3 lo).toNat)∧(i4≤j5→(e3 j5).toNat < (e3 lo).toNat)∧j5≤j3∧Own W row w (.byt g n c e3 :: rs)) F ?_ ?_
 ·
  refine wp_block ?_
  refine cLoopS [0,1,10] (fun m ups w=>∃ (j:Nat),m=j+1∧ups=[(11,.int .i64 ((j:Nat):Int))]∧Pt lo up i4 j e3∧(i4≤j→¬ (e3 i4).toNat < (e3 lo).toNat)∧j≤j3∧Own W row w (.byt g n c e3 :: rs)) F (j3+1) [(11,.int .i64 ((j3:Nat):Int))] ?_ ?_
  · exact ⟨j3,rfl,rfl,hpt3,hge3,Nat.le_refl _,H⟩
  clear F
  clear H
  intro m ups a w hI F
  clear hpt3 q2 q4;obtain ⟨j5,rfl,rfl,hpt3,hir,hjj,H⟩:=hI;have q2:=hpt3.ij;have q4:=hpt3.aj
  refine cSeq (fun K18 hK18=>?_);refine cSeq (fun K19 hK19=>?_);refine cRegRO (by kernel_rfl) H ?_;replace H:=H.drew;refine Xt 0 rfl F rfl (fun w=>rMv F rfl) H qq0 (Xu 1 rfl rfl (fun a F w=>rMv F rfl) H qq0 (Xu 2 rfl rfl (fun a F w=>YA F rfl rfl GZ) H qq0 (Xu 3 rfl rfl (fun a F w=>rMv F rfl) H qq0 ?_)));clear F a;intro a F
  refine F.split 118 rfl ?_ ?_ <;> (clear F;intro h118 F)
  ·
   replace h118:=of_decide_eq_true h118;refine Xt 4 rfl F rfl (fun w=>rMv F rfl) H qq0 (Xu 5 rfl rfl (fun a F w=>rMv F rfl) H qq0 ?_);clear F a;intro a F
   refine Xv (k:=6) (i:=6) rfl F rfl (fun w=>rIx underlying23 sizeOf5 F rfl rfl ?_) H (fun _ _ _ h=>h) ?_
   focus (omega)
   clear F a;intro a F;refine Xw 7 rfl F rfl rfl (fun w H=>rLd isAgg5 F rfl (H.by' 0 rfl)) H qq0 (Xu 8 rfl rfl (fun a F w=>rMv F rfl) H qq0 (Xu 9 rfl rfl (fun a F w=>rMv F rfl) H qq0 ?_));clear F a;intro a F
   refine Xv (k:=10) (i:=10) rfl F rfl (fun w=>rIx underlying23 sizeOf5 F rfl rfl ?_) H (fun _ _ _ h=>h) ?_
   focus (omega)
   clear F a;intro a F;refine Xw 11 rfl F rfl rfl (fun w H=>rLd isAgg5 F rfl (H.by' 0 rfl)) H qq0 ?_;clear F a;intro a F;refine Xx (k:=12) (i:=12) rfl (by kernel_rfl) F (XS call106 F rfl rfl (YE (e3 j5) (e3 lo) _) ?_);rintro e w ⟨rfl,hb⟩;replace H:=H.grow hb;clear hb;refine ⟨_,rfl,?_⟩;clear F a;intro a F;refine XF (by kernel_rfl) H ?_;refine Xt 13 rfl F rfl (fun w=>NA F rfl) H qq0 (Xu 14 rfl rfl (fun a F w=>rPk F rfl rfl) H qq0 ?_);clear F a;intro a F;refine eNil (k:=15) (by kernel_rfl) ?_;refine hK19 _ _ ?_;clear hK19
   refine cIf F rfl (fun h129=>?_) (fun h129=>?_)
   ·
    replace h129:=ZA h129;refine wp_skip (hK18 _ _ ?_);clear hK18;refine wp_block ?_;refine cReg (Xl F rfl ?_);clear F a;intro a F
    refine Xm F rfl rfl (Yp (j:=1) ?_ ?_) ?_
    focus omega
    focus omega
    clear F a;intro a F;refine Xa F rfl ?_;clear F a;intro a F;refine sNil ?_
    have h129':¬ (e3 j5).toNat < (e3 lo).toNat:=by simpa using h129
    exact ⟨_,by omega,_,⟨j5 - 1,rfl,rfl,hpt3.down (by omega) h129',fun h=>hir (by omega),by omega,H⟩,F.tt⟩
   replace h129:=ZB h129;refine wp_exit ?_
   exact ⟨_,⟨j5,rfl,hpt3,hir,fun _=>of_decide_eq_true h129,hjj,H⟩,F.tt⟩
  replace h118:=of_decide_eq_false h118;refine eSF 4 rfl (by kernel_rfl) F rfl rfl rfl H qq0 (Xy 5 rfl rfl H qq0 (Xy 6 rfl rfl H qq0 (Xy 7 rfl rfl H qq0 (Xy 8 rfl rfl H qq0 (Xy 9 rfl rfl H qq0 (Xy 10 rfl rfl H qq0 (Xy 11 rfl rfl H qq0 (Xy 12 rfl rfl H qq0 (Xy 13 rfl rfl H qq0 (Xu 14 rfl rfl (fun a F w=>rPk F rfl rfl) H qq0 ?_))))))))));clear F a;intro a F;refine eNil (k:=15) (by kernel_rfl) ?_;refine hK19 _ _ ?_;clear hK19;refine cIfF F rfl ?_;refine wp_exit ?_
  exact ⟨_,⟨j5,rfl,hpt3,hir,fun h=>absurd h (by omega),hjj,H⟩,F.tt⟩
 clear F H
 intro ups a w hI F
 clear hpt3 q2 q4;obtain ⟨j5,rfl,hpt3,hir,hls,hjj,H⟩:=hI;have q2:=hpt3.ij;have q4:=hpt3.aj
 refine cSeq (fun K20 hK20=>?_);refine cSR fun K21 hK21=>Xl F rfl (Xd rfl (Xj rfl rfl UO (qNK hK21 ?_)));clear hK21;clear F a;intro a F
 refine cIf F rfl (fun h134=>?_) (fun h134=>?_)
 ·
  replace h134:=of_decide_eq_true h134;refine wp_exit ?_;refine hK15 _ _ ?_;clear hK15;refine cSeq (fun K22 hK22=>?_);refine cRegRO (by kernel_rfl) H ?_;replace H:=H.drew;refine Xt 0 rfl F rfl (fun w=>rMv F rfl) H qq0 (Xu 1 rfl rfl (fun a F w=>rMv F rfl) H qq0 (Xu 2 rfl rfl (fun a F w=>rMv F rfl) H qq0 (Xu 3 rfl rfl (fun a F w=>rMv F rfl) H qq0 (Xu 4 rfl rfl (fun a F w=>rMv F rfl) H qq0 (Xu 5 rfl rfl (fun a F w=>rMv F rfl) H qq0 ?_)))));clear F a;intro a F
  refine Xv (k:=6) (i:=6) rfl F rfl (fun w=>rIx underlying23 sizeOf5 F rfl rfl ?_) H (fun _ _ _ h=>h) ?_
  focus (omega)
  clear F a;intro a F;refine Xw 7 rfl F rfl rfl (fun w H=>rLd isAgg5 F rfl (H.by' 0 rfl)) H qq0 (Xu 8 rfl rfl (fun a F w=>rMv F rfl) H qq0 (Xu 9 rfl rfl (fun a F w=>rMv F rfl) H qq0 ?_));clear F a;intro a F
  refine Xv (k:=10) (i:=10) rfl F rfl (fun w=>rIx underlying23 sizeOf5 F rfl rfl ?_) H (fun _ _ _ h=>h) ?_
  focus (omega)
  clear F a;intro a F;refine Xw 11 rfl F rfl rfl (fun w H=>rLd isAgg5 F rfl (H.by' 0 rfl)) H qq0 ?_;clear F a;intro a F
  refine Xv (k:=12) (i:=12) rfl F rfl (fun w=>rIx underlying23 sizeOf5 F rfl rfl ?_) H (fun _ _ _ h=>h) ?_
  focus (omega)
  clear F a;intro a F;refine Xx (k:=13) (i:=13) rfl (by kernel_rfl) F (Wa H 0 sizeOf5 F rfl rfl rfl (by omega) ?_);clear H;intro w H;refine XF (by kernel_rfl) H ?_
  refine Xv (k:=14) (i:=14) rfl F rfl (fun w=>rIx underlying23 sizeOf5 F rfl rfl ?_) H (fun _ _ _ h=>h) ?_
  focus (omega)
  clear F a;intro a F;refine Xx (k:=15) (i:=15) rfl (by kernel_rfl) F (Wa H 0 sizeOf5 F rfl rfl rfl (by omega) ?_);clear H;intro w H;refine XF (by kernel_rfl) H ?_;refine eNil (k:=16) (by kernel_rfl) ?_;refine hK22 _ _ (cSR fun K23 hK23=>Xl F rfl (Xh rfl (Xh rfl (qNK hK23 ?_))));clear hK22 hK23;clear F a;intro a F;refine wp_ret ?_;refine Zo results108 F rfl rfl ?_
  exact ⟨j5,false,_,rfl,hsm3.trans (Sm.swap e3 (by omega) (by omega) (by omega) (by omega)),hpt3.done (by omega),YU H⟩
 replace h134:=of_decide_eq_false h134;refine wp_skip (hK20 _ _ ?_);clear hK20;refine cSeq (fun K24 hK24=>?_);refine cRegRO (by kernel_rfl) H ?_;replace H:=H.drew;refine Xt 0 rfl F rfl (fun w=>rMv F rfl) H qq0 (Xu 1 rfl rfl (fun a F w=>rMv F rfl) H qq0 (Xu 2 rfl rfl (fun a F w=>rMv F rfl) H qq0 (Xu 3 rfl rfl (fun a F w=>rMv F rfl) H qq0 (Xu 4 rfl rfl (fun a F w=>rMv F rfl) H qq0 (Xu 5 rfl rfl (fun a F w=>rMv F rfl) H qq0 ?_)))));clear F a;intro a F
 refine Xv (k:=6) (i:=6) rfl F rfl (fun w=>rIx underlying23 sizeOf5 F rfl rfl ?_) H (fun _ _ _ h=>h) ?_
 focus (omega)
 clear F a;intro a F;refine Xw 7 rfl F rfl rfl (fun w H=>rLd isAgg5 F rfl (H.by' 0 rfl)) H qq0 (Xu 8 rfl rfl (fun a F w=>rMv F rfl) H qq0 (Xu 9 rfl rfl (fun a F w=>rMv F rfl) H qq0 ?_));clear F a;intro a F
 refine Xv (k:=10) (i:=10) rfl F rfl (fun w=>rIx underlying23 sizeOf5 F rfl rfl ?_) H (fun _ _ _ h=>h) ?_
 focus (omega)
 clear F a;intro a F;refine Xw 11 rfl F rfl rfl (fun w H=>rLd isAgg5 F rfl (H.by' 0 rfl)) H qq0 ?_;clear F a;intro a F
 refine Xv (k:=12) (i:=12) rfl F rfl (fun w=>rIx underlying23 sizeOf5 F rfl rfl ?_) H (fun _ _ _ h=>h) ?_
 focus (omega)
 clear F a;intro a F;refine Xx (k:=13) (i:=13) rfl (by kernel_rfl) F (Wa H 0 sizeOf5 F rfl rfl rfl (by omega) ?_);clear H;intro w H;refine XF (by kernel_rfl) H ?_
 refine Xv (k:=14) (i:=14) rfl F rfl (fun w=>rIx underlying23 sizeOf5 F rfl rfl ?_) H (fun _ _ _ h=>h) ?_
 focus (omega)
 clear F a;intro a F;refine Xx (k:=15) (i:=15) rfl (by kernel_rfl) F (Wa H 0 sizeOf5 F rfl rfl rfl (by omega) ?_);clear H;intro w H;refine XF (by kernel_rfl) H ?_;refine eNil (k:=16) (by kernel_rfl) ?_;refine hK24 _ _ (cSR fun K25 hK25=>Xl F rfl ?_);clear hK24;clear F a;intro a F
 refine Xm F rfl rfl (XJ (j:=1) ?_) ?_
 focus omega
 clear F a;intro a F;refine Xa F rfl (qNK hK25 (WN (Xd rfl ?_)));clear hK25;clear F a;intro a F
 refine Xm F rfl rfl (Yp (j:=1) ?_ ?_) ?_
 focus omega
 focus omega
 clear F a;intro a F;refine Xa F rfl ?_;clear F a;intro a F;refine sNil ?_
 (have hjl5:i4≤j5:=by omega
  have h129':(e3 j5).toNat < (e3 lo).toNat:=hls hjl5
  have hne:i4 ≠ j5:=fun h=>by
    have:=hir hjl5
    rw [h] at this;omega
  exact ⟨_,by omega,_,⟨i4+1,j5 - 1,_,rfl,rfl,hpt3.swap hjl5 hne (hir hjl5) h129',hsm3.trans (Sm.swap e3 (by omega) (by omega) (by omega) (by omega)),YU H⟩,F.tt⟩)
-- SoH
open Go.RowKit
set_option maxRecDepth 100000
abbrev Res.cnt (b s:Nat):Res:=.blk b [.int .i64 (s:Int)] 3
theorem UA (g n c:Nat) (d:By) (x y b s:Nat) (W:World) (row:Option Nat) (rs:List Res) (w0:World) (H:Own W row w0 (.cnt b s :: .byt g n c d :: rs)) (hx:x < n) (hy:y < n) (hn:n≤1000000) (hs:s≤1000) :
   Calls Tryz.prog 126 #[.slice (some ⟨g,0,none⟩) n c,.int .i64 (x:Int),.int .i64 (y:Int),.pointer (some ⟨b,0,none⟩)] w0 fun e w'=>∃ x' y' s':Nat,e = .returned (.tuple #[.int .i64 (x':Int),.int .i64 (y':Int)])∧(x'=x∧y'=y∨x'=y∧y'=x)∧s'≤s+1∧Own W row w' (.cnt b s' :: .byt g n c d :: rs):=by
 refine XE Tryz.func126 rfl Tryz.ntmps126 rfl (fun a F=>?_);refine cSR fun K1 hK1=>Xa F rfl (Xh rfl (qNK hK1 ?_));clear hK1;clear F a;intro a F;refine cSeq (fun K2 hK2=>?_);refine cSeq (fun K3 hK3=>?_);refine cRegRO (by kernel_rfl) H ?_;replace H:=H.drew;refine Xt 0 rfl F rfl (fun w=>rMv F rfl) H qq0 (Xu 1 rfl rfl (fun a F w=>rMv F rfl) H qq0 ?_);clear F a;intro a F
 refine Xv (k:=2) (i:=2) rfl F rfl (fun w=>rIx Tryz.underlying23 Tryz.sizeOf5 F rfl rfl ?_) H (fun _ _ _ h=>h) ?_
 focus (omega)
 clear F a;intro a F;refine Xw 3 rfl F rfl rfl (fun w H=>rLd Tryz.isAgg5 F rfl (H.by' 1 rfl)) H qq0 (Xu 4 rfl rfl (fun a F w=>rMv F rfl) H qq0 (Xu 5 rfl rfl (fun a F w=>rMv F rfl) H qq0 ?_));clear F a;intro a F
 refine Xv (k:=6) (i:=6) rfl F rfl (fun w=>rIx Tryz.underlying23 Tryz.sizeOf5 F rfl rfl ?_) H (fun _ _ _ h=>h) ?_
 focus (omega)
 clear F a;intro a F;refine Xw 7 rfl F rfl rfl (fun w H=>rLd Tryz.isAgg5 F rfl (H.by' 1 rfl)) H qq0 ?_;clear F a;intro a F;refine Xx (k:=8) (i:=8) rfl (by kernel_rfl) F (XS Tryz.call106 F rfl rfl (YE (d y) (d x) _) ?_);rintro e w ⟨rfl,hb⟩;replace H:=H.grow hb;clear hb;refine ⟨_,rfl,?_⟩;clear F a;intro a F;refine XF (by kernel_rfl) H ?_;refine eNil (k:=9) (by kernel_rfl) ?_;refine hK3 _ _ ?_;clear hK3
 refine cIf F rfl (fun h18=>?_) (fun h18=>?_)
 ·
  refine cSR fun K4 hK4=>Xl F rfl (Xk rfl (Xc Tryz.isAgg3 rfl (H.cell 0 rfl rfl) ?_));clear F a;intro a F
  refine Xm F rfl rfl (XJ (j:=1) ?_) ?_
  focus omega
  clear F a;intro a F;refine sNc F rfl rfl rfl ?_;clear F a;intro a F;refine sSt H 0 Tryz.sizeOf3 F rfl rfl rfl rfl rfl rfl ?_;clear H;intro w H;refine nK hK4 (cSR fun K5 hK5=>Xl F rfl (Xd rfl (Xh rfl (Xh rfl (qNK hK5 ?_)))));clear hK4 hK5;clear F a;intro a F;refine wp_ret ?_;simp only [Exit.then];refine Zo Tryz.results126 F rfl rfl ?_
  exact ⟨y,x,s+1,rfl,.inr ⟨rfl,rfl⟩,Nat.le_refl _,H⟩
 refine wp_skip (hK2 _ _ (cSR fun K6 hK6=>Xl F rfl (Xd rfl (Xh rfl (Xh rfl (qNK hK6 ?_))))));clear hK2 hK6;clear F a;intro a F;refine wp_ret ?_;refine Zo Tryz.results126 F rfl rfl ?_
 exact ⟨x,y,s,rfl,.inl ⟨rfl,rfl⟩,by omega,H⟩
theorem UC (g n c:Nat) (d:By) (x y z b s:Nat) (W:World) (row:Option Nat) (rs:List Res) (w0:World) (H:Own W row w0 (.cnt b s :: .byt g n c d :: rs)) (hx:x < n) (hy:y < n) (hz:z < n) (hn:n≤1000000) (hs:s≤900) :
   Calls Tryz.prog 119 #[.slice (some ⟨g,0,none⟩) n c,.int .i64 (x:Int),.int .i64 (y:Int),.int .i64 (z:Int),.pointer (some ⟨b,0,none⟩)] w0 fun e w'=>∃ r s':Nat,e = .returned (.int .i64 (r:Int))∧(r=x∨r=y∨r=z)∧s'≤s+3∧Own W row w' (.cnt b s' :: .byt g n c d :: rs):=by
 refine XE Tryz.func119 rfl Tryz.ntmps119 rfl (fun a F=>?_);refine cSR fun K1 hK1=>Xa F rfl (qNK hK1 (qSR fun K2 hK2=>Xd rfl (Xd rfl (Xd rfl (Xd rfl ?_)))));clear hK1;clear F a;intro a F;refine Xn Tryz.call126 F rfl (UA g n c d x y b s W row rs _ H hx hy hn (by omega)) ?_;rintro e w ⟨x1,y1,s1,rfl,h1,hs1,H2⟩
 replace H:=H2;clear H2
 refine ⟨_,rfl,?_⟩;clear F a;intro a F;refine Xl F rfl (XB rfl rfl (XB rfl rfl (Xh rfl (Xh rfl (qNK hK2 (qSR fun K3 hK3=>Xd rfl (Xd rfl (Xd rfl (Xd rfl ?_)))))))));clear hK2;clear F a;intro a F;refine Xn Tryz.call126 F rfl (UA g n c d y1 z b s1 W row rs _ H (by omega) hz hn (by omega)) ?_;rintro e w ⟨y2,z2,s2,rfl,h2,hs2,H2⟩
 replace H:=H2;clear H2
 refine ⟨_,rfl,?_⟩;clear F a;intro a F;refine Xl F rfl (XB rfl rfl (XB rfl rfl (Xh rfl (Xh rfl (qNK hK3 (qSR fun K4 hK4=>Xd rfl (Xd rfl (Xd rfl (Xd rfl ?_)))))))));clear hK3;clear F a;intro a F;refine Xn Tryz.call126 F rfl (UA g n c d x1 y2 b s2 W row rs _ H (by omega) (by omega) hn (by omega)) ?_;rintro e w ⟨x3,y3,s3,rfl,h3,hs3,H2⟩
 replace H:=H2;clear H2
 refine ⟨_,rfl,?_⟩;clear F a;intro a F;refine Xl F rfl (XB rfl rfl (XB rfl rfl (Xh rfl (Xh rfl (qNK hK4 (qSR fun K5 hK5=>Xd rfl (Xh rfl (qNK hK5 ?_))))))));clear hK4 hK5;clear F a;intro a F;refine wp_ret ?_;refine bRet Tryz.results119 F rfl ?_
 exact ⟨y3,s3,rfl,by omega,by omega,H⟩
theorem WB (g n c:Nat) (d:By) (x b s:Nat) (W:World) (row:Option Nat) (rs:List Res) (w0:World) (H:Own W row w0 (.cnt b s :: .byt g n c d :: rs)) (hx:x+1 < n) (hx0:0 < x) (hn:n≤1000000) (hs:s≤900) :
   Calls Tryz.prog 118 #[.slice (some ⟨g,0,none⟩) n c,.int .i64 (x:Int),.pointer (some ⟨b,0,none⟩)] w0 fun e w'=>∃ r s':Nat,e = .returned (.int .i64 (r:Int))∧x - 1≤r∧r≤x+1∧s'≤s+3∧Own W row w' (.cnt b s' :: .byt g n c d :: rs):=by
 refine XE Tryz.func118 rfl Tryz.ntmps118 rfl (fun a F=>?_);refine cSR fun K1 hK1=>Xa F rfl (qNK hK1 (qSR fun K2 hK2=>Xd rfl (Xd rfl ?_)));clear hK1;clear F a;intro a F
 refine Xm F rfl rfl (Yp (j:=1) ?_ ?_) ?_
 focus omega
 focus omega
 clear F a;intro a F;refine Xl F rfl (Xd rfl ?_);clear F a;intro a F
 refine Xm F rfl rfl (XJ (j:=1) ?_) ?_
 focus omega
 clear F a;intro a F;refine Xl F rfl ?_;clear F a;intro a F;refine Xn Tryz.call119 F rfl (UC g n c d (x - 1) x (x+1) b s W row rs _ H (by omega) (by omega) hx hn (by omega)) ?_;rintro e w ⟨r,s1,rfl,hr,hs1,H2⟩
 replace H:=H2;clear H2
 refine ⟨_,rfl,?_⟩;clear F a;intro a F;refine Xa F rfl (qNK hK2 ?_);clear hK2;clear F a;intro a F;refine wp_ret ?_;refine bRet Tryz.results118 F rfl ?_
 exact ⟨r,s1,rfl,by omega,by omega,hs1,H⟩
set_option maxHeartbeats 1000000 in
theorem Ej (g n c:Nat) (d:By) (lo up:Nat) (W:World) (row:Option Nat) (rs:List Res) (w0:World) (H:Own W row w0 (.byt g n c d :: rs)) (hb:up≤n) (hn:n≤1000000) (hlo:lo+12 < up) :
   Calls Tryz.prog 103 #[.slice (some ⟨g,0,none⟩) n c,.int .i64 (lo:Int),.int .i64 (up:Int)] w0 fun e w'=>∃ (p:Nat) (h:Int),e = .returned (.tuple #[.int .i64 (p:Int),.int .i64 h])∧lo≤p∧p < up∧Own W row w' (.byt g n c d :: rs):=by
 refine XE Tryz.func103 rfl Tryz.ntmps103 rfl (fun a F=>?_);refine cSR fun K1 hK1=>Xa F rfl (Xh rfl (qNK hK1 (qSR fun K2 hK2=>Xd rfl (Xd rfl ?_))));clear hK1;clear F a;intro a F
 refine Xm F rfl rfl (Yp ?_ ?_) ?_
 focus omega
 focus omega
 clear F a;intro a F;refine Xa F rfl (qNK hK2 (qSR fun K3 hK3=>?_));clear hK2;clear F a;intro a F;refine sAl H Tryz.zeroValue3 F rfl rfl ?_;clear F a H;intro b9 a w F H;refine nK hK3 (cSR fun K4 hK4=>Xl F rfl (Xd rfl ?_));clear hK3;clear F a;intro a F
 refine Xm F rfl rfl (Nt (j:=4) ?_ ?_) ?_
 focus omega
 focus omega
 clear F a;intro a F
 refine Xm F rfl rfl (Eo (j:=1) ?_) ?_
 focus omega
 clear F a;intro a F
 refine Xm F rfl rfl (XJ ?_) ?_
 focus omega
 clear F a;intro a F;refine Xa F rfl (qNK hK4 (qSR fun K5 hK5=>Xd rfl (Xd rfl ?_)));clear hK4;clear F a;intro a F
 refine Xm F rfl rfl (Nt (j:=4) ?_ ?_) ?_
 focus omega
 focus omega
 clear F a;intro a F
 refine Xm F rfl rfl (Eo (j:=2) ?_) ?_
 focus omega
 clear F a;intro a F
 refine Xm F rfl rfl (XJ ?_) ?_
 focus omega
 clear F a;intro a F;refine Xa F rfl (qNK hK5 (qSR fun K6 hK6=>Xd rfl (Xd rfl ?_)));clear hK5;clear F a;intro a F
 refine Xm F rfl rfl (Nt (j:=4) ?_ ?_) ?_
 focus omega
 focus omega
 clear F a;intro a F
 refine Xm F rfl rfl (Eo (j:=3) ?_) ?_
 focus omega
 clear F a;intro a F
 refine Xm F rfl rfl (XJ ?_) ?_
 focus omega
 clear F a;intro a F;refine Xa F rfl (qNK hK6 ?_);clear hK6;clear F a;intro a F;refine cSeq (fun K7 hK7=>?_);refine cSR fun K8 hK8=>Xl F rfl (Xj rfl rfl Jc (qNK hK8 ?_));clear hK8;clear F a;intro a F
 refine cIf F rfl (fun h32=>?_) (fun h32=>?_)
 ·
  replace h32:=of_decide_eq_true h32;refine cSeq (fun K9 hK9=>?_);refine cSR fun K10 hK10=>Xl F rfl (Xj rfl rfl Jc (qNK hK10 ?_));clear hK10;clear F a;intro a F
  refine cIf F rfl (fun h34=>?_) (fun h34=>?_)
  ·
   replace h34:=of_decide_eq_true h34;refine cSR fun K11 hK11=>Xl F rfl (Xd rfl ?_);clear F a;intro a F;refine Xn Tryz.call118 F rfl (WB g n c d (lo+(up - lo) / 4 * 1) b9 0 W row rs _ H (by omega) (by omega) hn (by omega)) ?_;rintro e w ⟨r1,s1,rfl,hr1,hr1',hs1,H2⟩
   replace H:=H2;clear H2
   refine ⟨_,rfl,?_⟩;clear F a;intro a F;refine Xa F rfl (qNK hK11 (qSR fun K12 hK12=>Xd rfl (Xd rfl ?_)));clear hK11;clear F a;intro a F;refine Xn Tryz.call118 F rfl (WB g n c d (lo+(up - lo) / 4 * 2) b9 s1 W row rs _ H (by omega) (by omega) hn (by omega)) ?_;rintro e w ⟨r2,s2,rfl,hr2,hr2',hs2,H2⟩
   replace H:=H2;clear H2
   refine ⟨_,rfl,?_⟩;clear F a;intro a F;refine Xa F rfl (qNK hK12 (WN (Xd rfl (Xd rfl ?_))));clear hK12;clear F a;intro a F;refine Xn Tryz.call118 F rfl (WB g n c d (lo+(up - lo) / 4 * 3) b9 s2 W row rs _ H (by omega) (by omega) hn (by omega)) ?_;rintro e w ⟨r3,s3,rfl,hr3,hr3',hs3,H2⟩
   replace H:=H2;clear H2
   refine ⟨_,rfl,?_⟩;clear F a;intro a F;refine Xa F rfl (qNK hK9 (WN (Xd rfl (Xd rfl (Xd rfl (Xd rfl ?_))))));clear hK9;clear F a;intro a F;refine Xn Tryz.call119 F rfl ((by exact UC g n c d r1 r2 r3 b9 s3 W row rs _ H (by omega) (by omega) (by omega) hn (by omega))) ?_;rintro e w ⟨p,s4,rfl,hp,hs4,H2⟩
   replace H:=H2;clear H2
   refine ⟨_,rfl,?_⟩;clear F a;intro a F;refine Xa F rfl (qNK hK7 (qSR fun K13 hK13=>Xc Tryz.isAgg3 rfl (H.cell 0 rfl rfl) (qNK hK13 ?_)));clear hK7 hK13;clear F a;intro a F;refine wp_block ?_;refine cSR fun K14 hK14=>Xm F rfl rfl ZQ (Xh rfl (qNK hK14 ?_));clear hK14;clear F a;intro a F
   refine cIf F rfl (fun h51=>?_) (fun h51=>?_)
   ·
    replace h51:=Yh h51;refine cSR fun K15 hK15=>Xl F rfl (Xh rfl (Xh rfl (qNK hK15 ?_)));clear hK15;clear F a;intro a F;refine wp_ret ?_;refine xI ?_;refine Zo Tryz.results103 F rfl rfl ?_
    exact ⟨p,_,rfl,by omega,by omega,H.tail⟩
   replace h51:=Yi h51;refine cSR fun K16 hK16=>Xm F rfl rfl ZQ (Xh rfl (qNK hK16 ?_));clear hK16;clear F a;intro a F
   refine cIf F rfl (fun h54=>?_) (fun h54=>?_)
   ·
    replace h54:=Yh h54;refine cSR fun K17 hK17=>Xl F rfl (Xh rfl (Xh rfl (qNK hK17 ?_)));clear hK17;clear F a;intro a F;refine wp_ret ?_;refine xI ?_;refine Zo Tryz.results103 F rfl rfl ?_
    exact ⟨p,_,rfl,by omega,by omega,H.tail⟩
   replace h54:=Yi h54;refine cSR fun K18 hK18=>Xl F rfl (Xh rfl (Xh rfl (qNK hK18 ?_)));clear hK18;clear F a;intro a F;refine wp_ret ?_;refine xI ?_;refine Zo Tryz.results103 F rfl rfl ?_
   exact ⟨p,_,rfl,by omega,by omega,H.tail⟩
  replace h34:=of_decide_eq_false h34;refine wp_skip (hK9 _ _ (cReg (Xl F rfl (Xd rfl (Xd rfl (Xd rfl ?_))))));clear hK9;clear F a;intro a F;refine Xn Tryz.call119 F rfl ((by exact UC g n c d (lo+(up - lo) / 4 * 1) (lo+(up - lo) / 4 * 2) (lo+(up - lo) / 4 * 3) b9 0 W row rs _ H (by omega) (by omega) (by omega) hn (by omega))) ?_;rintro e w ⟨p,s4,rfl,hp,hs4,H2⟩
  replace H:=H2;clear H2
  refine ⟨_,rfl,?_⟩;clear F a;intro a F;refine Xa F rfl (qNK hK7 (qSR fun K19 hK19=>Xc Tryz.isAgg3 rfl (H.cell 0 rfl rfl) (qNK hK19 ?_)));clear hK7 hK19;clear F a;intro a F;refine wp_block ?_;refine cSR fun K20 hK20=>Xm F rfl rfl ZQ (Xh rfl (qNK hK20 ?_));clear hK20;clear F a;intro a F
  refine cIf F rfl (fun h51=>?_) (fun h51=>?_)
  ·
   replace h51:=Yh h51;refine cSR fun K21 hK21=>Xl F rfl (Xh rfl (Xh rfl (qNK hK21 ?_)));clear hK21;clear F a;intro a F;refine wp_ret ?_;refine xI ?_;refine Zo Tryz.results103 F rfl rfl ?_
   exact ⟨p,_,rfl,by omega,by omega,H.tail⟩
  replace h51:=Yi h51;refine cSR fun K22 hK22=>Xm F rfl rfl ZQ (Xh rfl (qNK hK22 ?_));clear hK22;clear F a;intro a F
  refine cIf F rfl (fun h54=>?_) (fun h54=>?_)
  ·
   replace h54:=Yh h54;refine cSR fun K23 hK23=>Xl F rfl (Xh rfl (Xh rfl (qNK hK23 ?_)));clear hK23;clear F a;intro a F;refine wp_ret ?_;refine xI ?_;refine Zo Tryz.results103 F rfl rfl ?_
   exact ⟨p,_,rfl,by omega,by omega,H.tail⟩
  replace h54:=Yi h54;refine cSR fun K24 hK24=>Xl F rfl (Xh rfl (Xh rfl (qNK hK24 ?_)));clear hK24;clear F a;intro a F;refine wp_ret ?_;refine xI ?_;refine Zo Tryz.results103 F rfl rfl ?_
  exact ⟨p,_,rfl,by omega,by omega,H.tail⟩
 replace h32:=of_decide_eq_false h32
 omega
end Go.Proofs.YtagnefpgidbhnaaGreatDoor
