/-
  WALK2. slices.Sort at bytes: the laws of u64, xorshift.Next, bits.Len, nextPowerOfTwo. Conditions: sizes.
-/
import Derived.Test.YtagnefpgidbhnaaGreatDoorJn1
set_option linter.unusedSimpArgs false
set_option linter.unusedVariables false
namespace Go.Proofs.YtagnefpgidbhnaaGreatDoor
-- SoB
open Go.RowKit
set_option maxRecDepth 100000
section
variable {P:Program} {t:TypeId} {x y:Operand} {n m c i j:Nat} {yk:IntKind}
theorem XbP (hc:c≤64):ZF P .shl t x y (.int .u64 (n:Int)) (.int yk (c:Int)) (.int .u64 ((n * 2 ^ c % 18446744073709551616:Nat):Int)):=fun w=>by
 have h2:Op.shift .shl .u64 (n:Int) yk (c:Int)=pure (.int .u64 (IntKind.u64.wrap ((n:Int) * 2 ^ (c:Int).toNat))):=shift_shl .u64 yk (n:Int) (c:Int) (by omega) (by show (c:Int)≤64;omega)
 simp only [eqGuard_shl,binOp_shl,h2]
 show Result.ok (Value.int .u64 (IntKind.u64.wrap ((n:Int) * 2 ^ c))) w=_
 have e:IntKind.u64.wrap ((n:Int) * 2 ^ c)=((n * 2 ^ c % 18446744073709551616:Nat):Int):=by
   rw [EE]
   have:(n:Int) * ((2:Int) ^ c)=((n * 2 ^ c:Nat):Int):=by simp
   rw [this]
   omega
 rw [e]
theorem Xae (hc:c≤64):ZF P .shr t x y (.int .u64 (n:Int)) (.int yk (c:Int)) (.int .u64 ((n / 2 ^ c:Nat):Int)):=fun w=>by
 have h2:Op.shift .shr .u64 (n:Int) yk (c:Int)=pure (.int .u64 ((n:Int) / 2 ^ (c:Int).toNat)):=shift_shr .u64 yk (n:Int) (c:Int) (by omega) (by show (c:Int)≤64;omega)
 simp only [eqGuard_shr,binOp_shr,h2]
 show Result.ok (Value.int .u64 ((n:Int) / 2 ^ c)) w=_
 have e:(n:Int) / 2 ^ c=((n / 2 ^ c:Nat):Int):=by
   have:((2:Int) ^ c)=((2 ^ c:Nat):Int):=by simp
   rw [this];exact (Int.natCast_ediv _ _).symm
 rw [e]
theorem XbO (hn:n < 18446744073709551616) (hm:m < 18446744073709551616):ZF P .xor t x y (.int .u64 (n:Int)) (.int .u64 (m:Int)) (.int .u64 ((n ^^^ m:Nat):Int)):=fun w=>by
 simp only [eqGuard,binOp,Op.intBits,go_sem]
 show Result.ok (Value.int .u64 (IntKind.u64.wrap ((BitVec.ofInt 64 (n:Int) ^^^ BitVec.ofInt 64 (m:Int)).toNat:Int))) w=_
 have e1:(BitVec.ofInt 64 (n:Int) ^^^ BitVec.ofInt 64 (m:Int)).toNat=n ^^^ m:=by
   rw [BitVec.toNat_xor,BitVec.ofInt_natCast,BitVec.ofInt_natCast,BitVec.toNat_ofNat,BitVec.toNat_ofNat,Nat.mod_eq_of_lt (by simpa using hn),Nat.mod_eq_of_lt (by simpa using hm)]
 rw [e1,ND (Nat.xor_lt_two_pow (n:=64) (by simpa using hn) (by simpa using hm))]
theorem bAndG (hn:n < 18446744073709551616) (hm:m < 18446744073709551616):ZF P .and t x y (.int .u64 (n:Int)) (.int .u64 (m:Int)) (.int .u64 ((n &&& m:Nat):Int)):=fun w=>by
 simp only [eqGuard,binOp,Op.intBits,go_sem]
 show Result.ok (Value.int .u64 (IntKind.u64.wrap ((BitVec.ofInt 64 (n:Int) &&& BitVec.ofInt 64 (m:Int)).toNat:Int))) w=_
 have e1:(BitVec.ofInt 64 (n:Int) &&& BitVec.ofInt 64 (m:Int)).toNat=n &&& m:=by
   rw [BitVec.toNat_and,BitVec.ofInt_natCast,BitVec.ofInt_natCast,BitVec.toNat_ofNat,BitVec.toNat_ofNat,Nat.mod_eq_of_lt (by simpa using hn),Nat.mod_eq_of_lt (by simpa using hm)]
 rw [e1,ND (Nat.lt_of_le_of_lt Nat.and_le_left hn)]
theorem bSubU (hm:m≤n) (hn:n < 18446744073709551616):ZF P .sub t x y (.int .u64 (n:Int)) (.int .u64 (m:Int)) (.int .u64 ((n - m:Nat):Int)):=fun w=>by
 have:(do eqGuard .sub t x y (.int .u64 (n:Int)) (.int .u64 (m:Int));binOp .sub t (.int .u64 (n:Int)) (.int .u64 (m:Int)):Sem Value).run P w = .ok (.int .u64 (IntKind.u64.wrap ((n:Int) - (m:Int)))) w:=by simp [eqGuard,binOp,Op.intArith,go_sem]
 rw [this,show (n:Int) - (m:Int)=((n - m:Nat):Int) by omega,ND (by omega)]
theorem Nt (hi:i≤9223372036854775807) (h:0 < j):ZF P .quo t x y (.int .i64 (i:Int)) (.int .i64 (j:Int)) (.int .i64 ((i / j:Nat):Int)):=fun w=>by
 have h1:i / j≤i:=Nat.div_le_self i j
 have h2:(i:Int).tdiv (j:Int)=((i / j:Nat):Int):=by
   rw [Int.tdiv_eq_ediv_of_nonneg (by omega)];exact (Int.natCast_ediv _ _).symm
 simp [eqGuard,go_sem,Op.intDiv,show j ≠ 0 by omega,h2]
 rw [← Int.natCast_ediv]
 exact XaM (Nat.le_trans h1 hi)
theorem Eo (h:i * j≤9223372036854775807):ZF P .mul t x y (.int .i64 (i:Int)) (.int .i64 (j:Int)) (.int .i64 ((i * j:Nat):Int)):=fun w=>by
 have:(do eqGuard .mul t x y (.int .i64 (i:Int)) (.int .i64 (j:Int));binOp .mul t (.int .i64 (i:Int)) (.int .i64 (j:Int)):Sem Value).run P w = .ok (.int .i64 (IntKind.i64.wrap ((i:Int) * (j:Int)))) w:=by simp [eqGuard,binOp,Op.intArith,go_sem]
 rw [this,← Int.natCast_mul,XaM h]
end
-- SoC
open Go.Proofs.Tryz
open Go.RowKit
set_option maxRecDepth 100000
set_option maxHeartbeats 2000000 in
theorem MK (g n c:Nat) (d:By) (lo hi f:Nat) (W:World) (row:Option Nat) (rs:List Res) (w0:World) (H:Own W row w0 (.byt g n c d :: rs)) (hb:f+hi≤n) (hn:n≤1000000) (hlo:lo≤hi) (hp:Hp f (lo+1) hi d) :
   Calls Tryz.prog 115 #[.slice (some ⟨g,0,none⟩) n c,.int .i64 (lo:Int),.int .i64 (hi:Int),.int .i64 (f:Int)] w0 fun e w'=>e = .returned (.tuple #[])∧∃ d',Sm (f+lo) (f+hi) d d'∧Hp f lo hi d'∧Own W row w' (.byt g n c d' :: rs):=by
 refine XE func115 rfl ntmps115 rfl (fun a F=>?_);refine cSR fun K1 hK1=>Xl F rfl (Xh rfl (qNK hK1 ?_));clear hK1;clear F a;intro a F;refine wp_block ?_
 refine cLoopS [0,2,3] (fun m ups w=>∃ (r:Nat) (e:By),m=hi - r+1∧ups=[(8,.int .i64 ((r:Nat):Int))]∧lo≤r∧r≤hi∧Hq f lo hi r e∧Sm (f+lo) (f+hi) d e∧Own W row w (.byt g n c e :: rs)) F (hi - lo+1) [(8,.int .i64 ((lo:Nat):Int))] ?_ ?_
 · exact ⟨lo,d,rfl,rfl,Nat.le_refl _,hlo,Hq.start hp,Sm.refl _ _ _,H⟩
 clear F
 clear H
 intro m ups a w hI F
 obtain ⟨r,e,rfl,rfl,hlr,hrh,hq,hsm,H⟩:=hI
 refine wp_block ?_;refine cSR fun K2 hK2=>Xl F rfl ?_;clear F a;intro a F
 refine Xm F rfl rfl (Eo (i:=2) ?_) ?_
 focus omega
 clear F a;intro a F
 refine Xm F rfl rfl (XJ (j:=1) ?_) ?_
 focus omega
 clear F a;intro a F;refine Xa F rfl (qNK hK2 ?_);clear hK2;clear F a;intro a F;refine cSeq (fun K3 hK3=>?_);refine cSR fun K4 hK4=>Xl F rfl (Xd rfl (Xj rfl rfl Jc (qNK hK4 ?_)));clear hK4;clear F a;intro a F
 refine cIf F rfl (fun h16=>?_) (fun h16=>?_)
 ·
  replace h16:=of_decide_eq_true h16;refine wp_exit ?_
  (simp only [Exit.then,Exit.inBlock,if_true];(repeat (rw [if_neg (by decide)]));refine bEnd results115 F ?_)
  exact ⟨rfl,e,hsm,hq.done (fun c hc hch'=>by omega),H⟩
 replace h16:=of_decide_eq_false h16
 have hch:2 * r+1 < hi:=by omega
 refine wp_skip (hK3 _ _ ?_);clear hK3;refine cSeq (fun K5 hK5=>?_);refine cSeq (fun K6 hK6=>?_);refine cRegRO (by kernel_rfl) H ?_;replace H:=H.drew;refine Xt 0 rfl F rfl (fun w=>rMv F rfl) H qq0 ?_;clear F a;intro a F
 refine Xv (k:=1) (i:=1) rfl F rfl (fun w=>YA F rfl rfl (XJ (j:=1) ?_)) H (fun _ _ _ h=>h) ?_
 focus omega
 clear F a;intro a F;refine Xt 2 rfl F rfl (fun w=>rMv F rfl) H qq0 (Xu 3 rfl rfl (fun a F w=>YA F rfl rfl YW) H qq0 (Xu 4 rfl rfl (fun a F w=>rMv F rfl) H qq0 ?_));clear F a;intro a F
 refine F.split 21 rfl ?_ ?_ <;> (clear F;intro h21 F)
 ·
  replace h21:=of_decide_eq_true h21
  have hc2:2 * r+1+1 < hi:=by omega
  refine Xt 5 rfl F rfl (fun w=>rMv F rfl) H qq0 (Xu 6 rfl rfl (fun a F w=>rMv F rfl) H qq0 (Xu 7 rfl rfl (fun a F w=>rMv F rfl) H qq0 ?_));clear F a;intro a F
  refine Xv (k:=8) (i:=8) rfl F rfl (fun w=>YA F rfl rfl (XJ ?_)) H (fun _ _ _ h=>h) ?_
  focus omega
  clear F a;intro a F
  refine Xv (k:=9) (i:=9) rfl F rfl (fun w=>rIx underlying23 sizeOf5 F rfl rfl ?_) H (fun _ _ _ h=>h) ?_
  focus (omega)
  clear F a;intro a F;refine Xw 10 rfl F rfl rfl (fun w H=>rLd isAgg5 F rfl (H.by' 0 rfl)) H qq0 (Xu 11 rfl rfl (fun a F w=>rMv F rfl) H qq0 (Xu 12 rfl rfl (fun a F w=>rMv F rfl) H qq0 (Xu 13 rfl rfl (fun a F w=>rMv F rfl) H qq0 ?_)));clear F a;intro a F
  refine Xv (k:=14) (i:=14) rfl F rfl (fun w=>YA F rfl rfl (XJ ?_)) H (fun _ _ _ h=>h) ?_
  focus omega
  clear F a;intro a F
  refine Xv (k:=15) (i:=15) rfl F rfl (fun w=>YA F rfl rfl (XJ (j:=1) ?_)) H (fun _ _ _ h=>h) ?_
  focus omega
  clear F a;intro a F
  refine Xv (k:=16) (i:=16) rfl F rfl (fun w=>rIx underlying23 sizeOf5 F rfl rfl ?_) H (fun _ _ _ h=>h) ?_
  focus (omega)
  clear F a;intro a F;refine Xw 17 rfl F rfl rfl (fun w H=>rLd isAgg5 F rfl (H.by' 0 rfl)) H qq0 ?_;clear F a;intro a F;refine Xx (k:=18) (i:=18) rfl (by kernel_rfl) F (XS call106 F rfl rfl (YE (e (f+(2 * r+1))) (e (f+(2 * r+1)+1)) _) ?_);rintro e w ⟨rfl,hb⟩;replace H:=H.grow hb;clear hb;refine ⟨_,rfl,?_⟩;clear F a;intro a F;refine XF (by kernel_rfl) H ?_;refine Xt 19 rfl F rfl (fun w=>rPk F rfl rfl) H qq0 ?_;clear F a;intro a F;refine eNil (k:=20) (by kernel_rfl) ?_;refine hK6 _ _ ?_;clear hK6
  refine cIf F rfl (fun h36=>?_) (fun h36=>?_)
  ·
   refine cReg (Xl F rfl ?_);clear F a;intro a F
   refine Xm F rfl rfl (XJ (j:=1) ?_) ?_
   focus omega
   clear F a;intro a F;refine Xa F rfl (qNK hK5 ?_);clear hK5;clear F a;intro a F;refine cSeq (fun K7 hK7=>?_);refine cSeq (fun K8 hK8=>?_);refine cRegRO (by kernel_rfl) H ?_;replace H:=H.drew;refine Xt 0 rfl F rfl (fun w=>rMv F rfl) H qq0 (Xu 1 rfl rfl (fun a F w=>rMv F rfl) H qq0 (Xu 2 rfl rfl (fun a F w=>rMv F rfl) H qq0 ?_));clear F a;intro a F
   refine Xv (k:=3) (i:=3) rfl F rfl (fun w=>YA F rfl rfl (XJ ?_)) H (fun _ _ _ h=>h) ?_
   focus omega
   clear F a;intro a F
   refine Xv (k:=4) (i:=4) rfl F rfl (fun w=>rIx underlying23 sizeOf5 F rfl rfl ?_) H (fun _ _ _ h=>h) ?_
   focus (omega)
   clear F a;intro a F;refine Xw 5 rfl F rfl rfl (fun w H=>rLd isAgg5 F rfl (H.by' 0 rfl)) H qq0 (Xu 6 rfl rfl (fun a F w=>rMv F rfl) H qq0 (Xu 7 rfl rfl (fun a F w=>rMv F rfl) H qq0 (Xu 8 rfl rfl (fun a F w=>rMv F rfl) H qq0 ?_)));clear F a;intro a F
   refine Xv (k:=9) (i:=9) rfl F rfl (fun w=>YA F rfl rfl (XJ ?_)) H (fun _ _ _ h=>h) ?_
   focus omega
   clear F a;intro a F
   refine Xv (k:=10) (i:=10) rfl F rfl (fun w=>rIx underlying23 sizeOf5 F rfl rfl ?_) H (fun _ _ _ h=>h) ?_
   focus (omega)
   clear F a;intro a F;refine Xw 11 rfl F rfl rfl (fun w H=>rLd isAgg5 F rfl (H.by' 0 rfl)) H qq0 ?_;clear F a;intro a F;refine Xx (k:=12) (i:=12) rfl (by kernel_rfl) F (XS call106 F rfl rfl (YE _ _ _) ?_);rintro e w ⟨rfl,hb⟩;replace H:=H.grow hb;clear hb;refine ⟨_,rfl,?_⟩;clear F a;intro a F;refine XF (by kernel_rfl) H ?_;refine Xt 13 rfl F rfl (fun w=>NA F rfl) H qq0 ?_;clear F a;intro a F;refine eNil (k:=14) (by kernel_rfl) ?_;refine hK8 _ _ ?_;clear hK8
   refine cIf F rfl (fun h52=>?_) (fun h52=>?_)
   ·
    replace h52:=ZA h52;refine wp_ret ?_;refine xI ?_;refine Nv results115 F ?_
    (have h35':=of_decide_eq_true h36
     have hl':¬ (e (f+r)).toNat < (e (f+(2 * r+1+1))).toNat:=by simpa using h52
     exact ⟨rfl,e,hsm,hq.done (fun c hc hch'=>by
       rcases hc with hc | hc
       · rw [hc]
         rw [show f+(2 * r+1+1)=f+(2 * r+1)+1 by omega] at hl';omega
       · rw [hc,show 2 * r+2=2 * r+1+1 by omega];omega),H⟩)
   replace h52:=ZB h52;refine wp_skip (hK7 _ _ ?_);clear hK7;refine cSeq (fun K9 hK9=>?_);refine cRegRO (by kernel_rfl) H ?_;replace H:=H.drew;refine Xt 0 rfl F rfl (fun w=>rMv F rfl) H qq0 (Xu 1 rfl rfl (fun a F w=>rMv F rfl) H qq0 (Xu 2 rfl rfl (fun a F w=>rMv F rfl) H qq0 ?_));clear F a;intro a F
   refine Xv (k:=3) (i:=3) rfl F rfl (fun w=>YA F rfl rfl (XJ ?_)) H (fun _ _ _ h=>h) ?_
   focus omega
   clear F a;intro a F;refine Xt 4 rfl F rfl (fun w=>rMv F rfl) H qq0 (Xu 5 rfl rfl (fun a F w=>rMv F rfl) H qq0 (Xu 6 rfl rfl (fun a F w=>rMv F rfl) H qq0 ?_));clear F a;intro a F
   refine Xv (k:=7) (i:=7) rfl F rfl (fun w=>YA F rfl rfl (XJ ?_)) H (fun _ _ _ h=>h) ?_
   focus omega
   clear F a;intro a F;refine Xt 8 rfl F rfl (fun w=>rMv F rfl) H qq0 (Xu 9 rfl rfl (fun a F w=>rMv F rfl) H qq0 (Xu 10 rfl rfl (fun a F w=>rMv F rfl) H qq0 ?_));clear F a;intro a F
   refine Xv (k:=11) (i:=11) rfl F rfl (fun w=>YA F rfl rfl (XJ ?_)) H (fun _ _ _ h=>h) ?_
   focus omega
   clear F a;intro a F
   refine Xv (k:=12) (i:=12) rfl F rfl (fun w=>rIx underlying23 sizeOf5 F rfl rfl ?_) H (fun _ _ _ h=>h) ?_
   focus (omega)
   clear F a;intro a F;refine Xw 13 rfl F rfl rfl (fun w H=>rLd isAgg5 F rfl (H.by' 0 rfl)) H qq0 (Xu 14 rfl rfl (fun a F w=>rMv F rfl) H qq0 (Xu 15 rfl rfl (fun a F w=>rMv F rfl) H qq0 (Xu 16 rfl rfl (fun a F w=>rMv F rfl) H qq0 ?_)));clear F a;intro a F
   refine Xv (k:=17) (i:=17) rfl F rfl (fun w=>YA F rfl rfl (XJ ?_)) H (fun _ _ _ h=>h) ?_
   focus omega
   clear F a;intro a F
   refine Xv (k:=18) (i:=18) rfl F rfl (fun w=>rIx underlying23 sizeOf5 F rfl rfl ?_) H (fun _ _ _ h=>h) ?_
   focus (omega)
   clear F a;intro a F;refine Xw 19 rfl F rfl rfl (fun w H=>rLd isAgg5 F rfl (H.by' 0 rfl)) H qq0 ?_;clear F a;intro a F
   refine Xv (k:=20) (i:=20) rfl F rfl (fun w=>rIx underlying23 sizeOf5 F rfl rfl ?_) H (fun _ _ _ h=>h) ?_
   focus (omega)
   clear F a;intro a F;refine Xx (k:=21) (i:=21) rfl (by kernel_rfl) F (Wa H 0 sizeOf5 F rfl rfl rfl (by omega) ?_);clear H;intro w H;refine XF (by kernel_rfl) H ?_
   refine Xv (k:=22) (i:=22) rfl F rfl (fun w=>rIx underlying23 sizeOf5 F rfl rfl ?_) H (fun _ _ _ h=>h) ?_
   focus (omega)
   clear F a;intro a F;refine Xx (k:=23) (i:=23) rfl (by kernel_rfl) F (Wa H 0 sizeOf5 F rfl rfl rfl (by omega) ?_);clear H;intro w H;refine XF (by kernel_rfl) H ?_;refine eNil (k:=24) (by kernel_rfl) ?_;refine hK9 _ _ (cReg (Xl F rfl (Xh rfl ?_)));clear hK9;clear F a;intro a F;refine sNil ?_
   have hl:=h52
   (have h35':=of_decide_eq_true h36
    have hl':(e (f+r)).toNat < (e (f+(2 * r+1+1))).toNat:=by simpa using hl
    have hst:=hq.step (ch:=2 * r+1+1) hlr (.inr rfl) hc2 hl' (fun c hc hch'=>by
      rcases hc with hc | hc
      · rw [hc,show f+(2 * r+1+1)=f+(2 * r+1)+1 by omega];omega
      · rw [hc];exact Nat.le_refl _)
    exact ⟨_,by omega,_,⟨2 * r+1+1,_,rfl,rfl,by omega,by omega,hst,hsm.trans (Sm.swap e (by omega) (by omega) (by omega) (by omega)),YU H⟩,F.tt⟩)
  refine wp_skip (hK5 _ _ ?_);clear hK5;refine cSeq (fun K10 hK10=>?_);refine cSeq (fun K11 hK11=>?_);refine cRegRO (by kernel_rfl) H ?_;replace H:=H.drew;refine Xt 0 rfl F rfl (fun w=>rMv F rfl) H qq0 (Xu 1 rfl rfl (fun a F w=>rMv F rfl) H qq0 (Xu 2 rfl rfl (fun a F w=>rMv F rfl) H qq0 ?_));clear F a;intro a F
  refine Xv (k:=3) (i:=3) rfl F rfl (fun w=>YA F rfl rfl (XJ ?_)) H (fun _ _ _ h=>h) ?_
  focus omega
  clear F a;intro a F
  refine Xv (k:=4) (i:=4) rfl F rfl (fun w=>rIx underlying23 sizeOf5 F rfl rfl ?_) H (fun _ _ _ h=>h) ?_
  focus (omega)
  clear F a;intro a F;refine Xw 5 rfl F rfl rfl (fun w H=>rLd isAgg5 F rfl (H.by' 0 rfl)) H qq0 (Xu 6 rfl rfl (fun a F w=>rMv F rfl) H qq0 (Xu 7 rfl rfl (fun a F w=>rMv F rfl) H qq0 (Xu 8 rfl rfl (fun a F w=>rMv F rfl) H qq0 ?_)));clear F a;intro a F
  refine Xv (k:=9) (i:=9) rfl F rfl (fun w=>YA F rfl rfl (XJ ?_)) H (fun _ _ _ h=>h) ?_
  focus omega
  clear F a;intro a F
  refine Xv (k:=10) (i:=10) rfl F rfl (fun w=>rIx underlying23 sizeOf5 F rfl rfl ?_) H (fun _ _ _ h=>h) ?_
  focus (omega)
  clear F a;intro a F;refine Xw 11 rfl F rfl rfl (fun w H=>rLd isAgg5 F rfl (H.by' 0 rfl)) H qq0 ?_;clear F a;intro a F;refine Xx (k:=12) (i:=12) rfl (by kernel_rfl) F (XS call106 F rfl rfl (YE _ _ _) ?_);rintro e w ⟨rfl,hb⟩;replace H:=H.grow hb;clear hb;refine ⟨_,rfl,?_⟩;clear F a;intro a F;refine XF (by kernel_rfl) H ?_;refine Xt 13 rfl F rfl (fun w=>NA F rfl) H qq0 ?_;clear F a;intro a F;refine eNil (k:=14) (by kernel_rfl) ?_;refine hK11 _ _ ?_;clear hK11
  refine cIf F rfl (fun h52=>?_) (fun h52=>?_)
  ·
   replace h52:=ZA h52;refine wp_ret ?_;refine xI ?_;refine Nv results115 F ?_
   (have hl':¬ (e (f+r)).toNat < (e (f+(2 * r+1))).toNat:=by simpa using h52
    exact ⟨rfl,e,hsm,hq.done (fun c hc hch'=>by
      rcases hc with hc | hc
      · rw [hc];omega
      · (have h36':=of_decide_eq_false h36
         rw [hc,show f+(2 * r+2)=f+(2 * r+1)+1 by omega];omega)),H⟩)
  replace h52:=ZB h52;refine wp_skip (hK10 _ _ ?_);clear hK10;refine cSeq (fun K12 hK12=>?_);refine cRegRO (by kernel_rfl) H ?_;replace H:=H.drew;refine Xt 0 rfl F rfl (fun w=>rMv F rfl) H qq0 (Xu 1 rfl rfl (fun a F w=>rMv F rfl) H qq0 (Xu 2 rfl rfl (fun a F w=>rMv F rfl) H qq0 ?_));clear F a;intro a F
  refine Xv (k:=3) (i:=3) rfl F rfl (fun w=>YA F rfl rfl (XJ ?_)) H (fun _ _ _ h=>h) ?_
  focus omega
  clear F a;intro a F;refine Xt 4 rfl F rfl (fun w=>rMv F rfl) H qq0 (Xu 5 rfl rfl (fun a F w=>rMv F rfl) H qq0 (Xu 6 rfl rfl (fun a F w=>rMv F rfl) H qq0 ?_));clear F a;intro a F
  refine Xv (k:=7) (i:=7) rfl F rfl (fun w=>YA F rfl rfl (XJ ?_)) H (fun _ _ _ h=>h) ?_
  focus omega
  clear F a;intro a F;refine Xt 8 rfl F rfl (fun w=>rMv F rfl) H qq0 (Xu 9 rfl rfl (fun a F w=>rMv F rfl) H qq0 (Xu 10 rfl rfl (fun a F w=>rMv F rfl) H qq0 ?_));clear F a;intro a F
  refine Xv (k:=11) (i:=11) rfl F rfl (fun w=>YA F rfl rfl (XJ ?_)) H (fun _ _ _ h=>h) ?_
  focus omega
  clear F a;intro a F
  refine Xv (k:=12) (i:=12) rfl F rfl (fun w=>rIx underlying23 sizeOf5 F rfl rfl ?_) H (fun _ _ _ h=>h) ?_
  focus (omega)
  clear F a;intro a F;refine Xw 13 rfl F rfl rfl (fun w H=>rLd isAgg5 F rfl (H.by' 0 rfl)) H qq0 (Xu 14 rfl rfl (fun a F w=>rMv F rfl) H qq0 (Xu 15 rfl rfl (fun a F w=>rMv F rfl) H qq0 (Xu 16 rfl rfl (fun a F w=>rMv F rfl) H qq0 ?_)));clear F a;intro a F
  refine Xv (k:=17) (i:=17) rfl F rfl (fun w=>YA F rfl rfl (XJ ?_)) H (fun _ _ _ h=>h) ?_
  focus omega
  clear F a;intro a F
  refine Xv (k:=18) (i:=18) rfl F rfl (fun w=>rIx underlying23 sizeOf5 F rfl rfl ?_) H (fun _ _ _ h=>h) ?_
  focus (omega)
  clear F a;intro a F;refine Xw 19 rfl F rfl rfl (fun w H=>rLd isAgg5 F rfl (H.by' 0 rfl)) H qq0 ?_;clear F a;intro a F
  refine Xv (k:=20) (i:=20) rfl F rfl (fun w=>rIx underlying23 sizeOf5 F rfl rfl ?_) H (fun _ _ _ h=>h) ?_
  focus (omega)
  clear F a;intro a F;refine Xx (k:=21) (i:=21) rfl (by kernel_rfl) F (Wa H 0 sizeOf5 F rfl rfl rfl (by omega) ?_);clear H;intro w H;refine XF (by kernel_rfl) H ?_
  refine Xv (k:=22) (i:=22) rfl F rfl (fun w=>rIx underlying23 sizeOf5 F rfl rfl ?_) H (fun _ _ _ h=>h) ?_
  focus (omega)
  clear F a;intro a F;refine Xx (k:=23) (i:=23) rfl (by kernel_rfl) F (Wa H 0 sizeOf5 F rfl rfl rfl (by omega) ?_);clear H;intro w H;refine XF (by kernel_rfl) H ?_;refine eNil (k:=24) (by kernel_rfl) ?_;refine hK12 _ _ (cReg (Xl F rfl (Xh rfl ?_)));clear hK12;clear F a;intro a F;refine sNil ?_
  have hl:=h52
  (have hl':(e (f+r)).toNat < (e (f+(2 * r+1))).toNat:=by simpa using hl
   have hst:=hq.step (ch:=2 * r+1) hlr (.inl rfl) hch hl' (fun c hc hch'=>by
     rcases hc with hc | hc
     · rw [hc];exact Nat.le_refl _
     · (have h36':=of_decide_eq_false h36
        rw [hc,show f+(2 * r+2)=f+(2 * r+1)+1 by omega];omega))
   exact ⟨_,by omega,_,⟨2 * r+1,_,rfl,rfl,by omega,by omega,hst,hsm.trans (Sm.swap e (by omega) (by omega) (by omega) (by omega)),YU H⟩,F.tt⟩)
 replace h21:=of_decide_eq_false h21;refine eSF 5 rfl (by kernel_rfl) F rfl rfl rfl H qq0 (Xy 6 rfl rfl H qq0 (Xy 7 rfl rfl H qq0 (Xy 8 rfl rfl H qq0 (Xy 9 rfl rfl H qq0 (Xy 10 rfl rfl H qq0 (Xy 11 rfl rfl H qq0 (Xy 12 rfl rfl H qq0 (Xy 13 rfl rfl H qq0 (Xy 14 rfl rfl H qq0 (Xy 15 rfl rfl H qq0 (Xy 16 rfl rfl H qq0 (Xy 17 rfl rfl H qq0 (Xy 18 rfl rfl H qq0 (Xu 19 rfl rfl (fun a F w=>rPk F rfl rfl) H qq0 ?_))))))))))))));clear F a;intro a F;refine eNil (k:=20) (by kernel_rfl) ?_;refine hK6 _ _ ?_;clear hK6;refine cIfF F rfl ?_;refine wp_skip (hK5 _ _ ?_);clear hK5;refine cSeq (fun K13 hK13=>?_);refine cSeq (fun K14 hK14=>?_);refine cRegRO (by kernel_rfl) H ?_;replace H:=H.drew;refine Xt 0 rfl F rfl (fun w=>rMv F rfl) H qq0 (Xu 1 rfl rfl (fun a F w=>rMv F rfl) H qq0 (Xu 2 rfl rfl (fun a F w=>rMv F rfl) H qq0 ?_));clear F a;intro a F
 refine Xv (k:=3) (i:=3) rfl F rfl (fun w=>YA F rfl rfl (XJ ?_)) H (fun _ _ _ h=>h) ?_
 focus omega
 clear F a;intro a F
 refine Xv (k:=4) (i:=4) rfl F rfl (fun w=>rIx underlying23 sizeOf5 F rfl rfl ?_) H (fun _ _ _ h=>h) ?_
 focus (omega)
 clear F a;intro a F;refine Xw 5 rfl F rfl rfl (fun w H=>rLd isAgg5 F rfl (H.by' 0 rfl)) H qq0 (Xu 6 rfl rfl (fun a F w=>rMv F rfl) H qq0 (Xu 7 rfl rfl (fun a F w=>rMv F rfl) H qq0 (Xu 8 rfl rfl (fun a F w=>rMv F rfl) H qq0 ?_)));clear F a;intro a F
 refine Xv (k:=9) (i:=9) rfl F rfl (fun w=>YA F rfl rfl (XJ ?_)) H (fun _ _ _ h=>h) ?_
 focus omega
 clear F a;intro a F
 refine Xv (k:=10) (i:=10) rfl F rfl (fun w=>rIx underlying23 sizeOf5 F rfl rfl ?_) H (fun _ _ _ h=>h) ?_
 focus (omega)
 clear F a;intro a F;refine Xw 11 rfl F rfl rfl (fun w H=>rLd isAgg5 F rfl (H.by' 0 rfl)) H qq0 ?_;clear F a;intro a F;refine Xx (k:=12) (i:=12) rfl (by kernel_rfl) F (XS call106 F rfl rfl (YE _ _ _) ?_);rintro e w ⟨rfl,hb⟩;replace H:=H.grow hb;clear hb;refine ⟨_,rfl,?_⟩;clear F a;intro a F;refine XF (by kernel_rfl) H ?_;refine Xt 13 rfl F rfl (fun w=>NA F rfl) H qq0 ?_;clear F a;intro a F;refine eNil (k:=14) (by kernel_rfl) ?_;refine hK14 _ _ ?_;clear hK14
 refine cIf F rfl (fun h52=>?_) (fun h52=>?_)
 ·
  replace h52:=ZA h52;refine wp_ret ?_;refine xI ?_;refine Nv results115 F ?_
  (have hl':¬ (e (f+r)).toNat < (e (f+(2 * r+1))).toNat:=by simpa using h52
   exact ⟨rfl,e,hsm,hq.done (fun c hc hch'=>by
     rcases hc with hc | hc
     · rw [hc];omega
     · omega),H⟩)
 replace h52:=ZB h52;refine wp_skip (hK13 _ _ ?_);clear hK13;refine cSeq (fun K15 hK15=>?_);refine cRegRO (by kernel_rfl) H ?_;replace H:=H.drew;refine Xt 0 rfl F rfl (fun w=>rMv F rfl) H qq0 (Xu 1 rfl rfl (fun a F w=>rMv F rfl) H qq0 (Xu 2 rfl rfl (fun a F w=>rMv F rfl) H qq0 ?_));clear F a;intro a F
 refine Xv (k:=3) (i:=3) rfl F rfl (fun w=>YA F rfl rfl (XJ ?_)) H (fun _ _ _ h=>h) ?_
 focus omega
 clear F a;intro a F;refine Xt 4 rfl F rfl (fun w=>rMv F rfl) H qq0 (Xu 5 rfl rfl (fun a F w=>rMv F rfl) H qq0 (Xu 6 rfl rfl (fun a F w=>rMv F rfl) H qq0 ?_));clear F a;intro a F
 refine Xv (k:=7) (i:=7) rfl F rfl (fun w=>YA F rfl rfl (XJ ?_)) H (fun _ _ _ h=>h) ?_
 focus omega
 clear F a;intro a F;refine Xt 8 rfl F rfl (fun w=>rMv F rfl) H qq0 (Xu 9 rfl rfl (fun a F w=>rMv F rfl) H qq0 (Xu 10 rfl rfl (fun a F w=>rMv F rfl) H qq0 ?_));clear F a;intro a F
 refine Xv (k:=11) (i:=11) rfl F rfl (fun w=>YA F rfl rfl (XJ ?_)) H (fun _ _ _ h=>h) ?_
 focus omega
 clear F a;intro a F
 refine Xv (k:=12) (i:=12) rfl F rfl (fun w=>rIx underlying23 sizeOf5 F rfl rfl ?_) H (fun _ _ _ h=>h) ?_
 focus (omega)
 clear F a;intro a F;refine Xw 13 rfl F rfl rfl (fun w H=>rLd isAgg5 F rfl (H.by' 0 rfl)) H qq0 (Xu 14 rfl rfl (fun a F w=>rMv F rfl) H qq0 (Xu 15 rfl rfl (fun a F w=>rMv F rfl) H qq0 (Xu 16 rfl rfl (fun a F w=>rMv F rfl) H qq0 ?_)));clear F a;intro a F
 refine Xv (k:=17) (i:=17) rfl F rfl (fun w=>YA F rfl rfl (XJ ?_)) H (fun _ _ _ h=>h) ?_
 focus omega
 clear F a;intro a F
 refine Xv (k:=18) (i:=18) rfl F rfl (fun w=>rIx underlying23 sizeOf5 F rfl rfl ?_) H (fun _ _ _ h=>h) ?_
 focus (omega)
 clear F a;intro a F;refine Xw 19 rfl F rfl rfl (fun w H=>rLd isAgg5 F rfl (H.by' 0 rfl)) H qq0 ?_;clear F a;intro a F
 refine Xv (k:=20) (i:=20) rfl F rfl (fun w=>rIx underlying23 sizeOf5 F rfl rfl ?_) H (fun _ _ _ h=>h) ?_
 focus (omega)
 clear F a;intro a F;refine Xx (k:=21) (i:=21) rfl (by kernel_rfl) F (Wa H 0 sizeOf5 F rfl rfl rfl (by omega) ?_);clear H;intro w H;refine XF (by kernel_rfl) H ?_
 refine Xv (k:=22) (i:=22) rfl F rfl (fun w=>rIx underlying23 sizeOf5 F rfl rfl ?_) H (fun _ _ _ h=>h) ?_
 focus (omega)
 clear F a;intro a F;refine Xx (k:=23) (i:=23) rfl (by kernel_rfl) F (Wa H 0 sizeOf5 F rfl rfl rfl (by omega) ?_);clear H;intro w H;refine XF (by kernel_rfl) H ?_;refine eNil (k:=24) (by kernel_rfl) ?_;refine hK15 _ _ (cReg (Xl F rfl (Xh rfl ?_)));clear hK15;clear F a;intro a F;refine sNil ?_
 have hl:=h52
 (have hl':(e (f+r)).toNat < (e (f+(2 * r+1))).toNat:=by simpa using hl
  have hst:=hq.step (ch:=2 * r+1) hlr (.inl rfl) hch hl' (fun c hc hch'=>by
    rcases hc with hc | hc
    · rw [hc];exact Nat.le_refl _
    · omega)
  exact ⟨_,by omega,_,⟨2 * r+1,_,rfl,rfl,by omega,by omega,hst,hsm.trans (Sm.swap e (by omega) (by omega) (by omega) (by omega)),YU H⟩,F.tt⟩)
-- SoD
open Go.RowKit
set_option maxRecDepth 100000
theorem Hs.pre {f hi i:Nat} {d:By} (h:Hs f hi (i+1) d):Hp f (0+1) i (swp d f (f+i)):=fun k c h1 h2 h3=>by
 unfold swp
 rw [if_neg (by omega),if_neg (by omega),if_neg (by omega),if_neg (by omega)]
 exact h.heap k c (Nat.zero_le _) h2 (by omega)
set_option maxHeartbeats 2000000 in
theorem CJ (g n c:Nat) (d:By) (lo up:Nat) (W:World) (row:Option Nat) (rs:List Res) (w0:World) (H:Own W row w0 (.byt g n c d :: rs)) (hb:up≤n) (hn:n≤1000000) (hlo:lo < up) :
   Calls Tryz.prog 101 #[.slice (some ⟨g,0,none⟩) n c,.int .i64 (lo:Int),.int .i64 (up:Int)] w0 fun e w'=>e = .returned (.tuple #[])∧∃ d',Sm lo up d d'∧Srt lo up d'∧Own W row w' (.byt g n c d' :: rs):=by
 obtain ⟨hi,rfl⟩:∃ hi,up=lo+hi:=⟨up - lo,by omega⟩
 refine XE Tryz.func101 rfl Tryz.ntmps101 rfl (fun a F=>?_);refine cSR fun K1 hK1=>Xl F rfl (Xh rfl (qNK hK1 (qSR fun K2 hK2=>Xh rfl (qNK hK2 (qSR fun K3 hK3=>Xd rfl (Xd rfl ?_))))));clear hK1 hK2;clear F a;intro a F
 refine Xm F rfl rfl (Yp ?_ ?_) ?_
 focus omega
 focus omega
 clear F a;intro a F;refine Xa F rfl (qNK hK3 ?_);clear hK3;clear F a;intro a F;refine cSeq (fun K4 hK4=>?_);refine cSR fun K5 hK5=>Xl F rfl ?_;clear F a;intro a F
 refine Xm F rfl rfl (Yp (j:=1) ?_ ?_) ?_
 focus omega
 focus omega
 clear F a;intro a F
 refine Xm F rfl rfl (Nt (j:=2) ?_ ?_) ?_
 focus omega
 focus omega
 clear F a;intro a F;refine Xa F rfl (qNK hK5 ?_);clear hK5;clear F a;intro a F;refine wp_block ?_;rw [show lo+hi - lo=hi by omega,show (((hi - 1) / 2:Nat):Int)=(((hi - 1) / 2+1:Nat):Int) - 1 by omega] at F
 refine cLoopS [0,6,7,8] (fun m ups w=>∃ (k:Nat) (e:By),m=k+1∧ups=[(9,.int .i64 (((k:Nat):Int) - 1))]∧k≤hi∧Hp lo k hi e∧Sm lo (lo+hi) d e∧Own W row w (.byt g n c e :: rs)) F ((hi - 1) / 2+1+1) [(9,.int .i64 ((((hi - 1) / 2+1:Nat):Int) - 1))] ?_ ?_
 · exact ⟨(hi - 1) / 2+1,d,rfl,rfl,by omega,Hp.none _ (by omega),Sm.refl _ _ _,H⟩
 clear F
 clear H
 intro m ups a w hI F
 obtain ⟨k,e,rfl,rfl,hkh,hhp,hsm,H⟩:=hI
 refine cSeq (fun K6 hK6=>?_);refine cSR fun K7 hK7=>Xl F rfl (Xj rfl rfl Jc (qNK hK7 ?_));clear hK7;clear F a;intro a F
 refine cIf F rfl (fun h19=>?_) (fun h19=>?_)
 ·
  replace h19:=of_decide_eq_true h19
  obtain ⟨i,rfl⟩:∃ i,k=i+1:=⟨k - 1,by omega⟩
  rw [show (((i+1:Nat):Int) - 1)=((i:Nat):Int) by omega] at F;refine wp_skip (hK6 _ _ ?_);clear hK6;refine cSeq (fun K8 hK8=>?_);refine wp_block ?_;refine cReg (Xl F rfl (Xd rfl (Xd rfl (Xd rfl ?_))));clear F a;intro a F;refine Xn Tryz.call115 F rfl (MK g n c e i hi lo W row rs _ H (by omega) hn (by omega) hhp) ?_;rintro e w ⟨rfl,e',hs',hp',H2⟩
  replace H:=H2;clear H2
  refine ⟨_,rfl,?_⟩;clear F a;intro a F;refine nK hK8 (cReg (Xl F rfl ?_));clear hK8;clear F a;intro a F
  refine Xm F rfl rfl (Ns ?_) ?_
  focus omega
  clear F a;intro a F;refine Xa F rfl ?_;clear F a;intro a F;refine sNil ?_
  exact ⟨_,by omega,_,⟨i,e',rfl,rfl,by omega,hp',hsm.trans (hs'.mono (by omega) (Nat.le_refl _)),H⟩,F.tt⟩
 replace h19:=of_decide_eq_false h19
 obtain rfl:k=0:=by omega
 refine wp_exit ?_;refine hK4 _ _ (cSR fun K9 hK9=>Xl F rfl ?_);clear hK4;clear F a;intro a F
 refine Xm F rfl rfl (Yp (j:=1) ?_ ?_) ?_
 focus omega
 focus omega
 clear F a;intro a F;refine Xa F rfl (qNK hK9 ?_);clear hK9;clear F a;intro a F;refine wp_block ?_;rw [show ((hi - 1:Nat):Int)=((hi:Nat):Int) - 1 by omega] at F
 refine cLoopS [0,6,7] (fun m ups w=>∃ (k:Nat) (e:By),m=k+1∧ups=[(10,.int .i64 (((k:Nat):Int) - 1))]∧Hs lo hi k e∧Sm lo (lo+hi) d e∧Own W row w (.byt g n c e :: rs)) F (hi+1) [(10,.int .i64 (((hi:Nat):Int) - 1))] ?_ ?_
 · exact ⟨hi,e,rfl,rfl,Hs.start hhp,hsm,H⟩
 clear F
 clear H
 intro m ups a w hI F
 obtain ⟨k,e2,rfl,rfl,hhs,hsm2,H⟩:=hI
 refine cSeq (fun K10 hK10=>?_);refine cSR fun K11 hK11=>Xl F rfl (Xj rfl rfl Jc (qNK hK11 ?_));clear hK11;clear F a;intro a F
 refine cIf F rfl (fun h30=>?_) (fun h30=>?_)
 ·
  replace h30:=of_decide_eq_true h30
  obtain ⟨i,rfl⟩:∃ i,k=i+1:=⟨k - 1,by omega⟩
  have hle:=hhs.le
  rw [show (((i+1:Nat):Int) - 1)=((i:Nat):Int) by omega] at F;refine wp_skip (hK10 _ _ ?_);clear hK10;refine cSeq (fun K12 hK12=>?_);refine wp_block ?_;refine cSeq (fun K13 hK13=>?_);refine cRegRO (by kernel_rfl) H ?_;replace H:=H.drew;refine Xt 0 rfl F rfl (fun w=>rMv F rfl) H qq0 (Xu 1 rfl rfl (fun a F w=>rMv F rfl) H qq0 (Xu 2 rfl rfl (fun a F w=>rMv F rfl) H qq0 (Xu 3 rfl rfl (fun a F w=>rMv F rfl) H qq0 (Xu 4 rfl rfl (fun a F w=>rMv F rfl) H qq0 ?_))));clear F a;intro a F
  refine Xv (k:=5) (i:=5) rfl F rfl (fun w=>YA F rfl rfl (XJ ?_)) H (fun _ _ _ h=>h) ?_
  focus omega
  clear F a;intro a F;refine Xt 6 rfl F rfl (fun w=>rMv F rfl) H qq0 (Xu 7 rfl rfl (fun a F w=>rMv F rfl) H qq0 (Xu 8 rfl rfl (fun a F w=>rMv F rfl) H qq0 ?_));clear F a;intro a F
  refine Xv (k:=9) (i:=9) rfl F rfl (fun w=>YA F rfl rfl (XJ ?_)) H (fun _ _ _ h=>h) ?_
  focus omega
  clear F a;intro a F
  refine Xv (k:=10) (i:=10) rfl F rfl (fun w=>rIx Tryz.underlying23 Tryz.sizeOf5 F rfl rfl ?_) H (fun _ _ _ h=>h) ?_
  focus (omega)
  clear F a;intro a F;refine Xw 11 rfl F rfl rfl (fun w H=>rLd Tryz.isAgg5 F rfl (H.by' 0 rfl)) H qq0 (Xu 12 rfl rfl (fun a F w=>rMv F rfl) H qq0 (Xu 13 rfl rfl (fun a F w=>rMv F rfl) H qq0 ?_));clear F a;intro a F
  refine Xv (k:=14) (i:=14) rfl F rfl (fun w=>rIx Tryz.underlying23 Tryz.sizeOf5 F rfl rfl ?_) H (fun _ _ _ h=>h) ?_
  focus (omega)
  clear F a;intro a F;refine Xw 15 rfl F rfl rfl (fun w H=>rLd Tryz.isAgg5 F rfl (H.by' 0 rfl)) H qq0 ?_;clear F a;intro a F
  refine Xv (k:=16) (i:=16) rfl F rfl (fun w=>rIx Tryz.underlying23 Tryz.sizeOf5 F rfl rfl ?_) H (fun _ _ _ h=>h) ?_
  focus (omega)
  clear F a;intro a F;refine Xx (k:=17) (i:=17) rfl (by kernel_rfl) F (Wa H 0 Tryz.sizeOf5 F rfl rfl rfl (by omega) ?_);clear H;intro w H;refine XF (by kernel_rfl) H ?_
  refine Xv (k:=18) (i:=18) rfl F rfl (fun w=>rIx Tryz.underlying23 Tryz.sizeOf5 F rfl rfl ?_) H (fun _ _ _ h=>h) ?_
  focus (omega)
  clear F a;intro a F;refine Xx (k:=19) (i:=19) rfl (by kernel_rfl) F (Wa H 0 Tryz.sizeOf5 F rfl rfl rfl (by omega) ?_);clear H;intro w H;refine XF (by kernel_rfl) H ?_;refine eNil (k:=20) (by kernel_rfl) ?_;refine hK13 _ _ (cReg (Xl F rfl (Xd rfl (Xd rfl (Xd rfl ?_)))));clear hK13;clear F a;intro a F;refine Xn Tryz.call115 F rfl ((by have:=MK g n c _ 0 i lo W row rs _ (YU H) (by omega) hn (by omega) hhs.pre;exact this)) ?_;rintro e w ⟨rfl,e',hs',hp',H2⟩
  replace H:=H2;clear H2
  refine ⟨_,rfl,?_⟩;clear F a;intro a F;refine nK hK12 (cReg (Xl F rfl ?_));clear hK12;clear F a;intro a F
  refine Xm F rfl rfl (Ns ?_) ?_
  focus omega
  clear F a;intro a F;refine Xa F rfl ?_;clear F a;intro a F;refine sNil ?_
  exact ⟨_,by omega,_,⟨i,e',rfl,rfl,hhs.step hs' hp',hsm2.trans ((Sm.swap e2 (by omega) (by omega) (by omega) (by omega)).trans (hs'.mono (by omega) (by omega))),H⟩,F.tt⟩
 replace h30:=of_decide_eq_false h30;refine wp_exit ?_
 (simp only [Exit.then,Exit.inBlock,if_true];(repeat (first | rw [if_pos rfl] | rw [if_neg (by decide)]));refine bEnd Tryz.results101 F ?_)
 obtain rfl:k=0:=by omega
 exact ⟨rfl,e2,hsm2,hhs.done,H⟩
-- SoE
open Go.Proofs.Tryz
open Go.RowKit
set_option maxRecDepth 100000
set_option maxHeartbeats 1000000 in
theorem Ce (g n c:Nat) (d:By) (lo up:Nat) (W:World) (row:Option Nat) (rs:List Res) (w0:World) (H:Own W row w0 (.byt g n c d :: rs)) (hb:up≤n) (hn:n≤1000000) (hlo:lo < up) :
   Calls Tryz.prog 104 #[.slice (some ⟨g,0,none⟩) n c,.int .i64 (lo:Int),.int .i64 (up:Int)] w0 fun e w'=>e = .returned (.tuple #[])∧∃ d',Sm lo up d d'∧Own W row w' (.byt g n c d' :: rs):=by
 refine XE func104 rfl ntmps104 rfl (fun a F=>?_);refine cSR fun K1 hK1=>Xl F rfl (Xh rfl (qNK hK1 (qSR fun K2 hK2=>Xd rfl ?_)));clear hK1;clear F a;intro a F
 refine Xm F rfl rfl (Yp (j:=1) ?_ ?_) ?_
 focus omega
 focus omega
 clear F a;intro a F;refine Xa F rfl (qNK hK2 ?_);clear hK2;clear F a;intro a F;refine wp_block ?_
 refine cLoopS [0] (fun m ups w=>∃ (i j:Nat) (e:By),m=j+1∧ups=[(6,.int .i64 ((i:Nat):Int)),(7,.int .i64 ((j:Nat):Int))]∧lo≤i∧j < up∧Sm lo up d e∧Own W row w (.byt g n c e :: rs)) F (up - 1+1) [(6,.int .i64 ((lo:Nat):Int)),(7,.int .i64 ((up - 1:Nat):Int))] ?_ ?_
 · exact ⟨lo,up - 1,d,rfl,rfl,Nat.le_refl _,by omega,Sm.refl _ _ _,H⟩
 clear F
 clear H
 intro m ups a w hI F
 obtain ⟨i,j,e,rfl,rfl,hli,hju,hsm,H⟩:=hI
 refine cSeq (fun K3 hK3=>?_);refine cSR fun K4 hK4=>Xl F rfl (Xd rfl (Xj rfl rfl YW (qNK hK4 ?_)));clear hK4;clear F a;intro a F
 refine cIf F rfl (fun h13=>?_) (fun h13=>?_)
 ·
  replace h13:=of_decide_eq_true h13;refine wp_skip (hK3 _ _ ?_);clear hK3;refine wp_block ?_;refine cSeq (fun K5 hK5=>?_);refine cRegRO (by kernel_rfl) H ?_;replace H:=H.drew;refine Xt 0 rfl F rfl (fun w=>rMv F rfl) H qq0 (Xu 1 rfl rfl (fun a F w=>rMv F rfl) H qq0 (Xu 2 rfl rfl (fun a F w=>rMv F rfl) H qq0 (Xu 3 rfl rfl (fun a F w=>rMv F rfl) H qq0 (Xu 4 rfl rfl (fun a F w=>rMv F rfl) H qq0 (Xu 5 rfl rfl (fun a F w=>rMv F rfl) H qq0 ?_)))));clear F a;intro a F
  refine Xv (k:=6) (i:=6) rfl F rfl (fun w=>rIx underlying23 sizeOf5 F rfl rfl ?_) H (fun _ _ _ h=>h) ?_
  focus (omega)
  clear F a;intro a F;refine Xw 7 rfl F rfl rfl (fun w H=>rLd isAgg5 F rfl (H.by' 0 rfl)) H qq0 (Xu 8 rfl rfl (fun a F w=>rMv F rfl) H qq0 (Xu 9 rfl rfl (fun a F w=>rMv F rfl) H qq0 ?_));clear F a;intro a F
  refine Xv (k:=10) (i:=10) rfl F rfl (fun w=>rIx underlying23 sizeOf5 F rfl rfl ?_) H (fun _ _ _ h=>h) ?_
  focus (omega)
  clear F a;intro a F;refine Xw 11 rfl F rfl rfl (fun w H=>rLd isAgg5 F rfl (H.by' 0 rfl)) H qq0 ?_;clear F a;intro a F
  refine Xv (k:=12) (i:=12) rfl F rfl (fun w=>rIx underlying23 sizeOf5 F rfl rfl ?_) H (fun _ _ _ h=>h) ?_
  focus (omega)
  clear F a;intro a F;refine Xx (k:=13) (i:=13) rfl (by kernel_rfl) F (Wa H 0 sizeOf5 F rfl rfl rfl (by omega) ?_);clear H;intro w H;refine XF (by kernel_rfl) H ?_
  refine Xv (k:=14) (i:=14) rfl F rfl (fun w=>rIx underlying23 sizeOf5 F rfl rfl ?_) H (fun _ _ _ h=>h) ?_
  focus (omega)
  clear F a;intro a F;refine Xx (k:=15) (i:=15) rfl (by kernel_rfl) F (Wa H 0 sizeOf5 F rfl rfl rfl (by omega) ?_);clear H;intro w H;refine XF (by kernel_rfl) H ?_;refine eNil (k:=16) (by kernel_rfl) ?_;refine hK5 _ _ (cSR fun K6 hK6=>Xl F rfl ?_);clear hK5;clear F a;intro a F
  refine Xm F rfl rfl (XJ (j:=1) ?_) ?_
  focus omega
  clear F a;intro a F;refine Xa F rfl (qNK hK6 (WN (Xd rfl ?_)));clear hK6;clear F a;intro a F
  refine Xm F rfl rfl (Yp (j:=1) ?_ ?_) ?_
  focus omega
  focus omega
  clear F a;intro a F;refine Xa F rfl ?_;clear F a;intro a F;refine sNil ?_
  exact ⟨_,by omega,_,⟨i+1,j - 1,_,rfl,rfl,by omega,by omega,hsm.trans (Sm.swap e (by omega) (by omega) (by omega) (by omega)),YU H⟩,F.tt⟩
 replace h13:=of_decide_eq_false h13;refine wp_exit ?_
 (simp only [Exit.then,Exit.inBlock,if_true];(repeat (first | rw [if_pos rfl] | rw [if_neg (by decide)]));refine bEnd results104 F ?_)
 exact ⟨rfl,e,hsm,H⟩
set_option maxHeartbeats 4000000 in
theorem N1 (g n c:Nat) (d:By) (lo up:Nat) (W:World) (row:Option Nat) (rs:List Res) (w0:World) (H:Own W row w0 (.byt g n c d :: rs)) (hb:up≤n) (hn:n≤1000000) (hlo:lo < up) (hpre:lo=0∨∀ k,lo≤k→k < up→(d (lo - 1)).toNat≤(d k).toNat) :
   Calls Tryz.prog 105 #[.slice (some ⟨g,0,none⟩) n c,.int .i64 (lo:Int),.int .i64 (up:Int)] w0 fun e w'=>∃ (r:Bool) (d':By),e = .returned (.bool r)∧Sm lo up d d'∧(r=true→Srt lo up d')∧Own W row w' (.byt g n c d' :: rs):=by
 have hstop:∀ e:By,Sm lo up d e→0 < lo→(e (lo - 1)).toNat≤(e lo).toNat:=fun e hs h0=>by
   rcases hpre with h1 | h1
   · omega
   · rw [hs.out (lo - 1) (by omega)]
     exact hs.all (p:=fun x=>(d (lo - 1)).toNat≤x.toNat) h1 lo (Nat.le_refl _) hlo
 refine XE func105 rfl ntmps105 rfl (fun a F=>?_);refine cSR fun K1 hK1=>Xa F rfl (qNK hK1 (qSR fun K2 hK2=>Xd rfl ?_));clear hK1;clear F a;intro a F
 refine Xm F rfl rfl (XJ (j:=1) ?_) ?_
 focus omega
 clear F a;intro a F;refine Xa F rfl (qNK hK2 ?_);clear hK2;clear F a;intro a F;refine cSeq (fun K3 hK3=>?_);refine cSR fun K4 hK4=>Xa F rfl (qNK hK4 ?_);clear hK4;clear F a;intro a F;refine wp_block ?_
 refine cLoopS [0,1,2] (fun m ups w=>∃ (i q:Nat) (e:By),m=5 - q∧ups=[(7,.int .i64 ((i:Nat):Int)),(8,.int .i64 ((q:Nat):Int))]∧lo+1≤i∧i≤up∧Srt lo i e∧Sm lo up d e∧Own W row w (.byt g n c e :: rs)) F (5 - 0) [(7,.int .i64 ((lo+1:Nat):Int)),(8,.int .i64 ((0:Nat):Int))] ?_ ?_
 · exact ⟨lo+1,0,d,rfl,rfl,Nat.le_refl _,by omega,Srt.small _ (by omega),Sm.refl _ _ _,H⟩
 clear F
 clear H
 intro m ups a w hI F
 obtain ⟨i,q,e,rfl,rfl,hli,hiu,hsr,hsm,H⟩:=hI
 refine cSeq (fun K5 hK5=>?_);refine cSR fun K6 hK6=>Xl F rfl (Xj rfl rfl YW (qNK hK6 ?_));clear hK6;clear F a;intro a F
 refine cIf F rfl (fun h14=>?_) (fun h14=>?_)
 ·
  replace h14:=of_decide_eq_true h14;refine wp_skip (hK5 _ _ ?_);clear hK5;refine cSeq (fun K7 hK7=>?_);refine wp_block ?_
  refine cSeqS [0,1,2,8] (fun ups w=>∃ i:Nat,ups=[(7,.int .i64 ((i:Nat):Int))]∧lo+1≤i∧i≤up∧Srt lo i e∧Own W row w (.byt g n c e :: rs)) F ?_ ?_
  ·
   refine wp_block ?_
   refine cLoopS [0,1,2,8] (fun m ups w=>∃ (i:Nat),m=up - i∧ups=[(7,.int .i64 ((i:Nat):Int))]∧lo+1≤i∧i≤up∧Srt lo i e∧Own W row w (.byt g n c e :: rs)) F (up - i) [(7,.int .i64 ((i:Nat):Int))] ?_ ?_
   · exact ⟨i,rfl,rfl,hli,hiu,hsr,H⟩
   clear F
   clear H
   intro m ups a w hI F
   clear hsr hli hiu;obtain ⟨i,rfl,rfl,hli,hiu,hsr,H⟩:=hI
   refine cSeq (fun K8 hK8=>?_);refine cSeq (fun K9 hK9=>?_);refine cRegRO (by kernel_rfl) H ?_;replace H:=H.drew;refine Xt 0 rfl F rfl (fun w=>rMv F rfl) H qq0 (Xu 1 rfl rfl (fun a F w=>rMv F rfl) H qq0 (Xu 2 rfl rfl (fun a F w=>YA F rfl rfl YW) H qq0 (Xu 3 rfl rfl (fun a F w=>rMv F rfl) H qq0 ?_)));clear F a;intro a F
   refine F.split 20 rfl ?_ ?_ <;> (clear F;intro h20 F)
   ·
    replace h20:=of_decide_eq_true h20
    have hil:i < up:=by omega
    refine Xt 4 rfl F rfl (fun w=>rMv F rfl) H qq0 (Xu 5 rfl rfl (fun a F w=>rMv F rfl) H qq0 ?_);clear F a;intro a F
    refine Xv (k:=6) (i:=6) rfl F rfl (fun w=>rIx underlying23 sizeOf5 F rfl rfl ?_) H (fun _ _ _ h=>h) ?_
    focus (omega)
    clear F a;intro a F;refine Xw 7 rfl F rfl rfl (fun w H=>rLd isAgg5 F rfl (H.by' 0 rfl)) H qq0 (Xu 8 rfl rfl (fun a F w=>rMv F rfl) H qq0 (Xu 9 rfl rfl (fun a F w=>rMv F rfl) H qq0 ?_));clear F a;intro a F
    refine Xv (k:=10) (i:=10) rfl F rfl (fun w=>YA F rfl rfl (Yp (j:=1) ?_ ?_)) H (fun _ _ _ h=>h) ?_
    focus omega
    focus omega
    clear F a;intro a F
    refine Xv (k:=11) (i:=11) rfl F rfl (fun w=>rIx underlying23 sizeOf5 F rfl rfl ?_) H (fun _ _ _ h=>h) ?_
    focus (omega)
    clear F a;intro a F;refine Xw 12 rfl F rfl rfl (fun w H=>rLd isAgg5 F rfl (H.by' 0 rfl)) H qq0 ?_;clear F a;intro a F;refine Xx (k:=13) (i:=13) rfl (by kernel_rfl) F (XS call106 F rfl rfl (YE (e i) (e (i - 1)) _) ?_);rintro e w ⟨rfl,hb⟩;replace H:=H.grow hb;clear hb;refine ⟨_,rfl,?_⟩;clear F a;intro a F;refine XF (by kernel_rfl) H ?_;refine Xt 14 rfl F rfl (fun w=>NA F rfl) H qq0 (Xu 15 rfl rfl (fun a F w=>rPk F rfl rfl) H qq0 ?_);clear F a;intro a F;refine eNil (k:=16) (by kernel_rfl) ?_;refine hK9 _ _ ?_;clear hK9
    refine cIf F rfl (fun h32=>?_) (fun h32=>?_)
    ·
     replace h32:=ZA h32;refine wp_skip (hK8 _ _ ?_);clear hK8;refine wp_block ?_;refine cReg (Xl F rfl ?_);clear F a;intro a F
     refine Xm F rfl rfl (XJ (j:=1) ?_) ?_
     focus omega
     clear F a;intro a F;refine Xa F rfl ?_;clear F a;intro a F;refine sNil ?_
     have h32':¬ (e i).toNat < (e (i - 1)).toNat:=by simpa using h32
     exact ⟨_,by omega,_,⟨i+1,rfl,rfl,by omega,by omega,fun k h1 h2=>by
       by_cases hk:k+1=i
       · have:k=i - 1:=by omega
         rw [this,show i - 1+1=i by omega];omega
       · exact hsr k h1 (by omega),H⟩,F.tt⟩
    replace h32:=ZB h32;refine wp_exit ?_
    exact ⟨_,⟨i,rfl,hli,hiu,hsr,H⟩,F.tt⟩
   replace h20:=of_decide_eq_false h20;refine eSF 4 rfl (by kernel_rfl) F rfl rfl rfl H qq0 (Xy 5 rfl rfl H qq0 (Xy 6 rfl rfl H qq0 (Xy 7 rfl rfl H qq0 (Xy 8 rfl rfl H qq0 (Xy 9 rfl rfl H qq0 (Xy 10 rfl rfl H qq0 (Xy 11 rfl rfl H qq0 (Xy 12 rfl rfl H qq0 (Xy 13 rfl rfl H qq0 (Xy 14 rfl rfl H qq0 (Xu 15 rfl rfl (fun a F w=>rPk F rfl rfl) H qq0 ?_)))))))))));clear F a;intro a F;refine eNil (k:=16) (by kernel_rfl) ?_;refine hK9 _ _ ?_;clear hK9;refine cIfF F rfl ?_;refine wp_exit ?_
   exact ⟨_,⟨i,rfl,hli,hiu,hsr,H⟩,F.tt⟩
  clear F H
  intro ups a w hI F
  clear hsr hli hiu;obtain ⟨i,rfl,hli,hiu,hsr,H⟩:=hI
  refine cSeq (fun K10 hK10=>?_);refine cSR fun K11 hK11=>Xl F rfl (Xd rfl (Xj rfl rfl ZQ (qNK hK11 ?_)));clear hK11;clear F a;intro a F
  refine cIf F rfl (fun h37=>?_) (fun h37=>?_)
  ·
   replace h37:=Yh h37;refine cSR fun K12 hK12=>Xa F rfl (qNK hK12 ?_);clear hK12;clear F a;intro a F;refine wp_ret ?_;refine xI ?_;refine bRet results105 F rfl ?_
   (obtain rfl:i=up:=by omega
    exact ⟨true,e,rfl,hsm,fun _=>hsr,H⟩)
  replace h37:=Yi h37
  have hil2:i < up:=by omega
  refine wp_skip (hK10 _ _ ?_);clear hK10;refine cSeq (fun K13 hK13=>?_);refine cSR fun K14 hK14=>Xl F rfl (Xd rfl ?_);clear F a;intro a F
  refine Xm F rfl rfl (Yp ?_ ?_) ?_
  focus omega
  focus omega
  clear F a;intro a F;refine Xm F rfl rfl YW (qNK hK14 ?_);clear hK14;clear F a;intro a F
  refine cIf F rfl (fun h41=>?_) (fun h41=>?_)
  ·
   replace h41:=of_decide_eq_true h41;refine cSR fun K15 hK15=>Xa F rfl (qNK hK15 ?_);clear hK15;clear F a;intro a F;refine wp_ret ?_;refine xI ?_;refine bRet results105 F rfl ?_
   exact ⟨false,e,rfl,hsm,fun h=>(by cases h),H⟩
  replace h41:=of_decide_eq_false h41;refine wp_skip (hK13 _ _ ?_);clear hK13;refine cSeq (fun K16 hK16=>?_);refine cRegRO (by kernel_rfl) H ?_;replace H:=H.drew;refine Xt 0 rfl F rfl (fun w=>rMv F rfl) H qq0 (Xu 1 rfl rfl (fun a F w=>rMv F rfl) H qq0 (Xu 2 rfl rfl (fun a F w=>rMv F rfl) H qq0 (Xu 3 rfl rfl (fun a F w=>rMv F rfl) H qq0 ?_)));clear F a;intro a F
  refine Xv (k:=4) (i:=4) rfl F rfl (fun w=>YA F rfl rfl (Yp (j:=1) ?_ ?_)) H (fun _ _ _ h=>h) ?_
  focus omega
  focus omega
  clear F a;intro a F;refine Xt 5 rfl F rfl (fun w=>rMv F rfl) H qq0 (Xu 6 rfl rfl (fun a F w=>rMv F rfl) H qq0 ?_);clear F a;intro a F
  refine Xv (k:=7) (i:=7) rfl F rfl (fun w=>YA F rfl rfl (Yp (j:=1) ?_ ?_)) H (fun _ _ _ h=>h) ?_
  focus omega
  focus omega
  clear F a;intro a F
  refine Xv (k:=8) (i:=8) rfl F rfl (fun w=>rIx underlying23 sizeOf5 F rfl rfl ?_) H (fun _ _ _ h=>h) ?_
  focus (omega)
  clear F a;intro a F;refine Xw 9 rfl F rfl rfl (fun w H=>rLd isAgg5 F rfl (H.by' 0 rfl)) H qq0 (Xu 10 rfl rfl (fun a F w=>rMv F rfl) H qq0 (Xu 11 rfl rfl (fun a F w=>rMv F rfl) H qq0 ?_));clear F a;intro a F
  refine Xv (k:=12) (i:=12) rfl F rfl (fun w=>rIx underlying23 sizeOf5 F rfl rfl ?_) H (fun _ _ _ h=>h) ?_
  focus (omega)
  clear F a;intro a F;refine Xw 13 rfl F rfl rfl (fun w H=>rLd isAgg5 F rfl (H.by' 0 rfl)) H qq0 ?_;clear F a;intro a F
  refine Xv (k:=14) (i:=14) rfl F rfl (fun w=>rIx underlying23 sizeOf5 F rfl rfl ?_) H (fun _ _ _ h=>h) ?_
  focus (omega)
  clear F a;intro a F;refine Xx (k:=15) (i:=15) rfl (by kernel_rfl) F (Wa H 0 sizeOf5 F rfl rfl rfl (by omega) ?_);clear H;intro w H;refine XF (by kernel_rfl) H ?_
  refine Xv (k:=16) (i:=16) rfl F rfl (fun w=>rIx underlying23 sizeOf5 F rfl rfl ?_) H (fun _ _ _ h=>h) ?_
  focus (omega)
  clear F a;intro a F;refine Xx (k:=17) (i:=17) rfl (by kernel_rfl) F (Wa H 0 sizeOf5 F rfl rfl rfl (by omega) ?_);clear H;intro w H;refine XF (by kernel_rfl) H ?_;refine eNil (k:=18) (by kernel_rfl) ?_;refine hK16 _ _ ?_;clear hK16
  refine cSeqS [0,1,2,7,8] (fun ups w=>∃ (f:By),ups=[]∧Srt lo i f∧Sm lo up d f∧Own W row w (.byt g n c f :: rs)) F ?_ ?_
  ·
   refine cSR fun K17 hK17=>Xl F rfl (Xd rfl ?_);clear F a;intro a F
   refine Xm F rfl rfl (Yp ?_ ?_) ?_
   focus omega
   focus omega
   clear F a;intro a F;refine Xm F rfl rfl Jc (qNK hK17 ?_);clear hK17;clear F a;intro a F
   refine cIf F rfl (fun h61=>?_) (fun h61=>?_)
   ·
    replace h61:=of_decide_eq_true h61;refine cSR fun K18 hK18=>Xl F rfl ?_;clear F a;intro a F
    refine Xm F rfl rfl (Yp (j:=1) ?_ ?_) ?_
    focus omega
    focus omega
    clear F a;intro a F;refine Xa F rfl (qNK hK18 ?_);clear hK18;clear F a;intro a F;refine wp_block ?_
    refine cLoopS [0,1,2,7,8] (fun m ups w=>∃ (j:Nat) (f:By),m=j+1∧ups=[(9,.int .i64 ((j:Nat):Int))]∧Insd lo (i - 1) j f∧Sm lo up d f∧Own W row w (.byt g n c f :: rs)) F (i - 1+1) [(9,.int .i64 ((i - 1:Nat):Int))] ?_ ?_
    · have hs1:Srt lo (i - 1) (swp e i (i - 1)):=fun k h1 h2=>by
        unfold swp
        rw [if_neg (by omega),if_neg (by omega),if_neg (by omega),if_neg (by omega)]
        exact hsr k h1 (by omega)
      exact ⟨i - 1,_,rfl,rfl,Insd.start hs1 (by omega),hsm.trans (Sm.swap e (by omega) (by omega) (by omega) (by omega)),YU H⟩
    clear F
    clear H
    intro m ups a w hI F
    obtain ⟨j,f,rfl,rfl,hins,hsm3,H⟩:=hI;have hjl:=hins.lo;have hjh:=hins.hi
    refine cSeq (fun K19 hK19=>?_);refine cSR fun K20 hK20=>Xl F rfl (Xj rfl rfl Jc (qNK hK20 ?_));clear hK20;clear F a;intro a F
    refine cIf F rfl (fun h65=>?_) (fun h65=>?_)
    ·
     replace h65:=of_decide_eq_true h65;refine wp_skip (hK19 _ _ ?_);clear hK19;refine cSeq (fun K21 hK21=>?_);refine wp_block ?_;refine cSeq (fun K22 hK22=>?_);refine cSeq (fun K23 hK23=>?_);refine cRegRO (by kernel_rfl) H ?_;replace H:=H.drew;refine Xt 0 rfl F rfl (fun w=>rMv F rfl) H qq0 (Xu 1 rfl rfl (fun a F w=>rMv F rfl) H qq0 ?_);clear F a;intro a F
     refine Xv (k:=2) (i:=2) rfl F rfl (fun w=>rIx underlying23 sizeOf5 F rfl rfl ?_) H (fun _ _ _ h=>h) ?_
     focus (omega)
     clear F a;intro a F;refine Xw 3 rfl F rfl rfl (fun w H=>rLd isAgg5 F rfl (H.by' 0 rfl)) H qq0 (Xu 4 rfl rfl (fun a F w=>rMv F rfl) H qq0 (Xu 5 rfl rfl (fun a F w=>rMv F rfl) H qq0 ?_));clear F a;intro a F
     refine Xv (k:=6) (i:=6) rfl F rfl (fun w=>YA F rfl rfl (Yp (j:=1) ?_ ?_)) H (fun _ _ _ h=>h) ?_
     focus omega
     focus omega
     clear F a;intro a F
     refine Xv (k:=7) (i:=7) rfl F rfl (fun w=>rIx underlying23 sizeOf5 F rfl rfl ?_) H (fun _ _ _ h=>h) ?_
     focus (omega)
     clear F a;intro a F;refine Xw 8 rfl F rfl rfl (fun w H=>rLd isAgg5 F rfl (H.by' 0 rfl)) H qq0 ?_;clear F a;intro a F;refine Xx (k:=9) (i:=9) rfl (by kernel_rfl) F (XS call106 F rfl rfl (YE (f j) (f (j - 1)) _) ?_);rintro e w ⟨rfl,hb⟩;replace H:=H.grow hb;clear hb;refine ⟨_,rfl,?_⟩;clear F a;intro a F;refine XF (by kernel_rfl) H ?_;refine Xt 10 rfl F rfl (fun w=>NA F rfl) H qq0 ?_;clear F a;intro a F;refine eNil (k:=11) (by kernel_rfl) ?_;refine hK23 _ _ ?_;clear hK23
     refine cIf F rfl (fun h78=>?_) (fun h78=>?_)
     ·
      replace h78:=ZA h78;refine wp_exit ?_
      (have h78':¬ (f j).toNat < (f (j - 1)).toNat:=by simpa using h78
       have hd:=hins.done (.inr h78')
       rw [show i - 1+1=i by omega] at hd
       exact ⟨_,⟨f,rfl,hd,hsm3,H⟩,F.tt⟩)
     replace h78:=ZB h78;refine wp_skip (hK22 _ _ ?_);clear hK22;refine cRegRO (by kernel_rfl) H ?_;replace H:=H.drew;refine Xt 0 rfl F rfl (fun w=>rMv F rfl) H qq0 (Xu 1 rfl rfl (fun a F w=>rMv F rfl) H qq0 (Xu 2 rfl rfl (fun a F w=>rMv F rfl) H qq0 (Xu 3 rfl rfl (fun a F w=>rMv F rfl) H qq0 ?_)));clear F a;intro a F
     refine Xv (k:=4) (i:=4) rfl F rfl (fun w=>YA F rfl rfl (Yp (j:=1) ?_ ?_)) H (fun _ _ _ h=>h) ?_
     focus omega
     focus omega
     clear F a;intro a F;refine Xt 5 rfl F rfl (fun w=>rMv F rfl) H qq0 (Xu 6 rfl rfl (fun a F w=>rMv F rfl) H qq0 ?_);clear F a;intro a F
     refine Xv (k:=7) (i:=7) rfl F rfl (fun w=>YA F rfl rfl (Yp (j:=1) ?_ ?_)) H (fun _ _ _ h=>h) ?_
     focus omega
     focus omega
     clear F a;intro a F
     refine Xv (k:=8) (i:=8) rfl F rfl (fun w=>rIx underlying23 sizeOf5 F rfl rfl ?_) H (fun _ _ _ h=>h) ?_
     focus (omega)
     clear F a;intro a F;refine Xw 9 rfl F rfl rfl (fun w H=>rLd isAgg5 F rfl (H.by' 0 rfl)) H qq0 (Xu 10 rfl rfl (fun a F w=>rMv F rfl) H qq0 (Xu 11 rfl rfl (fun a F w=>rMv F rfl) H qq0 ?_));clear F a;intro a F
     refine Xv (k:=12) (i:=12) rfl F rfl (fun w=>rIx underlying23 sizeOf5 F rfl rfl ?_) H (fun _ _ _ h=>h) ?_
     focus (omega)
     clear F a;intro a F;refine Xw 13 rfl F rfl rfl (fun w H=>rLd isAgg5 F rfl (H.by' 0 rfl)) H qq0 ?_;clear F a;intro a F
     refine Xv (k:=14) (i:=14) rfl F rfl (fun w=>rIx underlying23 sizeOf5 F rfl rfl ?_) H (fun _ _ _ h=>h) ?_
     focus (omega)
     clear F a;intro a F;refine Xx (k:=15) (i:=15) rfl (by kernel_rfl) F (Wa H 0 sizeOf5 F rfl rfl rfl (by omega) ?_);clear H;intro w H;refine XF (by kernel_rfl) H ?_
     refine Xv (k:=16) (i:=16) rfl F rfl (fun w=>rIx underlying23 sizeOf5 F rfl rfl ?_) H (fun _ _ _ h=>h) ?_
     focus (omega)
     clear F a;intro a F;refine Xx (k:=17) (i:=17) rfl (by kernel_rfl) F (Wa H 0 sizeOf5 F rfl rfl rfl (by omega) ?_);clear H;intro w H;refine XF (by kernel_rfl) H ?_;refine eNil (k:=18) (by kernel_rfl) ?_;refine hK21 _ _ (cReg (Xl F rfl ?_));clear hK21;clear F a;intro a F
     refine Xm F rfl rfl (Yp (j:=1) ?_ ?_) ?_
     focus omega
     focus omega
     clear F a;intro a F;refine Xa F rfl ?_;clear F a;intro a F;refine sNil ?_
     have h78':(f j).toNat < (f (j - 1)).toNat:=by simpa using h78
     have hlj:lo < j:=by
       rcases Nat.lt_or_ge lo j with h | h
       · exact h
       · have hjo:j=lo:=by omega
         have:=hstop f hsm3 (by omega)
         rw [hjo] at h78'
         omega
     exact ⟨_,by omega,_,⟨j - 1,_,rfl,rfl,hins.step hlj h78',hsm3.trans (Sm.swap f (by omega) (by omega) (by omega) (by omega)),YU H⟩,F.tt⟩
    replace h65:=of_decide_eq_false h65;refine wp_exit ?_
    (have hd:=hins.done (.inl (by omega))
     rw [show i - 1+1=i by omega] at hd
     exact ⟨_,⟨f,rfl,hd,hsm3,H⟩,F.tt⟩)
   replace h61:=of_decide_eq_false h61;refine wp_skip ?_
   exact ⟨_,⟨_,rfl,Srt.small _ (by omega),hsm.trans (Sm.swap e (by omega) (by omega) (by omega) (by omega)),YU H⟩,F.tt⟩
  clear F H
  intro ups a w hI F
  obtain ⟨f,rfl,hsr4,hsm4,H⟩:=hI
  refine cSR fun K24 hK24=>Xl F rfl (Xd rfl ?_);clear F a;intro a F
  refine Xm F rfl rfl (Yp ?_ ?_) ?_
  focus omega
  focus omega
  clear F a;intro a F;refine Xm F rfl rfl Jc (qNK hK24 ?_);clear hK24;clear F a;intro a F
  refine cIf F rfl (fun h98=>?_) (fun h98=>?_)
  ·
   replace h98:=of_decide_eq_true h98;refine cSR fun K25 hK25=>Xl F rfl ?_;clear F a;intro a F
   refine Xm F rfl rfl (XJ (j:=1) ?_) ?_
   focus omega
   clear F a;intro a F;refine Xa F rfl (qNK hK25 ?_);clear hK25;clear F a;intro a F;refine wp_block ?_
   refine cLoopS [0,1,2,7,8] (fun m ups w=>∃ (j:Nat) (f:By),m=up - j∧ups=[(10,.int .i64 ((j:Nat):Int))]∧i+1≤j∧Srt lo i f∧Sm lo up d f∧Own W row w (.byt g n c f :: rs)) F (up - (i+1)) [(10,.int .i64 ((i+1:Nat):Int))] ?_ ?_
   · exact ⟨i+1,f,rfl,rfl,Nat.le_refl _,hsr4,hsm4,H⟩
   clear F
   clear H
   intro m ups a w hI F
   clear hsr4 hsm4;obtain ⟨j,f,rfl,rfl,hij,hsr4,hsm4,H⟩:=hI
   refine cSeq (fun K26 hK26=>?_);refine cSR fun K27 hK27=>Xl F rfl (Xd rfl (Xj rfl rfl YW (qNK hK27 ?_)));clear hK27;clear F a;intro a F
   refine cIf F rfl (fun h103=>?_) (fun h103=>?_)
   ·
    replace h103:=of_decide_eq_true h103;refine wp_skip (hK26 _ _ ?_);clear hK26;refine cSeq (fun K28 hK28=>?_);refine wp_block ?_;refine cSeq (fun K29 hK29=>?_);refine cSeq (fun K30 hK30=>?_);refine cRegRO (by kernel_rfl) H ?_;replace H:=H.drew;refine Xt 0 rfl F rfl (fun w=>rMv F rfl) H qq0 (Xu 1 rfl rfl (fun a F w=>rMv F rfl) H qq0 ?_);clear F a;intro a F
    refine Xv (k:=2) (i:=2) rfl F rfl (fun w=>rIx underlying23 sizeOf5 F rfl rfl ?_) H (fun _ _ _ h=>h) ?_
    focus (omega)
    clear F a;intro a F;refine Xw 3 rfl F rfl rfl (fun w H=>rLd isAgg5 F rfl (H.by' 0 rfl)) H qq0 (Xu 4 rfl rfl (fun a F w=>rMv F rfl) H qq0 (Xu 5 rfl rfl (fun a F w=>rMv F rfl) H qq0 ?_));clear F a;intro a F
    refine Xv (k:=6) (i:=6) rfl F rfl (fun w=>YA F rfl rfl (Yp (j:=1) ?_ ?_)) H (fun _ _ _ h=>h) ?_
    focus omega
    focus omega
    clear F a;intro a F
    refine Xv (k:=7) (i:=7) rfl F rfl (fun w=>rIx underlying23 sizeOf5 F rfl rfl ?_) H (fun _ _ _ h=>h) ?_
    focus (omega)
    clear F a;intro a F;refine Xw 8 rfl F rfl rfl (fun w H=>rLd isAgg5 F rfl (H.by' 0 rfl)) H qq0 ?_;clear F a;intro a F;refine Xx (k:=9) (i:=9) rfl (by kernel_rfl) F (XS call106 F rfl rfl (YE (f j) (f (j - 1)) _) ?_);rintro e w ⟨rfl,hb⟩;replace H:=H.grow hb;clear hb;refine ⟨_,rfl,?_⟩;clear F a;intro a F;refine XF (by kernel_rfl) H ?_;refine Xt 10 rfl F rfl (fun w=>NA F rfl) H qq0 ?_;clear F a;intro a F;refine eNil (k:=11) (by kernel_rfl) ?_;refine hK30 _ _ ?_;clear hK30
    refine cIf F rfl (fun h116=>?_) (fun h116=>?_)
    ·
     replace h116:=ZA h116;refine wp_exit ?_;refine hK7 _ _ (cReg (Xl F rfl ?_));clear hK7;clear F a;intro a F
     refine Xm F rfl rfl (XJ (j:=1) ?_) ?_
     focus omega
     clear F a;intro a F;refine Xa F rfl ?_;clear F a;intro a F;refine sNil ?_
     exact ⟨_,by omega,_,⟨i,q+1,f,rfl,rfl,hli,hiu,hsr4,hsm4,H⟩,F.tt⟩
    replace h116:=ZB h116;refine wp_skip (hK29 _ _ ?_);clear hK29;refine cRegRO (by kernel_rfl) H ?_;replace H:=H.drew;refine Xt 0 rfl F rfl (fun w=>rMv F rfl) H qq0 (Xu 1 rfl rfl (fun a F w=>rMv F rfl) H qq0 (Xu 2 rfl rfl (fun a F w=>rMv F rfl) H qq0 (Xu 3 rfl rfl (fun a F w=>rMv F rfl) H qq0 ?_)));clear F a;intro a F
    refine Xv (k:=4) (i:=4) rfl F rfl (fun w=>YA F rfl rfl (Yp (j:=1) ?_ ?_)) H (fun _ _ _ h=>h) ?_
    focus omega
    focus omega
    clear F a;intro a F;refine Xt 5 rfl F rfl (fun w=>rMv F rfl) H qq0 (Xu 6 rfl rfl (fun a F w=>rMv F rfl) H qq0 ?_);clear F a;intro a F
    refine Xv (k:=7) (i:=7) rfl F rfl (fun w=>YA F rfl rfl (Yp (j:=1) ?_ ?_)) H (fun _ _ _ h=>h) ?_
    focus omega
    focus omega
    clear F a;intro a F
    refine Xv (k:=8) (i:=8) rfl F rfl (fun w=>rIx underlying23 sizeOf5 F rfl rfl ?_) H (fun _ _ _ h=>h) ?_
    focus (omega)
    clear F a;intro a F;refine Xw 9 rfl F rfl rfl (fun w H=>rLd isAgg5 F rfl (H.by' 0 rfl)) H qq0 (Xu 10 rfl rfl (fun a F w=>rMv F rfl) H qq0 (Xu 11 rfl rfl (fun a F w=>rMv F rfl) H qq0 ?_));clear F a;intro a F
    refine Xv (k:=12) (i:=12) rfl F rfl (fun w=>rIx underlying23 sizeOf5 F rfl rfl ?_) H (fun _ _ _ h=>h) ?_
    focus (omega)
    clear F a;intro a F;refine Xw 13 rfl F rfl rfl (fun w H=>rLd isAgg5 F rfl (H.by' 0 rfl)) H qq0 ?_;clear F a;intro a F
    refine Xv (k:=14) (i:=14) rfl F rfl (fun w=>rIx underlying23 sizeOf5 F rfl rfl ?_) H (fun _ _ _ h=>h) ?_
    focus (omega)
    clear F a;intro a F;refine Xx (k:=15) (i:=15) rfl (by kernel_rfl) F (Wa H 0 sizeOf5 F rfl rfl rfl (by omega) ?_);clear H;intro w H;refine XF (by kernel_rfl) H ?_
    refine Xv (k:=16) (i:=16) rfl F rfl (fun w=>rIx underlying23 sizeOf5 F rfl rfl ?_) H (fun _ _ _ h=>h) ?_
    focus (omega)
    clear F a;intro a F;refine Xx (k:=17) (i:=17) rfl (by kernel_rfl) F (Wa H 0 sizeOf5 F rfl rfl rfl (by omega) ?_);clear H;intro w H;refine XF (by kernel_rfl) H ?_;refine eNil (k:=18) (by kernel_rfl) ?_;refine hK28 _ _ (cReg (Xl F rfl ?_));clear hK28;clear F a;intro a F
    refine Xm F rfl rfl (XJ (j:=1) ?_) ?_
    focus omega
    clear F a;intro a F;refine Xa F rfl ?_;clear F a;intro a F;refine sNil ?_
    exact ⟨_,by omega,_,⟨j+1,_,rfl,rfl,by omega,hsr4.out (Sm.swap f (a:=i) (b:=up) (by omega) (by omega) (by omega) (by omega)) (.inl (Nat.le_refl _)),hsm4.trans (Sm.swap f (by omega) (by omega) (by omega) (by omega)),YU H⟩,F.tt⟩
   replace h103:=of_decide_eq_false h103;refine wp_exit ?_;refine hK7 _ _ (cReg (Xl F rfl ?_));clear hK7;clear F a;intro a F
   refine Xm F rfl rfl (XJ (j:=1) ?_) ?_
   focus omega
   clear F a;intro a F;refine Xa F rfl ?_;clear F a;intro a F;refine sNil ?_
   exact ⟨_,by omega,_,⟨i,q+1,f,rfl,rfl,hli,hiu,hsr4,hsm4,H⟩,F.tt⟩
  replace h98:=of_decide_eq_false h98;refine wp_skip (hK7 _ _ (cReg (Xl F rfl ?_)));clear hK7;clear F a;intro a F
  refine Xm F rfl rfl (XJ (j:=1) ?_) ?_
  focus omega
  clear F a;intro a F;refine Xa F rfl ?_;clear F a;intro a F;refine sNil ?_
  exact ⟨_,by omega,_,⟨i,q+1,f,rfl,rfl,hli,hiu,hsr4,hsm4,H⟩,F.tt⟩
 replace h14:=of_decide_eq_false h14;refine wp_exit ?_;refine hK3 _ _ (cSR fun K31 hK31=>Xa F rfl (qNK hK31 ?_));clear hK3 hK31;clear F a;intro a F;refine wp_ret ?_;refine bRet results105 F rfl ?_
 exact ⟨false,e,rfl,hsm,fun h=>(by cases h),H⟩
end Go.Proofs.YtagnefpgidbhnaaGreatDoor
