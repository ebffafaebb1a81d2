/-
  WALK2. Package path: what executes an instruction. Conditions: the run lies in a block of the caller's; the instruction is within the bounds stated.
-/
import Derived.Test.YtagnefpgidbhnaaGreatDoorJn6
import Derived.Test.YtagnefpgidbhnaaGreatDoorJn1
set_option linter.unusedSimpArgs false
set_option linter.unusedVariables false
namespace Go.Proofs.YtagnefpgidbhnaaGreatDoor
-- PaB
open Go.Proofs.Tryz
open Go.RowKit
set_option maxRecDepth 100000
structure InR (x:Ins):Prop where
 d:x.dst.toNat < 8
 a:x.aR=true→x.aN.toNat < 8
 b:x.bR=true→x.bN.toNat < 8
structure SetsOk (r:RunP):Prop where
 deps:∀ d,d < 8→r.deps d < 4294967296
 control:r.control < 4294967296
 data:∀ k,r.data k < 4294967296
 ctrl:∀ k,r.ctrl k < 4294967296
 att:∀ k,r.att k < 4294967296
theorem SetsOk.arg {r:RunP} (h:SetsOk r) (isR:Bool) {n:UInt8} (hn:isR=true→n.toNat < 8):XY isR n r < 4294967296:=by
 unfold XY
 split
 · exact h.deps _ (hn (by assumption))
 · decide
theorem UT {k:Nat} (h:k < 24):Y3 k < 4294967296:=by
 have:2 ^ k < 2 ^ 32:=Nat.pow_lt_pow_right (by decide) (by omega)
 exact this
theorem GA {a b:Nat} (ha:a < 4294967296) (hb:b < 4294967296):a ||| b < 4294967296:=Nat.or_lt_two_pow (n:=32) ha hb
theorem CD (b:Nat) (r:RunP) (x:Ins) (v:UInt8) (w0:World) (hB:Wm w0 b r) (hx:InR x) (hm:r.many < 24) (hpc:r.pc < 256) :
   Calls Tryz.prog 47 #[.pointer (some ⟨b,0,none⟩),.agg x.cells.toArray,Go.Proofs.YtagnefpgidbhnaaGreatDoor.b8 v] w0 fun e w'=>e = .returned (.tuple #[])∧Own w0 (some b) w' [.blk b (QU x v r).cells 71]:=by
 have H:=Own.startRow hB
 refine XE func47 rfl ntmps47 rfl (fun a F=>?_);refine cSR fun K1 hK1=>?_;refine sBx H F rfl rfl rfl ?_;clear F a H;intro b4 a w F H;refine nK hK1 (cSR fun K2 hK2=>Xl F rfl (Xb (f:=2) (k:=2) underlying61 rfl sizeOf5 rfl rfl rfl (Xc isAgg5 rfl (H.cell 0 rfl rfl) (Xd rfl (Xb (f:=6) (k:=8) underlying61 rfl sizeOf5 rfl rfl rfl (Xc isAgg5 rfl (H.cell 0 rfl rfl) ?_))))));clear hK1;clear F a;intro a F;refine Xn call96 F rfl (Vc b r 1 x.loc v x.mode 0 _ (H.blk 1 rfl) hm hpc) ?_;rintro e w ⟨rfl,H2⟩
 replace H:=H.turned 1 rfl H2;clear H2
 refine ⟨_,rfl,?_⟩;clear F a;intro a F;refine Xa F rfl (qNK hK2 ?_);clear hK2;clear F a;intro a F;refine cRegRO (by kernel_rfl) H ?_;replace H:=H.drew;refine Xt 0 rfl F rfl (fun w=>rMv F rfl) H qq0 (Xu 1 rfl rfl (fun a F w=>rFa (f:=1) (k:=1) underlying61 rfl sizeOf5 rfl rfl F rfl) H qq0 (Xz 2 rfl rfl rfl (fun a F w H=>rLd isAgg5 F rfl (H.cell 0 rfl rfl)) H qq0 (Xu 3 rfl rfl (fun a F w=>rMv F rfl) H qq0 (Xu 4 rfl rfl (fun a F w=>rMv F rfl) H qq0 ?_))));clear F a;intro a F
 refine Xv (k:=5) (i:=5) rfl F rfl (fun w=>YA F rfl rfl (Xaf ?_)) H (fun _ _ _ h=>h) ?_
 focus omega
 clear F a;intro a F;refine Xx (k:=6) (i:=6) rfl (by kernel_rfl) F (XS call97 F rfl rfl (W4 b (Yy 1 x.loc v x.mode 0 r) x.dst v (Y3 r.many) _ (H.blk 1 rfl) hx.d) ?_);rintro e w ⟨rfl,H2⟩
 replace H:=H.turned 1 rfl H2;clear H2
 refine ⟨_,rfl,?_⟩;clear F a;intro a F;refine XF (by kernel_rfl) H ?_;refine eNil (k:=7) (by kernel_rfl) ?_;refine bEnd results47 F ?_
 exact ⟨rfl,H.sel [1] rfl rfl⟩
theorem D3 (b:Nat) (r:RunP) (x:Ins) (v:UInt8) (w0:World) (hB:Wm w0 b r) (hm:r.many < 24) (hpc:r.pc < 256) :
   Calls Tryz.prog 53 #[.pointer (some ⟨b,0,none⟩),.agg x.cells.toArray,Go.Proofs.YtagnefpgidbhnaaGreatDoor.b8 v] w0 fun e w'=>e = .returned (.tuple #[])∧Own w0 (some b) w' [.blk b (GJ x r).cells 71]:=by
 have H:=Own.startRow hB
 refine XE func53 rfl ntmps53 rfl (fun a F=>?_);refine cSR fun K1 hK1=>?_;refine sBx H F rfl rfl rfl ?_;clear F a H;intro b4 a w F H;refine nK hK1 (cReg (Xl F rfl (Xb (f:=6) (k:=8) underlying61 rfl sizeOf5 rfl rfl rfl (Xc isAgg5 rfl (H.cell 0 rfl rfl) ?_))));clear hK1;clear F a;intro a F;refine Xn call96 F rfl (Vc b r 3 0 0 x.mode 0 _ (H.blk 1 rfl) hm hpc) ?_;rintro e w ⟨rfl,H2⟩
 replace H:=H.turned 1 rfl H2;clear H2
 refine ⟨_,rfl,?_⟩;clear F a;intro a F;refine sNil ?_;refine bEnd results53 F ?_
 exact ⟨rfl,H.sel [1] rfl rfl⟩
theorem EM (b:Nat) (r:RunP) (x:Ins) (v:UInt8) (w0:World) (hB:Wm w0 b r) (hx:InR x) (hm:r.many < 24) (hpc:r.pc < 256) :
   Calls Tryz.prog 48 #[.pointer (some ⟨b,0,none⟩),.agg x.cells.toArray,Go.Proofs.YtagnefpgidbhnaaGreatDoor.b8 v] w0 fun e w'=>e = .returned (.tuple #[])∧Own w0 (some b) w' [.blk b (Ge x r).cells 71]:=by
 have H:=Own.startRow hB
 refine XE func48 rfl ntmps48 rfl (fun a F=>?_);refine cSR fun K1 hK1=>?_;refine sBx H F rfl rfl rfl ?_;clear F a H;intro b4 a w F H;refine nK hK1 (cSR fun K2 hK2=>Xl F rfl (Xb (f:=3) (k:=3) underlying61 rfl sizeOf59 rfl rfl rfl ?_));clear hK1;clear F a;intro a F
 refine Xo underlying59 rfl ?si F rfl (H.range 0 rfl _ 2) ?_
 case si=>exact XC sizeOf59
 clear F a;intro a F;refine Xn call98 F rfl (Zg b r x.aR x.aN _ (H.blk 1 rfl) hx.a) (gG H ?_);clear F a H;intro a w F H;refine Xl F rfl (XB rfl rfl (XB rfl rfl (Xh rfl (Xh rfl (qNK hK2 (WN (Xd rfl (Xb (f:=2) (k:=2) underlying61 rfl sizeOf5 rfl rfl rfl (Xc isAgg5 rfl (H.cell 0 rfl rfl) (Xd rfl (Xb (f:=6) (k:=8) underlying61 rfl sizeOf5 rfl rfl rfl (Xc isAgg5 rfl (H.cell 0 rfl rfl) (Xd rfl ?_)))))))))))));clear hK2;clear F a;intro a F;refine Xn call96 F rfl (Vc b r 2 x.loc (Yc x.aR x.aN r) x.mode (XY x.aR x.aN r) _ (H.blk 1 rfl) hm hpc) ?_;rintro e w ⟨rfl,H2⟩
 replace H:=H.turned 1 rfl H2;clear H2
 refine ⟨_,rfl,?_⟩;clear F a;intro a F;refine sNil ?_;refine bEnd results48 F ?_
 exact ⟨rfl,H.sel [1] rfl rfl⟩
theorem Dy (b:Nat) (r:RunP) (x:Ins) (v:UInt8) (w0:World) (hB:Wm w0 b r) (hx:InR x) (hs:SetsOk r) :
   Calls Tryz.prog 49 #[.pointer (some ⟨b,0,none⟩),.agg x.cells.toArray,Go.Proofs.YtagnefpgidbhnaaGreatDoor.b8 v] w0 fun e w'=>e = .returned (.tuple #[])∧Own w0 (some b) w' [.blk b (Z2 x r).cells 71]:=by
 have H:=Own.startRow hB
 refine XE func49 rfl ntmps49 rfl (fun a F=>?_);refine cSR fun K1 hK1=>?_;refine sBx H F rfl rfl rfl ?_;clear F a H;intro b4 a w F H;refine nK hK1 (cSR fun K2 hK2=>Xl F rfl (Xb (f:=3) (k:=3) underlying61 rfl sizeOf59 rfl rfl rfl ?_));clear hK1;clear F a;intro a F
 refine Xo underlying59 rfl ?si F rfl (H.range 0 rfl _ 2) ?_
 case si=>exact XC sizeOf59
 clear F a;intro a F;refine Xn call98 F rfl (Zg b r x.aR x.aN _ (H.blk 1 rfl) hx.a) (gG H ?_);clear F a H;intro a w F H;refine Xl F rfl (XB rfl rfl (XB rfl rfl (Xh rfl (Xh rfl (qNK hK2 (qSR fun K3 hK3=>Xd rfl (Xb (f:=4) (k:=5) underlying61 rfl sizeOf59 rfl rfl rfl ?_)))))));clear hK2;clear F a;intro a F
 refine Xo underlying59 rfl ?si F rfl (H.range 0 rfl _ 2) ?_
 case si=>exact XC sizeOf59
 clear F a;intro a F;refine Xn call98 F rfl (Zg b r x.bR x.bN _ (H.blk 1 rfl) hx.b) (gG H ?_);clear F a H;intro a w F H;refine Xl F rfl (XB rfl rfl (XB rfl rfl (Xh rfl (Xh rfl (qNK hK3 ?_)))));clear hK3;clear F a;intro a F;refine cSeq (fun K4 hK4=>?_);refine cSR fun K5 hK5=>Xi (f:=5) (k:=7) underlying61 rfl sizeOf5 rfl rfl F rfl (Xc isAgg5 rfl (H.cell 0 rfl rfl) (qNK hK5 ?_));clear hK5;clear F a;intro a F;refine wp_block ?_;refine cSR fun K6 hK6=>Xm F rfl rfl (XZ (y:=1)) (Xh rfl (qNK hK6 ?_));clear hK6;clear F a;intro a F
 refine cIf F rfl (fun h29=>?_) (fun h29=>?_)
 ·
  replace h29:=Yh h29;refine cReg (Xl F rfl (Xd rfl (Xj rfl rfl (Xag) (Xh rfl (qNK hK4 (WN (Xd rfl (Xb (f:=1) (k:=1) underlying61 rfl sizeOf5 rfl rfl rfl (Xc isAgg5 rfl (H.cell 0 rfl rfl) (Xd rfl (Xd rfl (Xd rfl ?_))))))))))));clear hK4;clear F a;intro a F
  refine Xm F rfl rfl (Nu ?_ ?_) ?_
  focus (exact hs.arg x.aR hx.a)
  focus (exact hs.arg x.bR hx.b)
  clear F a;intro a F;refine Xn call97 F rfl (W4 b r x.dst _ (XY x.aR x.aN r ||| XY x.bR x.bN r) _ (H.blk 1 rfl) hx.d) ?_;rintro e w ⟨rfl,H2⟩
  replace H:=H.turned 1 rfl H2;clear H2
  refine ⟨_,rfl,?_⟩;clear F a;intro a F;refine sNil ?_;refine bEnd results49 F ?_
  (have e:x.fn=1:=h29
   refine ⟨rfl,?_⟩
   unfold Z2 Xbm
   rw [if_pos e]
   exact H.sel [1] rfl rfl)
 replace h29:=Yi h29;refine cSR fun K7 hK7=>Xm F rfl rfl (XZ (y:=2)) (Xh rfl (qNK hK7 ?_));clear hK7;clear F a;intro a F
 refine cIf F rfl (fun h34=>?_) (fun h34=>?_)
 ·
  replace h34:=Yh h34;refine cReg (Xl F rfl (Xd rfl (Xj rfl rfl (XcV) (Xh rfl (qNK hK4 (WN (Xd rfl (Xb (f:=1) (k:=1) underlying61 rfl sizeOf5 rfl rfl rfl (Xc isAgg5 rfl (H.cell 0 rfl rfl) (Xd rfl (Xd rfl (Xd rfl ?_))))))))))));clear hK4;clear F a;intro a F
  refine Xm F rfl rfl (Nu ?_ ?_) ?_
  focus (exact hs.arg x.aR hx.a)
  focus (exact hs.arg x.bR hx.b)
  clear F a;intro a F;refine Xn call97 F rfl (W4 b r x.dst _ (XY x.aR x.aN r ||| XY x.bR x.bN r) _ (H.blk 1 rfl) hx.d) ?_;rintro e w ⟨rfl,H2⟩
  replace H:=H.turned 1 rfl H2;clear H2
  refine ⟨_,rfl,?_⟩;clear F a;intro a F;refine sNil ?_;refine bEnd results49 F ?_
  (have e:¬ x.fn=1:=h29
   have e2:x.fn=2:=h34
   refine ⟨rfl,?_⟩
   unfold Z2 Xbm
   rw [if_neg e,if_pos e2]
   exact H.sel [1] rfl rfl)
 replace h34:=Yi h34;refine cReg (Xl F rfl (Xd rfl (Xj rfl rfl (XcU) (Xh rfl (qNK hK4 (WN (Xd rfl (Xb (f:=1) (k:=1) underlying61 rfl sizeOf5 rfl rfl rfl (Xc isAgg5 rfl (H.cell 0 rfl rfl) (Xd rfl (Xd rfl (Xd rfl ?_))))))))))));clear hK4;clear F a;intro a F
 refine Xm F rfl rfl (Nu ?_ ?_) ?_
 focus (exact hs.arg x.aR hx.a)
 focus (exact hs.arg x.bR hx.b)
 clear F a;intro a F;refine Xn call97 F rfl (W4 b r x.dst _ (XY x.aR x.aN r ||| XY x.bR x.bN r) _ (H.blk 1 rfl) hx.d) ?_;rintro e w ⟨rfl,H2⟩
 replace H:=H.turned 1 rfl H2;clear H2
 refine ⟨_,rfl,?_⟩;clear F a;intro a F;refine sNil ?_;refine bEnd results49 F ?_
 (have e:¬ x.fn=1:=h29
  have e2:¬ x.fn=2:=h34
  refine ⟨rfl,?_⟩
  unfold Z2 Xbm
  rw [if_neg e,if_neg e2]
  exact H.sel [1] rfl rfl)
theorem Qg (b:Nat) (r:RunP) (x:Ins) (old val:UInt8) (n:Nat) (w0:World) (hB:Wm w0 b r) (hx:InR x) (hm:r.many+1 < 24) (hpc:r.pc < 256) :
   Calls Tryz.prog 99 #[.pointer (some ⟨b,0,none⟩),.agg x.cells.toArray,Go.Proofs.YtagnefpgidbhnaaGreatDoor.b8 old,Go.Proofs.YtagnefpgidbhnaaGreatDoor.b8 val,u32 n] w0 fun e w'=>e = .returned (.int .i64 ((r.many+1:Nat):Int))∧Own w0 (some b) w' [.blk b (Zu x old val n r).cells 71]:=by
 have H:=Own.startRow hB
 refine XE func99 rfl ntmps99 rfl (fun a F=>?_);refine cSR fun K1 hK1=>?_;refine sBx H F rfl rfl rfl ?_;clear F a H;intro b6 a w F H;refine Xa F rfl (qNK hK1 (qSR fun K2 hK2=>Xd rfl (Xb (f:=2) (k:=2) underlying61 rfl sizeOf5 rfl rfl rfl (Xc isAgg5 rfl (H.cell 0 rfl rfl) (Xd rfl ?_)))));clear hK1;clear F a;intro a F;refine Xn call96 F rfl (Vc b r 1 x.loc old 3 0 _ (H.blk 1 rfl) (by omega) hpc) ?_;rintro e w ⟨rfl,H2⟩
 replace H:=H.turned 1 rfl H2;clear H2
 refine ⟨_,rfl,?_⟩;clear F a;intro a F;refine Xa F rfl (qNK hK2 (qSR fun K3 hK3=>Xd rfl (Xb (f:=2) (k:=2) underlying61 rfl sizeOf5 rfl rfl rfl (Xc isAgg5 rfl (H.cell 0 rfl rfl) (Xd rfl (Xd rfl ?_))))));clear hK2;clear F a;intro a F;refine Xn call96 F rfl ((show Calls _ _ _ _ (fun e w'=>e = .returned (.int .i64 ((r.many+1:Nat):Int))∧_) from Vc b (Yy 1 x.loc old 3 0 r) 2 x.loc val 3 n _ (H.blk 1 rfl) hm hpc)) ?_;rintro e w ⟨rfl,H2⟩
 replace H:=H.turned 1 rfl H2;clear H2
 refine ⟨_,rfl,?_⟩;clear F a;intro a F;refine Xa F rfl (qNK hK3 ?_);clear hK3;clear F a;intro a F;refine cSeq (fun K4 hK4=>?_);refine cRegRO (by kernel_rfl) H ?_;replace H:=H.drew;refine Xt 0 rfl F rfl (fun w=>rMv F rfl) H qq0 (Xu 1 rfl rfl (fun a F w=>rMv F rfl) H qq0 (Xu 2 rfl rfl (fun a F w=>rMv F rfl) H qq0 ?_));clear F a;intro a F
 refine Xv (k:=3) (i:=3) rfl F rfl (fun w=>YA F rfl rfl (Xaf ?_)) H (fun _ _ _ h=>h) ?_
 focus omega
 clear F a;intro a F;refine Xw 4 rfl F rfl rfl (fun w H=>rNc F rfl) H qq0 (Xu 5 rfl rfl (fun a F w=>rFa (f:=8) (k:=235) underlying71 rfl sizeOf69 rfl rfl F rfl) H qq0 ?_);clear F a;intro a F
 refine Xv (k:=6) (i:=6) rfl F rfl (fun w=>Dh underlying69 sizeOf66 F rfl rfl ?_) H (fun _ _ _ h=>h) ?_
 focus (omega)
 clear F a;intro a F;refine Xx (k:=7) (i:=7) rfl (by kernel_rfl) F (oSt H 1 sizeOf66 F rfl rfl rfl rfl (U6 _ hm) ?_);clear H;intro w H;rw [show Value.int .u32 ((2 ^ r.many:Nat):Int)=u32 (Y3 r.many) from rfl,Xa1 _ hm] at H;refine XF (by kernel_rfl) H ?_;refine eNil (k:=8) (by kernel_rfl) ?_;refine hK4 _ _ ?_;clear hK4;refine cSeq (fun K5 hK5=>?_);refine cRegRO (by kernel_rfl) H ?_;replace H:=H.drew;refine Xt 0 rfl F rfl (fun w=>rMv F rfl) H qq0 (Xu 1 rfl rfl (fun a F w=>rFa (f:=1) (k:=1) underlying61 rfl sizeOf5 rfl rfl F rfl) H qq0 (Xz 2 rfl rfl rfl (fun a F w H=>rLd isAgg5 F rfl (H.cell 0 rfl rfl)) H qq0 (Xu 3 rfl rfl (fun a F w=>rMv F rfl) H qq0 (Xu 4 rfl rfl (fun a F w=>rMv F rfl) H qq0 ?_))));clear F a;intro a F
 refine Xv (k:=5) (i:=5) rfl F rfl (fun w=>YA F rfl rfl (Xaf ?_)) H (fun _ _ _ h=>h) ?_
 focus omega
 clear F a;intro a F;refine Xx (k:=6) (i:=6) rfl (by kernel_rfl) F (XS call97 F rfl rfl (W4 b _ x.dst old (Y3 r.many) _ (H.blk 1 rfl) hx.d) ?_);rintro e w ⟨rfl,H2⟩
 replace H:=H.turned 1 rfl H2;clear H2
 refine ⟨_,rfl,?_⟩;clear F a;intro a F;refine XF (by kernel_rfl) H ?_;refine eNil (k:=7) (by kernel_rfl) ?_;refine hK5 _ _ (cSR fun K6 hK6=>Xl F rfl (Xh rfl (qNK hK6 ?_)));clear hK5 hK6;clear F a;intro a F;refine wp_ret ?_;refine bRet results99 F rfl ?_
 exact ⟨rfl,H.sel [1] rfl rfl⟩
theorem BX (b:Nat) (r:RunP) (x:Ins) (v:UInt8) (w0:World) (hB:Wm w0 b r) (hx:InR x) (hm:r.many+1 < 24) (hpc:r.pc < 256) :
   Calls Tryz.prog 50 #[.pointer (some ⟨b,0,none⟩),.agg x.cells.toArray,Go.Proofs.YtagnefpgidbhnaaGreatDoor.b8 v] w0 fun e w'=>e = .returned (.tuple #[])∧Own w0 (some b) w' [.blk b (NP x v r).cells 71]:=by
 have H:=Own.startRow hB
 refine XE func50 rfl ntmps50 rfl (fun a F=>?_);refine cSR fun K1 hK1=>?_;refine sBx H F rfl rfl rfl ?_;clear F a H;intro b4 a w F H;refine nK hK1 (cSR fun K2 hK2=>Xl F rfl (Xb (f:=3) (k:=3) underlying61 rfl sizeOf59 rfl rfl rfl ?_));clear hK1;clear F a;intro a F
 refine Xo underlying59 rfl ?si F rfl (H.range 0 rfl _ 2) ?_
 case si=>exact XC sizeOf59
 clear F a;intro a F;refine Xn call98 F rfl (Zg b r x.aR x.aN _ (H.blk 1 rfl) hx.a) (gG H ?_);clear F a H;intro a w F H;refine Xl F rfl (XB rfl rfl (XB rfl rfl (Xh rfl (Xh rfl (qNK hK2 (WN (Xd rfl ?_)))))));clear hK2;clear F a;intro a F
 refine Xo underlying61 rfl ?si F rfl (H.whole 0 rfl) ?_
 case si=>exact XC sizeOf61
 clear F a;intro a F;refine Xl F rfl (Xd rfl (Xd rfl ?_));clear F a;intro a F;refine Xn call99 F rfl (Qg b r x v (Yc x.aR x.aN r) (XY x.aR x.aN r) _ (H.blk 1 rfl) hx hm hpc) ?_;rintro e w ⟨rfl,H2⟩
 replace H:=H.turned 1 rfl H2;clear H2
 refine ⟨_,rfl,?_⟩;clear F a;intro a F;refine sNil ?_;refine bEnd results50 F ?_
 exact ⟨rfl,H.sel [1] rfl rfl⟩
theorem Q5 (x:Ins) (old val:UInt8) (n:Nat) (r:RunP) {k:Nat} (hs:SetsOk r) (hn:n < 4294967296) (hm:r.many+1 < 24):(Zu x old val n r).data k < 4294967296∧(Zu x old val n r).att k < 4294967296∧(Zu x old val n r).ctrl k < 4294967296:=by
 have hb:=UT (k:=r.many) (by omega)
 refine ⟨?_,?_,?_⟩
 · show YO (YO r.data r.many 0) (r.many+1) n k < _
   unfold YO
   split
   · exact hn
   · split
     · decide
     · exact hs.data k
 · show YO r.att (r.many+1) (Y3 r.many) k < _
   unfold YO
   split
   · exact hb
   · exact hs.att k
 · show YO (YO r.ctrl r.many r.control) (r.many+1) r.control k < _
   unfold YO
   split
   · exact hs.control
   · split
     · exact hs.control
     · exact hs.ctrl k
theorem D2 (b:Nat) (r:RunP) (x:Ins) (v:UInt8) (w0:World) (hB:Wm w0 b r) (hx:InR x) (hs:SetsOk r) (hm:r.many+1 < 24) (hpc:r.pc < 256) :
   Calls Tryz.prog 51 #[.pointer (some ⟨b,0,none⟩),.agg x.cells.toArray,Go.Proofs.YtagnefpgidbhnaaGreatDoor.b8 v] w0 fun e w'=>e = .returned (.tuple #[])∧Own w0 (some b) w' [.blk b (Vo x v r).cells 71]:=by
 have H:=Own.startRow hB
 have hd:=Q5 x v (v+Yc x.aR x.aN r) (XY x.aR x.aN r) r (k:=r.many+1) hs (hs.arg _ hx.a) hm
 refine XE func51 rfl ntmps51 rfl (fun a F=>?_);refine cSR fun K1 hK1=>?_;refine sBx H F rfl rfl rfl ?_;clear F a H;intro b4 a w F H;refine nK hK1 (cSR fun K2 hK2=>Xl F rfl (Xb (f:=3) (k:=3) underlying61 rfl sizeOf59 rfl rfl rfl ?_));clear hK1;clear F a;intro a F
 refine Xo underlying59 rfl ?si F rfl (H.range 0 rfl _ 2) ?_
 case si=>exact XC sizeOf59
 clear F a;intro a F;refine Xn call98 F rfl (Zg b r x.aR x.aN _ (H.blk 1 rfl) hx.a) (gG H ?_);clear F a H;intro a w F H;refine Xl F rfl (XB rfl rfl (XB rfl rfl (Xh rfl (Xh rfl (qNK hK2 (qSR fun K3 hK3=>Xd rfl ?_))))));clear hK2;clear F a;intro a F
 refine Xo underlying61 rfl ?si F rfl (H.whole 0 rfl) ?_
 case si=>exact XC sizeOf61
 clear F a;intro a F;refine Xl F rfl (Xd rfl (Xd rfl (Xj rfl rfl (Xag) (Xd rfl ?_))));clear F a;intro a F;refine Xn call99 F rfl (Qg b r x v (v+Yc x.aR x.aN r) (XY x.aR x.aN r) _ (H.blk 1 rfl) hx hm hpc) ?_;rintro e w ⟨rfl,H2⟩
 replace H:=H.turned 1 rfl H2;clear H2
 refine ⟨_,rfl,?_⟩;clear F a;intro a F;refine Xa F rfl (qNK hK3 ?_);clear hK3;clear F a;intro a F;refine cRegRO (by kernel_rfl) H ?_;replace H:=H.drew;refine Xt 0 rfl F rfl (fun w=>rMv F rfl) H qq0 (Xu 1 rfl rfl (fun a F w=>rMv F rfl) H qq0 (Xz 2 rfl rfl rfl (fun a F w H=>rNc F rfl) H qq0 (Xu 3 rfl rfl (fun a F w=>rFa (f:=6) (k:=187) underlying71 rfl sizeOf69 rfl rfl F rfl) H qq0 ?_)));clear F a;intro a F
 refine Xv (k:=4) (i:=4) rfl F rfl (fun w=>Dh underlying69 sizeOf66 F rfl rfl ?_) H (fun _ _ _ h=>h) ?_
 focus (omega)
 clear F a;intro a F;refine Xw 5 rfl F rfl rfl (fun w H=>rLd isAgg66 F rfl (H.cell 1 rfl (Uc _ hm))) H qq0 (Xu 6 rfl rfl (fun a F w=>rMv F rfl) H qq0 (Xu 7 rfl rfl (fun a F w=>rMv F rfl) H qq0 (Xz 8 rfl rfl rfl (fun a F w H=>rNc F rfl) H qq0 (Xu 9 rfl rfl (fun a F w=>rFa (f:=8) (k:=235) underlying71 rfl sizeOf69 rfl rfl F rfl) H qq0 ?_))));clear F a;intro a F
 refine Xv (k:=10) (i:=10) rfl F rfl (fun w=>Dh underlying69 sizeOf66 F rfl rfl ?_) H (fun _ _ _ h=>h) ?_
 focus (omega)
 clear F a;intro a F;refine Xw 11 rfl F rfl rfl (fun w H=>rLd isAgg66 F rfl (H.cell 1 rfl (U6 _ hm))) H qq0 ?_;clear F a;intro a F
 refine Xv (k:=12) (i:=12) rfl F rfl (fun w=>YA F rfl rfl (Nu ?_ ?_)) H (fun _ _ _ h=>h) ?_
 focus (exact hd.1)
 focus (exact hd.2.1)
 clear F a;intro a F;refine Xw 13 rfl F rfl rfl (fun w H=>rNc F rfl) H qq0 (Xu 14 rfl rfl (fun a F w=>rFa (f:=6) (k:=187) underlying71 rfl sizeOf69 rfl rfl F rfl) H qq0 ?_);clear F a;intro a F
 refine Xv (k:=15) (i:=15) rfl F rfl (fun w=>Dh underlying69 sizeOf66 F rfl rfl ?_) H (fun _ _ _ h=>h) ?_
 focus (omega)
 clear F a;intro a F;refine Xx (k:=16) (i:=16) rfl (by kernel_rfl) F (oSt H 1 sizeOf66 F rfl rfl rfl rfl (Uc _ hm) ?_);clear H;intro w H;refine XF (by kernel_rfl) H ?_;refine eNil (k:=17) (by kernel_rfl) ?_;refine bEnd results51 F ?_
 refine ⟨rfl,?_⟩
 have H3:=H.sel [1] rfl rfl
 have e:(Zu x v (v+Yc x.aR x.aN r) (XY x.aR x.aN r) r).cells.set (187+(r.many+1)) (u32 ((Zu x v (v+Yc x.aR x.aN r) (XY x.aR x.aN r) r).data (r.many+1) ||| (Zu x v (v+Yc x.aR x.aN r) (XY x.aR x.aN r) r).att (r.many+1)))=(Vo x v r).cells:=ML _ hm _
 rw [← e]
 exact H3
theorem XbK (b:Nat) (r:RunP) (x:Ins) (v:UInt8) (w0:World) (hB:Wm w0 b r) (hx:InR x) (hs:SetsOk r) (hm:r.many+1 < 24) (hpc:r.pc < 256) :
   Calls Tryz.prog 52 #[.pointer (some ⟨b,0,none⟩),.agg x.cells.toArray,Go.Proofs.YtagnefpgidbhnaaGreatDoor.b8 v] w0 fun e w'=>e = .returned (.tuple #[])∧Own w0 (some b) w' [.blk b (Nl x v r).cells 71]:=by
 have H:=Own.startRow hB
 have hd:=Q5 x v (Yc x.bR x.bN r) (XY x.bR x.bN r) r (k:=r.many+1) hs (hs.arg _ hx.b) hm
 have ha:=hs.arg x.aR hx.a
 have hab:=GA hd.2.1 ha
 refine XE func52 rfl ntmps52 rfl (fun a F=>?_);refine cSR fun K1 hK1=>?_;refine sBx H F rfl rfl rfl ?_;clear F a H;intro b4 a w F H;refine nK hK1 (cSR fun K2 hK2=>Xl F rfl (Xb (f:=3) (k:=3) underlying61 rfl sizeOf59 rfl rfl rfl ?_));clear hK1;clear F a;intro a F
 refine Xo underlying59 rfl ?si F rfl (H.range 0 rfl _ 2) ?_
 case si=>exact XC sizeOf59
 clear F a;intro a F;refine Xn call98 F rfl (Zg b r x.aR x.aN _ (H.blk 1 rfl) hx.a) (gG H ?_);clear F a H;intro a w F H;refine Xl F rfl (XB rfl rfl (XB rfl rfl (Xh rfl (Xh rfl (qNK hK2 (qSR fun K3 hK3=>Xd rfl (Xb (f:=4) (k:=5) underlying61 rfl sizeOf59 rfl rfl rfl ?_)))))));clear hK2;clear F a;intro a F
 refine Xo underlying59 rfl ?si F rfl (H.range 0 rfl _ 2) ?_
 case si=>exact XC sizeOf59
 clear F a;intro a F;refine Xn call98 F rfl (Zg b r x.bR x.bN _ (H.blk 1 rfl) hx.b) (gG H ?_);clear F a H;intro a w F H;refine Xl F rfl (XB rfl rfl (XB rfl rfl (Xh rfl (Xh rfl (qNK hK3 ?_)))));clear hK3;clear F a;intro a F;refine cSeq (fun K4 hK4=>?_);refine cSR fun K5 hK5=>Xl F rfl (Xd rfl (Xj rfl rfl En (qNK hK5 ?_)));clear hK5;clear F a;intro a F
 refine cIf F rfl (fun h28=>?_) (fun h28=>?_)
 ·
  replace h28:=UL h28;refine cSR fun K6 hK6=>Xl F rfl (Xb (f:=2) (k:=2) underlying61 rfl sizeOf5 rfl rfl rfl (Xc isAgg5 rfl (H.cell 0 rfl rfl) (Xd rfl ?_)));clear F a;intro a F;refine Xn call96 F rfl (Vc b r 1 x.loc v 3 0 _ (H.blk 1 rfl) (by omega) hpc) ?_;rintro e w ⟨rfl,H2⟩
  replace H:=H.turned 1 rfl H2;clear H2
  refine ⟨_,rfl,?_⟩;clear F a;intro a F;refine Xa F rfl (qNK hK6 ?_);clear hK6;clear F a;intro a F;refine cSeq (fun K7 hK7=>?_);refine cRegRO (by kernel_rfl) H ?_;replace H:=H.drew;refine Xt 0 rfl F rfl (fun w=>rMv F rfl) H qq0 (Xu 1 rfl rfl (fun a F w=>rFa (f:=1) (k:=1) underlying61 rfl sizeOf5 rfl rfl F rfl) H qq0 (Xz 2 rfl rfl rfl (fun a F w H=>rLd isAgg5 F rfl (H.cell 0 rfl rfl)) H qq0 (Xu 3 rfl rfl (fun a F w=>rMv F rfl) H qq0 (Xu 4 rfl rfl (fun a F w=>rMv F rfl) H qq0 ?_))));clear F a;intro a F
  refine Xv (k:=5) (i:=5) rfl F rfl (fun w=>YA F rfl rfl (Xaf ?_)) H (fun _ _ _ h=>h) ?_
  focus omega
  clear F a;intro a F;refine Xx (k:=6) (i:=6) rfl (by kernel_rfl) F (XS call97 F rfl rfl (W4 b (Yy 1 x.loc v 3 0 r) x.dst v (Y3 r.many) _ (H.blk 1 rfl) hx.d) ?_);rintro e w ⟨rfl,H2⟩
  replace H:=H.turned 1 rfl H2;clear H2
  refine ⟨_,rfl,?_⟩;clear F a;intro a F;refine XF (by kernel_rfl) H ?_;refine eNil (k:=7) (by kernel_rfl) ?_;refine hK7 _ _ ?_;clear hK7;refine wp_ret ?_;simp only [Exit.then];refine Nv results52 F ?_
  (have e0:v ≠ Yc x.aR x.aN r:=h28
   refine ⟨rfl,?_⟩
   unfold Nl
   rw [if_pos e0]
   exact H.sel [1] rfl rfl)
 replace h28:=UM h28;refine wp_skip (hK4 _ _ (cSR fun K8 hK8=>Xl F rfl ?_));clear hK4;clear F a;intro a F
 refine Xo underlying61 rfl ?si F rfl (H.whole 0 rfl) ?_
 case si=>exact XC sizeOf61
 clear F a;intro a F;refine Xl F rfl (Xd rfl (Xd rfl ?_));clear F a;intro a F;refine Xn call99 F rfl (Qg b r x v (Yc x.bR x.bN r) (XY x.bR x.bN r) _ (H.blk 1 rfl) hx hm hpc) ?_;rintro e w ⟨rfl,H2⟩
 replace H:=H.turned 1 rfl H2;clear H2
 refine ⟨_,rfl,?_⟩;clear F a;intro a F;refine Xa F rfl (qNK hK8 ?_);clear hK8;clear F a;intro a F;refine cRegRO (by kernel_rfl) H ?_;replace H:=H.drew;refine Xt 0 rfl F rfl (fun w=>rMv F rfl) H qq0 (Xu 1 rfl rfl (fun a F w=>rMv F rfl) H qq0 (Xz 2 rfl rfl rfl (fun a F w H=>rNc F rfl) H qq0 (Xu 3 rfl rfl (fun a F w=>rFa (f:=7) (k:=211) underlying71 rfl sizeOf69 rfl rfl F rfl) H qq0 ?_)));clear F a;intro a F
 refine Xv (k:=4) (i:=4) rfl F rfl (fun w=>Dh underlying69 sizeOf66 F rfl rfl ?_) H (fun _ _ _ h=>h) ?_
 focus (omega)
 clear F a;intro a F;refine Xw 5 rfl F rfl rfl (fun w H=>rLd isAgg66 F rfl (H.cell 1 rfl (Ud _ hm))) H qq0 (Xu 6 rfl rfl (fun a F w=>rMv F rfl) H qq0 (Xu 7 rfl rfl (fun a F w=>rMv F rfl) H qq0 (Xz 8 rfl rfl rfl (fun a F w H=>rNc F rfl) H qq0 (Xu 9 rfl rfl (fun a F w=>rFa (f:=8) (k:=235) underlying71 rfl sizeOf69 rfl rfl F rfl) H qq0 ?_))));clear F a;intro a F
 refine Xv (k:=10) (i:=10) rfl F rfl (fun w=>Dh underlying69 sizeOf66 F rfl rfl ?_) H (fun _ _ _ h=>h) ?_
 focus (omega)
 clear F a;intro a F;refine Xw 11 rfl F rfl rfl (fun w H=>rLd isAgg66 F rfl (H.cell 1 rfl (U6 _ hm))) H qq0 (Xu 12 rfl rfl (fun a F w=>rMv F rfl) H qq0 ?_);clear F a;intro a F
 refine Xv (k:=13) (i:=13) rfl F rfl (fun w=>YA F rfl rfl (Nu ?_ ?_)) H (fun _ _ _ h=>h) ?_
 focus (exact hd.2.1)
 focus (exact ha)
 clear F a;intro a F
 refine Xv (k:=14) (i:=14) rfl F rfl (fun w=>YA F rfl rfl (Nu ?_ ?_)) H (fun _ _ _ h=>h) ?_
 focus (exact hd.2.2)
 focus (exact hab)
 clear F a;intro a F;refine Xw 15 rfl F rfl rfl (fun w H=>rNc F rfl) H qq0 (Xu 16 rfl rfl (fun a F w=>rFa (f:=7) (k:=211) underlying71 rfl sizeOf69 rfl rfl F rfl) H qq0 ?_);clear F a;intro a F
 refine Xv (k:=17) (i:=17) rfl F rfl (fun w=>Dh underlying69 sizeOf66 F rfl rfl ?_) H (fun _ _ _ h=>h) ?_
 focus (omega)
 clear F a;intro a F;refine Xx (k:=18) (i:=18) rfl (by kernel_rfl) F (oSt H 1 sizeOf66 F rfl rfl rfl rfl (Ud _ hm) ?_);clear H;intro w H;refine XF (by kernel_rfl) H ?_;refine eNil (k:=19) (by kernel_rfl) ?_;refine bEnd results52 F ?_
 (have e0:v=Yc x.aR x.aN r:=h28
  refine ⟨rfl,?_⟩
  have H3:=H.sel [1] rfl rfl
  have e:(Zu x v (Yc x.bR x.bN r) (XY x.bR x.bN r) r).cells.set (211+(r.many+1)) (u32 ((Zu x v (Yc x.bR x.bN r) (XY x.bR x.bN r) r).ctrl (r.many+1) ||| ((Zu x v (Yc x.bR x.bN r) (XY x.bR x.bN r) r).att (r.many+1) ||| XY x.aR x.aN r)))=(Nl x v r).cells:=by
   unfold Nl
   rw [if_neg (fun hh=>hh e0)]
   exact MM _ hm _
  rw [← e]
  exact H3)
theorem skp4 {fn a b:UInt8} (h:fn=4):NQ fn a b=(a == b):=by unfold NQ;rw [if_pos h]
theorem skp5 {fn a b:UInt8} (h4:fn ≠ 4) (h:fn=5):NQ fn a b=(a != b):=by unfold NQ;rw [if_neg h4,if_pos h]
theorem skp6 {fn a b:UInt8} (h4:fn ≠ 4) (h:fn ≠ 5):NQ fn a b=decide (a < b):=by unfold NQ;rw [if_neg h4,if_neg h]
theorem JM {x:Ins} {r:RunP} (hj:NQ x.fn (Yc x.aR x.aN r) (Yc x.bR x.bN r)=true) :
   (r.wControl (r.control ||| (XY x.aR x.aN r ||| XY x.bR x.bN r))).cells.set 0 (Value.int IntKind.i64 ((r.pc:Int)+(x.skip.toNat:Int)))=(ZX x r).cells:=by
 unfold ZX
 rw [if_pos hj]
 exact Xan (r.wControl (r.control ||| (XY x.aR x.aN r ||| XY x.bR x.bN r))) (r.pc+x.skip.toNat)
theorem NR {x:Ins} {r:RunP} (hj:NQ x.fn (Yc x.aR x.aN r) (Yc x.bR x.bN r)=false) :
   (r.wControl (r.control ||| (XY x.aR x.aN r ||| XY x.bR x.bN r))).cells=(ZX x r).cells:=by
 unfold ZX
 rw [if_neg (fun h=>Bool.noConfusion (hj.symm.trans h))]
theorem B0 (b:Nat) (r:RunP) (x:Ins) (v:UInt8) (w0:World) (hB:Wm w0 b r) (hx:InR x) (hs:SetsOk r) (hpc:r.pc < 256) :
   Calls Tryz.prog 54 #[.pointer (some ⟨b,0,none⟩),.agg x.cells.toArray,Go.Proofs.YtagnefpgidbhnaaGreatDoor.b8 v] w0 fun e w'=>e = .returned (.tuple #[])∧Own w0 (some b) w' [.blk b (ZX x r).cells 71]:=by
 have H:=Own.startRow hB
 have ha:=hs.arg x.aR hx.a
 have hb:=hs.arg x.bR hx.b
 have hab:=GA ha hb
 have hsk:=x.skip.toNat_lt
 refine XE func54 rfl ntmps54 rfl (fun a F=>?_);refine cSR fun K1 hK1=>?_;refine sBx H F rfl rfl rfl ?_;clear F a H;intro b4 a w F H;refine nK hK1 (cSR fun K2 hK2=>Xl F rfl (Xb (f:=3) (k:=3) underlying61 rfl sizeOf59 rfl rfl rfl ?_));clear hK1;clear F a;intro a F
 refine Xo underlying59 rfl ?si F rfl (H.range 0 rfl _ 2) ?_
 case si=>exact XC sizeOf59
 clear F a;intro a F;refine Xn call98 F rfl (Zg b r x.aR x.aN _ (H.blk 1 rfl) hx.a) (gG H ?_);clear F a H;intro a w F H;refine Xl F rfl (XB rfl rfl (XB rfl rfl (Xh rfl (Xh rfl (qNK hK2 (qSR fun K3 hK3=>Xd rfl (Xb (f:=4) (k:=5) underlying61 rfl sizeOf59 rfl rfl rfl ?_)))))));clear hK2;clear F a;intro a F
 refine Xo underlying59 rfl ?si F rfl (H.range 0 rfl _ 2) ?_
 case si=>exact XC sizeOf59
 clear F a;intro a F;refine Xn call98 F rfl (Zg b r x.bR x.bN _ (H.blk 1 rfl) hx.b) (gG H ?_);clear F a H;intro a w F H;refine Xl F rfl (XB rfl rfl (XB rfl rfl (Xh rfl (Xh rfl (qNK hK3 (qSR fun K4 hK4=>Xd rfl (Xk rfl (Xb (f:=3) (k:=17) underlying71 rfl sizeOf66 rfl rfl rfl (Xc isAgg66 rfl (H.cell 1 rfl (WX _)) (Xd rfl (Xd rfl ?_)))))))))));clear hK3;clear F a;intro a F
 refine Xm F rfl rfl (Nu ?_ ?_) ?_
 focus (exact ha)
 focus (exact hb)
 clear F a;intro a F
 refine Xm F rfl rfl (Nu ?_ ?_) ?_
 focus (exact hs.control)
 focus (exact hab)
 clear F a;intro a F;refine sNc F rfl rfl rfl (Xb (f:=3) (k:=17) underlying71 rfl sizeOf66 rfl rfl rfl ?_);clear F a;intro a F;refine sSt H 1 sizeOf66 F rfl rfl rfl rfl rfl (WX _) ?_;clear H;intro w H;rw [show Value.int .u32 ((r.control ||| (XY x.aR x.aN r ||| XY x.bR x.bN r):Nat):Int)=u32 (r.control ||| (XY x.aR x.aN r ||| XY x.bR x.bN r)) from rfl,NT] at H;refine nK hK4 (cSR fun K5 hK5=>Xa F rfl (qNK hK5 ?_));clear hK4 hK5;clear F a;intro a F;refine cSeq (fun K6 hK6=>?_);refine cSR fun K7 hK7=>Xi (f:=5) (k:=7) underlying61 rfl sizeOf5 rfl rfl F rfl (Xc isAgg5 rfl (H.cell 0 rfl rfl) (qNK hK7 ?_));clear hK7;clear F a;intro a F;refine wp_block ?_;refine cSR fun K8 hK8=>Xm F rfl rfl (XZ (y:=4)) (Xh rfl (qNK hK8 ?_));clear hK8;clear F a;intro a F
 refine cIf F rfl (fun h40=>?_) (fun h40=>?_)
 ·
  replace h40:=Yh h40;refine cReg (Xl F rfl (Xd rfl (Xj rfl rfl XZ (Xh rfl (qNK hK6 (qSR fun K9 hK9=>Xd rfl (qNK hK9 ?_)))))));clear hK6 hK9;clear F a;intro a F
  refine cIf F rfl (fun h50=>?_) (fun h50=>?_)
  ·
   replace h50:=Yh h50;refine cRegRO (by kernel_rfl) H ?_;replace H:=H.drew;refine Xt 0 rfl F rfl (fun w=>rMv F rfl) H qq0 (Xz 1 rfl rfl rfl (fun a F w H=>rNc F rfl) H qq0 (Xu 2 rfl rfl (fun a F w=>rFa (f:=0) (k:=0) underlying71 rfl sizeOf3 rfl rfl F rfl) H qq0 (Xz 3 rfl rfl rfl (fun a F w H=>rLd isAgg3 F rfl (show _=some (Value.int .i64 (r.pc:Int)) from H.cell 1 rfl (Zn _))) H qq0 (Xu 4 rfl rfl (fun a F w=>rFa (f:=7) (k:=9) underlying61 rfl sizeOf5 rfl rfl F rfl) H qq0 (Xz 5 rfl rfl rfl (fun a F w H=>rLd isAgg5 F rfl (H.cell 0 rfl rfl)) H qq0 (Xu 6 rfl rfl (fun a F w=>rCv underlying5 underlying3 F rfl (ZT _)) H qq0 ?_))))));clear F a;intro a F
   refine Xv (k:=7) (i:=7) rfl F rfl (fun w=>YA F rfl rfl (Z9 ?_)) H (fun _ _ _ h=>h) ?_
   focus omega
   clear F a;intro a F;refine Xw 8 rfl F rfl rfl (fun w H=>rNc F rfl) H qq0 (Xu 9 rfl rfl (fun a F w=>rFa (f:=0) (k:=0) underlying71 rfl sizeOf3 rfl rfl F rfl) H qq0 ?_);clear F a;intro a F;refine Xx (k:=10) (i:=10) rfl (by kernel_rfl) F (oSt H 1 sizeOf3 F rfl rfl rfl rfl (Zn _) ?_);clear H;intro w H;refine XF (by kernel_rfl) H ?_;refine eNil (k:=11) (by kernel_rfl) ?_;refine bEnd results54 F ?_
   refine ⟨rfl,?_⟩
   have H3:=H.sel [1] rfl rfl
   (have e4:x.fn=4:=h40
    have e:Yc x.aR x.aN r=Yc x.bR x.bN r:=h50
    rw [JM ((skp4 e4).trans (beq_iff_eq.2 e))] at H3
    exact H3)
  replace h50:=Yi h50;refine wp_skip ?_;refine bEnd results54 F ?_
  refine ⟨rfl,?_⟩
  have H3:=H.sel [1] rfl rfl
  (have e4:x.fn=4:=h40
   have e:Yc x.aR x.aN r ≠ Yc x.bR x.bN r:=h50
   rw [NR ((skp4 e4).trans (beq_false_of_ne e))] at H3
   exact H3)
 replace h40:=Yi h40;refine cSR fun K10 hK10=>Xm F rfl rfl (XZ (y:=5)) (Xh rfl (qNK hK10 ?_));clear hK10;clear F a;intro a F
 refine cIf F rfl (fun h45=>?_) (fun h45=>?_)
 ·
  replace h45:=Yh h45;refine cReg (Xl F rfl (Xd rfl (Xj rfl rfl En (Xh rfl (qNK hK6 (qSR fun K11 hK11=>Xd rfl (qNK hK11 ?_)))))));clear hK6 hK11;clear F a;intro a F
  refine cIf F rfl (fun h50=>?_) (fun h50=>?_)
  ·
   replace h50:=UL h50;refine cRegRO (by kernel_rfl) H ?_;replace H:=H.drew;refine Xt 0 rfl F rfl (fun w=>rMv F rfl) H qq0 (Xz 1 rfl rfl rfl (fun a F w H=>rNc F rfl) H qq0 (Xu 2 rfl rfl (fun a F w=>rFa (f:=0) (k:=0) underlying71 rfl sizeOf3 rfl rfl F rfl) H qq0 (Xz 3 rfl rfl rfl (fun a F w H=>rLd isAgg3 F rfl (show _=some (Value.int .i64 (r.pc:Int)) from H.cell 1 rfl (Zn _))) H qq0 (Xu 4 rfl rfl (fun a F w=>rFa (f:=7) (k:=9) underlying61 rfl sizeOf5 rfl rfl F rfl) H qq0 (Xz 5 rfl rfl rfl (fun a F w H=>rLd isAgg5 F rfl (H.cell 0 rfl rfl)) H qq0 (Xu 6 rfl rfl (fun a F w=>rCv underlying5 underlying3 F rfl (ZT _)) H qq0 ?_))))));clear F a;intro a F
   refine Xv (k:=7) (i:=7) rfl F rfl (fun w=>YA F rfl rfl (Z9 ?_)) H (fun _ _ _ h=>h) ?_
   focus omega
   clear F a;intro a F;refine Xw 8 rfl F rfl rfl (fun w H=>rNc F rfl) H qq0 (Xu 9 rfl rfl (fun a F w=>rFa (f:=0) (k:=0) underlying71 rfl sizeOf3 rfl rfl F rfl) H qq0 ?_);clear F a;intro a F;refine Xx (k:=10) (i:=10) rfl (by kernel_rfl) F (oSt H 1 sizeOf3 F rfl rfl rfl rfl (Zn _) ?_);clear H;intro w H;refine XF (by kernel_rfl) H ?_;refine eNil (k:=11) (by kernel_rfl) ?_;refine bEnd results54 F ?_
   refine ⟨rfl,?_⟩
   have H3:=H.sel [1] rfl rfl
   (have e4:x.fn ≠ 4:=h40
    have e5:x.fn=5:=h45
    have e:Yc x.aR x.aN r ≠ Yc x.bR x.bN r:=h50
    rw [JM ((skp5 e4 e5).trans (bne_iff_ne.2 e))] at H3
    exact H3)
  replace h50:=UM h50;refine wp_skip ?_;refine bEnd results54 F ?_
  refine ⟨rfl,?_⟩
  have H3:=H.sel [1] rfl rfl
  (have e4:x.fn ≠ 4:=h40
   have e5:x.fn=5:=h45
   have e:Yc x.aR x.aN r=Yc x.bR x.bN r:=h50
   have e6:(Yc x.aR x.aN r != Yc x.bR x.bN r)=false:=bne_eq_false_iff_eq.2 e
   rw [NR ((skp5 e4 e5).trans e6)] at H3
   exact H3)
 replace h45:=Yi h45;refine cReg (Xl F rfl (Xd rfl (Xj rfl rfl GY (Xh rfl (qNK hK6 (qSR fun K12 hK12=>Xd rfl (qNK hK12 ?_)))))));clear hK6 hK12;clear F a;intro a F
 refine cIf F rfl (fun h50=>?_) (fun h50=>?_)
 ·
  replace h50:=of_decide_eq_true h50;refine cRegRO (by kernel_rfl) H ?_;replace H:=H.drew;refine Xt 0 rfl F rfl (fun w=>rMv F rfl) H qq0 (Xz 1 rfl rfl rfl (fun a F w H=>rNc F rfl) H qq0 (Xu 2 rfl rfl (fun a F w=>rFa (f:=0) (k:=0) underlying71 rfl sizeOf3 rfl rfl F rfl) H qq0 (Xz 3 rfl rfl rfl (fun a F w H=>rLd isAgg3 F rfl (show _=some (Value.int .i64 (r.pc:Int)) from H.cell 1 rfl (Zn _))) H qq0 (Xu 4 rfl rfl (fun a F w=>rFa (f:=7) (k:=9) underlying61 rfl sizeOf5 rfl rfl F rfl) H qq0 (Xz 5 rfl rfl rfl (fun a F w H=>rLd isAgg5 F rfl (H.cell 0 rfl rfl)) H qq0 (Xu 6 rfl rfl (fun a F w=>rCv underlying5 underlying3 F rfl (ZT _)) H qq0 ?_))))));clear F a;intro a F
  refine Xv (k:=7) (i:=7) rfl F rfl (fun w=>YA F rfl rfl (Z9 ?_)) H (fun _ _ _ h=>h) ?_
  focus omega
  clear F a;intro a F;refine Xw 8 rfl F rfl rfl (fun w H=>rNc F rfl) H qq0 (Xu 9 rfl rfl (fun a F w=>rFa (f:=0) (k:=0) underlying71 rfl sizeOf3 rfl rfl F rfl) H qq0 ?_);clear F a;intro a F;refine Xx (k:=10) (i:=10) rfl (by kernel_rfl) F (oSt H 1 sizeOf3 F rfl rfl rfl rfl (Zn _) ?_);clear H;intro w H;refine XF (by kernel_rfl) H ?_;refine eNil (k:=11) (by kernel_rfl) ?_;refine bEnd results54 F ?_
  refine ⟨rfl,?_⟩
  have H3:=H.sel [1] rfl rfl
  (have e4:x.fn ≠ 4:=h40
   have e5:x.fn ≠ 5:=h45
   have e:Yc x.aR x.aN r < Yc x.bR x.bN r:=h50
   rw [JM ((skp6 e4 e5).trans (decide_eq_true e))] at H3
   exact H3)
 replace h50:=of_decide_eq_false h50;refine wp_skip ?_;refine bEnd results54 F ?_
 refine ⟨rfl,?_⟩
 have H3:=H.sel [1] rfl rfl
 (have e4:x.fn ≠ 4:=h40
  have e5:x.fn ≠ 5:=h45
  have e:¬ Yc x.aR x.aN r < Yc x.bR x.bN r:=h50
  rw [NR ((skp6 e4 e5).trans (decide_eq_false e))] at H3
  exact H3)
-- VsB
open Go.RowKit
set_option maxRecDepth 100000
section
variable {P:Program} {l:List Oper} {Q:Exit→Act→World→Prop} {N:Nat} {a:Act} {env:List (Nat × Value)} {rest:List Oper} {d:Tmp} {ty:TypeId} {pos:String} {af:Array Edge} {g:Option (Nat × Bool)} {w:World}
theorem sBa {t e:TypeId} {n size:Nat} {parts:List (Nat × Operand)} {ps:List (Nat × Value)} {zs:Array Value} {cs:List Value} (hz:∀ w,(zeroValue t).run P w = .ok (.agg zs) w) (hu:P.underlying t=some (.array n e)) (hs:∀ w,(sizeOf e).run P w = .ok size w)
   (F:Has N a env) (hg:wants l env g=true) (hN:Nat.blt d N=true) (he:evP env parts=some ps) (hf:Z6 (fun i=>some (i * size,size)) zs.toList ps=some cs)
   (K:∀ a,Has N a ((d,.agg cs.toArray) :: env)→wpList P l.toArray Q rest a w):wpList P l.toArray Q (⟨some d,.build t parts.toArray,ty,pos,af,g⟩ :: rest) a w:=
 YM F hg rfl hN (rBa hz hu hs F he hf) K
end
-- PaC
open Go.RowKit
set_option maxRecDepth 100000
section
variable {P:Program} {l:List Oper} {Q:Exit→Act→World→Prop} {N:Nat} {a:Act} {env:List (Nat × Value)} {rest:List Oper} {d:Tmp} {ty:TypeId} {pos:String} {af:Array Edge} {g:Option (Nat × Bool)} {w:World}
theorem rIdG {t e:TypeId} {x i:Operand} {len j:Nat} {cs:List Value} {v:Value} {k:IntKind} (ht:P.underlying t=some (.array len e)) (hz:∀ w,(sizeOf e).run P w = .ok 1 w) (ha:∀ w,(isAgg e).run P w = .ok false w)
   (F:Has N a env) (hx:ev env x=some (.agg cs.toArray)) (hi:ev env i=some (.int k (j:Int))) (hj:j < len) (hl:cs[j]? = some v) :
   (execOp a.eval ⟨some d,.index t x i,ty,pos,af,g⟩).run P w = .ok (.value v) w:=by
 obtain ⟨hlt,hv⟩:=List.getElem?_eq_some_iff.1 hl
 have h1:=Vy (P:=P) (e:=e) (n:=1) (off:=j * 1) (vs:=cs) w hz ha (fun _=>rfl) (by omega)
 have e1:(cs.drop (j * 1)).take 1=[v]:=by rw [Nat.mul_one,List.drop_eq_getElem_cons hlt,hv];rfl
 rw [e1] at h1
 simp only [execOp,F.eval hx,F.eval hi,Instr.index,asIntOf,Sem.run_bind,Sem.run_pure,Result.andThen_ok,run_underlying ht,hz]
 rw [if_pos (by omega)]
 simp only [Sem.run_bind,hz,Result.andThen_ok,Int.toNat_natCast,h1,Sem.run_pure,pk]
theorem sIdG {t e:TypeId} {x i:Operand} {len j:Nat} {cs:List Value} {v:Value} {k:IntKind} (ht:P.underlying t=some (.array len e)) (hz:∀ w,(sizeOf e).run P w = .ok 1 w) (ha:∀ w,(isAgg e).run P w = .ok false w)
   (F:Has N a env) (hg:wants l env g=true) (hN:Nat.blt d N=true) (hx:ev env x=some (.agg cs.toArray)) (hi:ev env i=some (.int k (j:Int))) (hj:j < len) (hl:cs[j]? = some v)
   (K:∀ a,Has N a ((d,v) :: env)→wpList P l.toArray Q rest a w):wpList P l.toArray Q (⟨some d,.index t x i,ty,pos,af,g⟩ :: rest) a w:=
 YM F hg rfl hN (rIdG ht hz ha F hx hi hj hl) K
theorem qIdG {t e:TypeId} {x i:Operand} {len j:Nat} {cs:List Value} {v:Value} {k:IntKind} (ht:P.underlying t=some (.array len e)) (hz:∀ w,(sizeOf e).run P w = .ok 1 w) (ha:∀ w,(isAgg e).run P w = .ok false w) (hg:wants l env g=true) (hN:Nat.blt d N=true) (hx:ev env x=some (.agg cs.toArray)) (hi:ev env i=some (.int k (j:Int))) (hj:j < len) (hl:cs[j]? = some v) (K:∀ a,Has N a ((d,v) :: env)→wpList P l.toArray Q rest a w):∀ a,Has N a env→wpList P l.toArray Q (⟨some d,.index t x i,ty,pos,af,g⟩ :: rest) a w:=fun a F=>sIdG ht hz ha F hg hN hx hi hj hl K
end
def effL:List Value:=[.nilFunc,.func (.func 47) #[] #[],.func (.func 48) #[] #[],.func (.func 49) #[] #[],.func (.func 50) #[] #[],.func (.func 51) #[] #[],.func (.func 52) #[] #[],.func (.func 53) #[] #[],.func (.func 54) #[] #[]]
theorem Q7 (w0:World):Calls Tryz.prog 33 #[] w0 fun e w'=>e = .returned (.agg effL.toArray)∧Below w0.heap.size w0 w':=by
 have H:=Own.start w0 none
 refine XE Tryz.func33 rfl Tryz.ntmps33 rfl (fun a F=>?_);refine cSR fun K1 hK1=>?_;refine sAl H Tryz.zeroValue90 F rfl rfl ?_;clear F a H;intro b0 a w F H;refine nK hK1 (cSR fun K2 hK2=>sBa Tryz.zeroValue90 Tryz.underlying90 Tryz.sizeOf89 F rfl rfl rfl rfl ?_);clear hK1;clear F a;intro a F
 refine sSr H 0 ?si F rfl rfl rfl ?s1 rfl rfl ?_
 case si=>exact XC Tryz.sizeOf90
 case s1=>rfl
 clear H;intro w H;refine nK hK2 ?_;clear hK2;refine wp_ret ?_;refine UX Tryz.results33 F rfl Tryz.underlying90 rfl H 0 rfl Tryz.sizeOf90 rfl ?_
 exact ⟨rfl,H.below⟩
structure RunOk (r:RunP):Prop where
 sets:SetsOk r
 pc:r.pc < 256
 many:r.many+1 < 24
theorem Xbz {x:Ins} {r:RunP} {b:Nat} (hx:InR x) (hr:RunOk r) (ho:1≤x.op.toNat∧x.op.toNat≤8):∃ v,effL[x.op.toNat]? = some v∧∀ (val:UInt8) (w0:World),Wm w0 b r →
   JJ Tryz.prog v [.pointer (some ⟨b,0,none⟩),.agg x.cells.toArray,Go.Proofs.YtagnefpgidbhnaaGreatDoor.b8 val] w0 fun e w'=>e = .returned (.tuple #[])∧Own w0 (some b) w' [.blk b (YX x val r).cells 71]:=by
 have hm:=hr.many
 have hm':r.many < 24:=by omega
 have e:∀ k:Nat,x.op.toNat=k→k < 256→x.op=UInt8.ofNat k:=fun k h1 h2=>by rw [← h1];simp
 have hc:x.op=1∨x.op=2∨x.op=3∨x.op=4∨x.op=5∨x.op=6∨x.op=7∨x.op=8:=by
   rcases (by omega:x.op.toNat=1∨x.op.toNat=2∨x.op.toNat=3∨x.op.toNat=4∨x.op.toNat=5∨x.op.toNat=6∨x.op.toNat=7∨x.op.toNat=8) with h | h | h | h | h | h | h | h
   · exact .inl (e 1 h (by decide))
   · exact .inr (.inl (e 2 h (by decide)))
   · exact .inr (.inr (.inl (e 3 h (by decide))))
   · exact .inr (.inr (.inr (.inl (e 4 h (by decide)))))
   · exact .inr (.inr (.inr (.inr (.inl (e 5 h (by decide))))))
   · exact .inr (.inr (.inr (.inr (.inr (.inl (e 6 h (by decide)))))))
   · exact .inr (.inr (.inr (.inr (.inr (.inr (.inl (e 7 h (by decide))))))))
   · exact .inr (.inr (.inr (.inr (.inr (.inr (.inr (e 8 h (by decide))))))))
 rcases hc with h | h | h | h | h | h | h | h
 · rw [h];refine ⟨_,rfl,fun val w0 hB=>⟨_,[],[],rfl,Tryz.call47,?_⟩⟩
   rw [show YX x val r=QU x val r by unfold YX;rw [h];rfl]
   exact CD b r x val w0 hB hx hm' hr.pc
 · rw [h];refine ⟨_,rfl,fun val w0 hB=>⟨_,[],[],rfl,Tryz.call48,?_⟩⟩
   rw [show YX x val r=Ge x r by unfold YX;rw [h];rfl]
   exact EM b r x val w0 hB hx hm' hr.pc
 · rw [h];refine ⟨_,rfl,fun val w0 hB=>⟨_,[],[],rfl,Tryz.call49,?_⟩⟩
   rw [show YX x val r=Z2 x r by unfold YX;rw [h];rfl]
   exact Dy b r x val w0 hB hx hr.sets
 · rw [h];refine ⟨_,rfl,fun val w0 hB=>⟨_,[],[],rfl,Tryz.call50,?_⟩⟩
   rw [show YX x val r=NP x val r by unfold YX;rw [h];rfl]
   exact BX b r x val w0 hB hx hm hr.pc
 · rw [h];refine ⟨_,rfl,fun val w0 hB=>⟨_,[],[],rfl,Tryz.call51,?_⟩⟩
   rw [show YX x val r=Vo x val r by unfold YX;rw [h];rfl]
   exact D2 b r x val w0 hB hx hr.sets hm hr.pc
 · rw [h];refine ⟨_,rfl,fun val w0 hB=>⟨_,[],[],rfl,Tryz.call52,?_⟩⟩
   rw [show YX x val r=Nl x val r by unfold YX;rw [h];rfl]
   exact XbK b r x val w0 hB hx hr.sets hm hr.pc
 · rw [h];refine ⟨_,rfl,fun val w0 hB=>⟨_,[],[],rfl,Tryz.call53,?_⟩⟩
   rw [show YX x val r=GJ x r by unfold YX;rw [h];rfl]
   exact D3 b r x val w0 hB hm' hr.pc
 · rw [h];refine ⟨_,rfl,fun val w0 hB=>⟨_,[],[],rfl,Tryz.call54,?_⟩⟩
   rw [show YX x val r=ZX x r by unfold YX;rw [h];rfl]
   exact B0 b r x val w0 hB hx hr.sets hr.pc
theorem XaN (r:RunP) (d:Nat) (v:UInt8):(r.wReg d v).pc=r.pc:=rfl
theorem XaO (r:RunP) (d n:Nat):(r.wDep d n).pc=r.pc:=rfl
theorem BO (r:RunP) (n:Nat):(r.wMany n).pc=r.pc:=rfl
theorem Xb6 (r:RunP) (k:Nat) (e:Ev):(r.wEv k e).pc=r.pc:=rfl
theorem MG (r:RunP) (d n:Nat):(r.wData d n).pc=r.pc:=rfl
theorem MH (r:RunP) (d n:Nat):(r.wCtrl d n).pc=r.pc:=rfl
theorem XaP (r:RunP) (d n:Nat):(r.wAtt d n).pc=r.pc:=rfl
theorem Xb5 (r:RunP) (n:Nat):(r.wPc n).pc=n:=rfl
theorem JN (d v:UInt8) (n:Nat) (r:RunP):(setP d v n r).pc=r.pc:=by unfold setP;rw [XaO,XaN]
theorem VF (kind loc val mode:UInt8) (n:Nat) (r:RunP):(Yy kind loc val mode n r).pc=r.pc:=by unfold Yy;rw [BO,MH,MG,Xb6]
theorem Mj (x:Ins) (old val:UInt8) (n:Nat) (r:RunP):(Zu x old val n r).pc=r.pc:=by unfold Zu;rw [JN,XaP,VF,VF]
theorem Xbp (x:Ins) (v:UInt8) (r:RunP):(QU x v r).pc=r.pc:=by unfold QU;rw [JN,VF]
theorem BY (x:Ins) (r:RunP):(Ge x r).pc=r.pc:=by unfold Ge;rw [VF]
theorem Xbl (x:Ins) (r:RunP):(Z2 x r).pc=r.pc:=by unfold Z2;rw [JN]
theorem XaV (x:Ins) (v:UInt8) (r:RunP):(NP x v r).pc=r.pc:=by unfold NP;rw [Mj]
theorem CO (x:Ins) (v:UInt8) (r:RunP):(Vo x v r).pc=r.pc:=by unfold Vo;rw [MG,Mj]
theorem CP (x:Ins) (r:RunP):(GJ x r).pc=r.pc:=by unfold GJ;rw [VF]
theorem XcP (x:Ins) (v:UInt8) (r:RunP):(Nl x v r).pc=r.pc:=by
 unfold Nl
 split
 · rw [JN,VF]
 · rw [MH,Mj]
theorem XaY (x:Ins) (r:RunP):r.pc≤(ZX x r).pc∧(ZX x r).pc≤r.pc+x.skip.toNat:=by
 unfold ZX
 split
 · exact ⟨Nat.le_add_right _ _,Nat.le_refl _⟩
 · exact ⟨Nat.le_refl _,Nat.le_add_right _ _⟩
theorem XaD (x:Ins) (v:UInt8) (r:RunP):r.pc≤(YX x v r).pc∧(YX x v r).pc≤r.pc+x.skip.toNat:=by
 have key:∀ n:Nat,n=r.pc→r.pc≤n∧n≤r.pc+x.skip.toNat:=fun n h=>by omega
 unfold YX
 split
 · exact key _ (Xbp x v r)
 · split
   · exact key _ (BY x r)
   · split
     · exact key _ (Xbl x r)
     · split
       · exact key _ (XaV x v r)
       · split
         · exact key _ (CO x v r)
         · split
           · exact key _ (XcP x v r)
           · split
             · exact key _ (CP x r)
             · exact XaY x r
theorem VD (b:Nat) (r:RunP) (x:Ins) (val:UInt8) (w0:World) (hB:Wm w0 b r) (hx:InR x) (hr:RunOk r) (ho:1≤x.op.toNat∧x.op.toNat≤8) :
   Calls Tryz.prog 20 #[.pointer (some ⟨b,0,none⟩),.agg x.cells.toArray,Go.Proofs.YtagnefpgidbhnaaGreatDoor.b8 val] w0 fun e w'=>e = .returned (.tuple #[])∧Own w0 (some b) w' [.blk b (X8 x val r).cells 71]:=by
 have H:=Own.startRow hB
 obtain ⟨v,hv,hE⟩:=Xbz (b:=b) hx hr ho
 have hpc:=hr.pc
 have hsk:=x.skip.toNat_lt
 have hpe:=XaD x val r
 refine XE Tryz.func20 rfl Tryz.ntmps20 rfl (fun a F=>?_);refine cSR fun K1 hK1=>?_;refine sBx H F rfl rfl rfl ?_;clear F a H;intro b4 a w F H;refine nK hK1 ?_;clear hK1;refine cSeq (fun K2 hK2=>?_);refine cRegRO (by kernel_rfl) H ?_;replace H:=H.drew;refine Xt 1 rfl F rfl (fun w=>rFa (f:=0) (k:=0) Tryz.underlying61 rfl Tryz.sizeOf5 rfl rfl F rfl) H qq0 (Xz 2 rfl rfl rfl (fun a F w H=>rLd Tryz.isAgg5 F rfl (H.cell 0 rfl rfl)) H qq0 (Xu 4 rfl rfl (fun a F w=>rMv F rfl) H qq0 ?_));clear F a;intro a F
 refine XA (k:=3) (i:=5) rfl F rfl rfl (fun w H=>rLr Tryz.underlying61 rfl ?si F rfl (H.whole 0 rfl)) H (fun _ _ _ h=>h) ?_
 case si=>exact XC Tryz.sizeOf61
 clear F a;intro a F;refine Xt 6 rfl F rfl (fun w=>rMv F rfl) H qq0 ?_;clear F a;intro a F;refine Xx (k:=5) (i:=0) rfl (by kernel_rfl) F (XS Tryz.call33 F rfl rfl (Q7 _) ?_);rintro e w ⟨rfl,hb⟩;replace H:=H.grow hb;clear hb;refine ⟨_,rfl,?_⟩;clear F a;intro a F;refine XM H ?_;refine Xt 3 rfl F rfl (fun w=>rIdG Tryz.underlying90 Tryz.sizeOf89 Tryz.isAgg89 F rfl rfl (by omega) (hv)) H qq0 ?_;clear F a;intro a F;refine Xx (k:=7) (i:=7) rfl (by kernel_rfl) F (Xcr F rfl rfl rfl (hE val _ (H.blk 1 rfl)) ?_);rintro e w ⟨rfl,H2⟩
 replace H:=H.turned 1 rfl H2;clear H2
 refine ⟨_,rfl,?_⟩;clear F a;intro a F;refine XF (by kernel_rfl) H ?_;refine eNil (k:=8) (by kernel_rfl) ?_;refine hK2 _ _ (cReg (Xl F rfl (Xk rfl (Xb (f:=0) (k:=0) Tryz.underlying71 rfl Tryz.sizeOf3 rfl rfl rfl (Xc Tryz.isAgg3 rfl (show _=some (Value.int .i64 ((YX x val r).pc:Int)) from H.cell 1 rfl (Zn _)) ?_)))));clear hK2;clear F a;intro a F
 refine Xm F rfl rfl (Z9 ?_) ?_
 focus omega
 clear F a;intro a F;refine sNc F rfl rfl rfl (Xb (f:=0) (k:=0) Tryz.underlying71 rfl Tryz.sizeOf3 rfl rfl rfl ?_);clear F a;intro a F;refine sSt H 1 Tryz.sizeOf3 F rfl rfl rfl rfl rfl (Zn _) ?_;clear H;intro w H;refine sNil ?_;refine bEnd Tryz.results20 F ?_
 exact ⟨rfl,by rw [show (((YX x val r).pc:Int)+1)=(((YX x val r).pc+1:Nat):Int) from rfl,Xan] at H;exact H.sel [1] rfl rfl⟩
-- PaD
set_option maxRecDepth 100000
theorem V6:(0:Nat) < 4294967296:=by decide
theorem SetsOk.reg {r:RunP} (h:SetsOk r) (d:Nat) (v:UInt8):SetsOk (r.wReg d v):=⟨h.deps,h.control,h.data,h.ctrl,h.att⟩
theorem Gn {f:Nat→Nat} {j n:Nat} (h:∀ k,f k < 4294967296) (hn:n < 4294967296) (k:Nat):YO f j n k < 4294967296:=by
 unfold YO
 split
 · exact hn
 · exact h k
theorem SetsOk.dep {r:RunP} (h:SetsOk r) (d:Nat) {n:Nat} (hn:n < 4294967296):SetsOk (r.wDep d n):=
 ⟨fun k hk=>by
   show YO r.deps d n k < _
   unfold YO
   split
   · exact hn
   · exact h.deps k hk,h.control,h.data,h.ctrl,h.att⟩
theorem SetsOk.ctl {r:RunP} (h:SetsOk r) {n:Nat} (hn:n < 4294967296):SetsOk (r.wControl n):=⟨h.deps,hn,h.data,h.ctrl,h.att⟩
theorem SetsOk.many {r:RunP} (h:SetsOk r) (n:Nat):SetsOk (r.wMany n):=⟨h.deps,h.control,h.data,h.ctrl,h.att⟩
theorem SetsOk.ev {r:RunP} (h:SetsOk r) (k:Nat) (e:Ev):SetsOk (r.wEv k e):=⟨h.deps,h.control,h.data,h.ctrl,h.att⟩
theorem SetsOk.pc {r:RunP} (h:SetsOk r) (n:Nat):SetsOk (r.wPc n):=⟨h.deps,h.control,h.data,h.ctrl,h.att⟩
theorem SetsOk.dat {r:RunP} (h:SetsOk r) (k:Nat) {n:Nat} (hn:n < 4294967296):SetsOk (r.wData k n):=⟨h.deps,h.control,Gn h.data hn,h.ctrl,h.att⟩
theorem SetsOk.ctr {r:RunP} (h:SetsOk r) (k:Nat) {n:Nat} (hn:n < 4294967296):SetsOk (r.wCtrl k n):=⟨h.deps,h.control,h.data,Gn h.ctrl hn,h.att⟩
theorem SetsOk.atw {r:RunP} (h:SetsOk r) (k:Nat) {n:Nat} (hn:n < 4294967296):SetsOk (r.wAtt k n):=⟨h.deps,h.control,h.data,h.ctrl,Gn h.att hn⟩
theorem SetsOk.setP {r:RunP} (h:SetsOk r) (d v:UInt8) {n:Nat} (hn:n < 4294967296):SetsOk (setP d v n r):=(h.reg _ _).dep _ hn
theorem SetsOk.emit {r:RunP} (h:SetsOk r) (kind loc val mode:UInt8) {n:Nat} (hn:n < 4294967296):SetsOk (Yy kind loc val mode n r):=
 (((h.ev _ _).dat _ hn).ctr _ h.control).many _
theorem Ey (r:RunP) (d:Nat) (v:UInt8):(r.wReg d v).many=r.many:=rfl
theorem Ez (r:RunP) (d n:Nat):(r.wDep d n).many=r.many:=rfl
theorem VP (r:RunP) (n:Nat):(r.wControl n).many=r.many:=rfl
theorem Lv (r:RunP) (n:Nat):(r.wMany n).many=n:=rfl
theorem MF (r:RunP) (n:Nat):(r.wPc n).many=r.many:=rfl
theorem Lw (r:RunP) (d n:Nat):(r.wData d n).many=r.many:=rfl
theorem Lx (r:RunP) (d n:Nat):(r.wCtrl d n).many=r.many:=rfl
theorem EB (r:RunP) (d n:Nat):(r.wAtt d n).many=r.many:=rfl
theorem VT (d v:UInt8) (n:Nat) (r:RunP):(setP d v n r).many=r.many:=by unfold setP;rw [Ez,Ey]
theorem ZW (kind loc val mode:UInt8) (n:Nat) (r:RunP):(Yy kind loc val mode n r).many=r.many+1:=by unfold Yy;rw [Lv]
theorem GK (x:Ins) (old val:UInt8) (n:Nat) (r:RunP):(Zu x old val n r).many=r.many+2:=by unfold Zu;rw [VT,EB,ZW,ZW]
theorem SetsOk.exch {r:RunP} (h:SetsOk r) (hm:r.many < 24) (x:Ins) (old val:UInt8) {n:Nat} (hn:n < 4294967296):SetsOk (Zu x old val n r):=
 (((h.emit 1 x.loc old 3 V6).emit 2 x.loc val 3 hn).atw _ (UT hm)).setP _ _ (UT hm)
theorem ER (x:Ins) (r:RunP):(ZX x r).many=r.many:=by
 unfold ZX
 split
 · rw [MF,VP]
 · rw [VP]
theorem Xab (x:Ins) (v:UInt8) (r:RunP):r.many+1≤(Nl x v r).many∧(Nl x v r).many≤r.many+2:=by
 unfold Nl
 split
 · rw [VT,ZW];omega
 · rw [Lx,GK];omega
theorem CZ (x:Ins) (v:UInt8) (r:RunP):(YX x v r).many≤r.many+2:=by
 have key:∀ (n k:Nat),n=r.many+k→k≤2→n≤r.many+2:=fun n k h1 h2=>by omega
 unfold YX
 split
 · exact key _ 1 (by unfold QU;rw [VT,ZW]) (by decide)
 · split
   · exact key _ 1 (by unfold Ge;rw [ZW]) (by decide)
   · split
     · exact key _ 0 (by unfold Z2;rw [VT];rfl) (by decide)
     · split
       · exact key _ 2 (by unfold NP;rw [GK]) (by decide)
       · split
         · exact key _ 2 (by unfold Vo;rw [Lw,GK]) (by decide)
         · split
           · exact (Xab x v r).2
           · split
             · exact key _ 1 (by unfold GJ;rw [ZW]) (by decide)
             · exact key _ 0 (ER x r) (by decide)
theorem CY {x:Ins} (v:UInt8) {r:RunP} (hx:InR x) (h:SetsOk r) (hm:r.many+1 < 24):SetsOk (YX x v r):=by
 have ha:=h.arg x.aR hx.a
 have hb:=h.arg x.bR hx.b
 have hab:=GA ha hb
 have hm':r.many < 24:=by omega
 unfold YX
 split
 · exact (h.emit 1 x.loc v x.mode V6).setP _ _ (UT hm')
 · split
   · exact h.emit _ _ _ _ ha
   · split
     · exact h.setP _ _ hab
     · split
       · exact h.exch hm' _ _ _ ha
       · split
         · have h2:=h.exch hm' x v (v+Yc x.aR x.aN r) ha
           exact h2.dat _ (GA (h2.data _) (h2.att _))
         · split
           · unfold Nl
             split
             · exact (h.emit 1 x.loc v 3 V6).setP _ _ (UT hm')
             · have h2:=h.exch hm' x v (Yc x.bR x.bN r) hb
               exact h2.ctr _ (GA (h2.ctrl _) (GA (h2.att _) ha))
           · split
             · exact h.emit _ _ _ _ V6
             · unfold ZX
               split
               · exact (h.ctl (GA h.control hab)).pc _
               · exact h.ctl (GA h.control hab)
structure ThrAt (l:List Ins) (k:Nat) (x:Ins):Prop where
 inr:InR x
 op:1≤x.op.toNat∧x.op.toNat≤8
 skip:k+1+x.skip.toNat≤l.length
 loc:x.loc.toNat < 6
theorem Z4 {l:List Ins} (h:XH 6 l=true):l.length≤12:=by
 simp only [XH,Bool.and_eq_true,decide_eq_true_eq] at h
 exact h.1
theorem XaJ {r:Bool} {n:UInt8} (h:ZC r n=true) (hr:r=true):n.toNat < 8:=by
 unfold ZC at h
 rw [hr] at h
 exact UInt8.lt_iff_toNat_lt.1 (of_decide_eq_true h)
theorem Vi {l:List Ins} (h:XH 6 l=true) {k:Nat} {x:Ins} (hk:l[k]? = some x):ThrAt l k x:=by
 have hl:=(List.getElem?_eq_some_iff.1 hk).1
 simp only [XH,Bool.and_eq_true,decide_eq_true_eq] at h
 have hI:=J8 h.2 hk
 have c0:(decide (1≤x.op) && decide (x.op≤8))=true:=WE hI 0 (by decide)
 have c1:(x == x.needed)=true:=WE hI 1 (by decide)
 have c2:decide (x.dst < 8)=true:=WE hI 2 (by decide)
 have c3:(!X7 x.op 2 || decide ((x.loc.toNat:Int) < 6))=true:=WE hI 3 (by decide)
 have c4:(ZC x.aR x.aN && ZC x.bR x.bN)=true:=WE hI 4 (by decide)
 have c7:(!X7 x.op 64 || (decide (1≤x.skip) && decide ((x.skip.toNat:Int)≤(l.length:Int) - 1 - ((0+k:Nat):Int))))=true:=WE hI 7 (by decide)
 have e:x=x.needed:=beq_iff_eq.1 c1
 rw [Bool.and_eq_true] at c0 c4
 have o1:=UInt8.le_iff_toNat_le.1 (of_decide_eq_true c0.1)
 have o2:=UInt8.le_iff_toNat_le.1 (of_decide_eq_true c0.2)
 refine ⟨⟨UInt8.lt_iff_toNat_lt.1 (of_decide_eq_true c2),XaJ c4.1,XaJ c4.2⟩,⟨o1,o2⟩,?_,?_⟩
 · cases hb:X7 x.op 64 with
   | true=>
     rw [hb,Bool.not_true,Bool.false_or,Bool.and_eq_true] at c7
     have:=of_decide_eq_true c7.2
     omega
   | false=>
     have:x.skip=0:=by
       have h1:x.skip=x.needed.skip:=congrArg Ins.skip e
       have h2:x.needed.skip=bif X7 x.op 64 then x.skip else 0:=rfl
       rw [h1,h2,hb];rfl
     rw [this]
     show k+1+0≤_
     omega
 · cases hb:X7 x.op 2 with
   | true=>
     rw [hb,Bool.not_true,Bool.false_or] at c3
     have:=of_decide_eq_true c3
     omega
   | false=>
     have:x.loc=0:=by
       have h1:x.loc=x.needed.loc:=congrArg Ins.loc e
       have h2:x.needed.loc=bif X7 x.op 2 then x.loc else 0:=rfl
       rw [h1,h2,hb];rfl
     rw [this]
     decide
structure InvR (l:List Ins) (r:RunP):Prop where
 pc:r.pc≤l.length
 many:r.many≤2 * r.pc
 sets:SetsOk r
theorem WD (l:List Ins):InvR l zRun:=⟨Nat.zero_le _,Nat.zero_le _,⟨fun _ _=>V6,V6,fun _=>V6,fun _=>V6,fun _=>V6⟩⟩
theorem InvR.ok {l:List Ins} {r:RunP} (h:InvR l r) (hl:XH 6 l=true) (hp:r.pc < l.length):RunOk r:=by
 have:=Z4 hl
 have:=h.many
 exact ⟨h.sets,by omega,by omega⟩
theorem Y2 (x:Ins) (v:UInt8) (r:RunP):r.pc+1≤(X8 x v r).pc∧(X8 x v r).pc≤r.pc+1+x.skip.toNat:=by
 have:=XaD x v r
 unfold X8
 rw [Xb5]
 omega
theorem ZJ {l:List Ins} {r:RunP} {x:Ins} (v:UInt8) (h:InvR l r) (hl:XH 6 l=true) (hx:l[r.pc]? = some x):InvR l (X8 x v r):=by
 have hp:=(List.getElem?_eq_some_iff.1 hx).1
 have hT:=Vi hl hx
 have hk:=h.ok hl hp
 have h1:=Y2 x v r
 have h2:=CZ x v r
 have h3:=hT.skip
 have h4:=h.many
 refine ⟨by omega,?_,(CY v hT.inr h.sets hk.many).pc _⟩
 have:(X8 x v r).many=(YX x v r).many:=by unfold X8;rw [MF]
 omega
def XU (op:UInt8):Bool:=op == 1 || op == 4 || op == 5 || op == 6
def Yt (l:List Ins):Nat→RunP→RunP
 | 0,r=>r
 | n+1,r=>match l[r.pc]? with
   | some x=>if XU x.op=true then r else Yt l n (X8 x 0 r)
   | none=>r
def XD (l:List Ins) (r:RunP):RunP:=Yt l (l.length - r.pc) r
def X2 (l:List Ins) (r:RunP):Bool:=match l[r.pc]? with
 | some x=>XU x.op
 | none=>false
theorem Zi {l:List Ins} {r:RunP} (h:X2 l r=true∨l[r.pc]? = none):∀ n,Yt l n r=r
 | 0=>rfl
 | n+1=>by
   unfold Yt
   rcases h with h | h
   · unfold X2 at h
     cases hx:l[r.pc]? with
     | none=>rfl
     | some x=>
       rw [hx] at h
       show (if XU x.op=true then r else _)=r
       rw [if_pos h]
   · rw [h]
theorem JR {l:List Ins}:∀ (n:Nat) (r:RunP),l.length - r.pc≤n→Yt l n r=XD l r
 | n,r,h=>by
   induction n using Nat.strongRecOn generalizing r with
   | _ n ih=>
     cases hx:l[r.pc]? with
     | none=>rw [Zi (.inr hx)];unfold XD;rw [Zi (.inr hx)]
     | some x=>
       have hp:=(List.getElem?_eq_some_iff.1 hx).1
       obtain ⟨m,hm⟩:∃ m,l.length - r.pc=m+1:=⟨l.length - r.pc - 1,by omega⟩
       obtain ⟨k,rfl⟩:∃ k,n=k+1:=⟨n - 1,by omega⟩
       cases hr:XU x.op with
       | true=>
         have hw:X2 l r=true:=by unfold X2;rw [hx];exact hr
         rw [Zi (.inl hw)];unfold XD;rw [Zi (.inl hw)]
       | false=>
         have e1:∀ j,Yt l (j+1) r=Yt l j (X8 x 0 r):=fun j=>by
           show (match l[r.pc]? with | some x=>if XU x.op=true then r else Yt l j (X8 x 0 r) | none=>r)=_
           rw [hx]
           show (if XU x.op=true then r else Yt l j (X8 x 0 r))=_
           rw [if_neg (by rw [hr];exact Bool.noConfusion)]
         have hpc:=Y2 x 0 r
         unfold XD
         rw [hm,e1 k,e1 m,ih k (by omega) _ (by omega),ih m (by omega) _ (by omega)]
theorem Zz {l:List Ins} {r:RunP} {x:Ins} (hx:l[r.pc]? = some x) (hr:XU x.op=false):XD l r=XD l (X8 x 0 r):=by
 have hp:=(List.getElem?_eq_some_iff.1 hx).1
 have hpc:=Y2 x 0 r
 obtain ⟨m,hm⟩:∃ m,l.length - r.pc=m+1:=⟨l.length - r.pc - 1,by omega⟩
 rw [← JR m (X8 x 0 r) (by omega)]
 unfold XD
 rw [hm]
 show (match l[r.pc]? with | some x=>if XU x.op=true then r else Yt l m (X8 x 0 r) | none=>r)=_
 rw [hx]
 show (if XU x.op=true then r else Yt l m (X8 x 0 r))=_
 rw [if_neg (by rw [hr];exact Bool.noConfusion)]
theorem XV {l:List Ins} {r:RunP} (h:X2 l r=true∨l[r.pc]? = none):XD l r=r:=Zi h _
theorem Vw {l:List Ins} {M:RunP→Prop} (hs:∀ r x,M r→l[r.pc]? = some x→XU x.op=false→M (X8 x 0 r)):∀ (n:Nat) (r:RunP),M r→M (Yt l n r)
 | 0,_,h=>h
 | n+1,r,h=>by
   unfold Yt
   cases hx:l[r.pc]? with
   | none=>exact h
   | some x=>
     show M (if XU x.op=true then r else Yt l n (X8 x 0 r))
     cases hr:XU x.op with
     | true=>rw [if_pos rfl];exact h
     | false=>rw [if_neg Bool.noConfusion];exact Vw hs n _ (hs r x h hx hr)
theorem Vv {l:List Ins} {r:RunP} (hl:XH 6 l=true) (h:InvR l r):InvR l (XD l r):=Vw (fun _ _ h hx _=>ZJ 0 h hl hx) _ r h
theorem Gp {l:List Ins}:∀ (n:Nat) (r:RunP),l.length - r.pc≤n→X2 l (Yt l n r)=true∨l[(Yt l n r).pc]? = none
 | 0,r,h=>.inr (List.getElem?_eq_none (by show l.length≤r.pc;omega))
 | n+1,r,h=>by
   unfold Yt
   cases hx:l[r.pc]? with
   | none=>exact .inr hx
   | some x=>
     show X2 l (if XU x.op=true then r else Yt l n (X8 x 0 r))=true∨l[(if XU x.op=true then r else Yt l n (X8 x 0 r)).pc]? = none
     cases hr:XU x.op with
     | true=>rw [if_pos rfl];exact .inl (by unfold X2;rw [hx];exact hr)
     | false=>rw [if_neg Bool.noConfusion];exact Gp n _ (by have:=Y2 x 0 r;omega)
inductive Fol where
 | wants:Fol
 | many:Fol
 | done (r:RunP):Fol
def Y0 (l:List Ins) (r:RunP):Ins:=(l[r.pc]?).getD ⟨0,0,0,false,0,false,0,0,0,0⟩
def goP (l:List Ins):List UInt8→RunP→Fol
 | [],r=>if X2 l (XD l r)=true then .wants else .done (XD l r)
 | v :: vs,r=>if X2 l (XD l r)=true then goP l vs (X8 (Y0 l (XD l r)) v (XD l r)) else .many
def UE (l:List Ins) (reads:List UInt8):Fol:=goP l reads zRun
theorem VN {l:List Ins} {r:RunP} (h:X2 l r=true):l[r.pc]? = some (Y0 l r)∧XU (Y0 l r).op=true:=by
 unfold X2 at h
 unfold Y0
 cases hx:l[r.pc]? with
 | none=>rw [hx] at h;exact Bool.noConfusion h
 | some x=>rw [hx] at h;exact ⟨rfl,h⟩
end Go.Proofs.YtagnefpgidbhnaaGreatDoor
