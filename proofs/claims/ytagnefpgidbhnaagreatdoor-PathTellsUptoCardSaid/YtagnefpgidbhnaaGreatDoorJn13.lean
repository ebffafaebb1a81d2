/-
  WALK2. The reference of layer 8: step. Conditions: the state lies in memory; the instruction is a right one.
-/
import Derived.Test.YtagnefpgidbhnaaGreatDoorReF
set_option linter.unusedSimpArgs false
set_option linter.unusedVariables false
namespace Go.Proofs.YtagnefpgidbhnaaGreatDoor
-- ReG
open Go.Proofs.Tryz
open Go.RowKit
set_option maxRecDepth 100000
structure StepG where
 r:RunP
 A:Option Addr
 l:List UInt8
 C:Nat
 W:Bool
 K:Nat
def Yj (x:Ins) (r:RunP) (LA:Option Addr) (LC:Nat) (lf:List UInt8):StepG:=
 if XU x.op=true then ⟨atR x r lf,rdA LA LC lf,lf.tail,rdC LC lf,lf.isEmpty,0⟩ else ⟨YX x 0 r,LA,lf,LC,false,(YX x 0 r).pc - r.pc⟩
theorem UY {x:Ins} {r:RunP} {LA:Option Addr} {LC:Nat} {lf:List UInt8} (h:XU x.op=true):Yj x r LA LC lf=⟨atR x r lf,rdA LA LC lf,lf.tail,rdC LC lf,lf.isEmpty,0⟩:=if_pos h
theorem Y7 {x:Ins} {r r':RunP} {LA:Option Addr} {LC k:Nat} {lf:List UInt8} (h:XU x.op=false) (he:YX x 0 r=r') (hk:r'.pc=r.pc+k):Yj x r LA LC lf=⟨r',LA,lf,LC,false,k⟩:=by
 unfold Yj
 rw [if_neg (fun e=>Bool.noConfusion (h.symm.trans e)),he,hk,Nat.add_sub_cancel_left]
theorem M6 {w:World} {A:Option Addr} {n:Nat} {rows:List (List Value)} (h:RowsAt w A n rows):MemL w [(A,n,rows)]:=fun x hx=>by rw [List.mem_singleton.1 hx];exact h
theorem Own.blkL {w0 w:World} {row:Option Nat} {b:Nat} {x:Value} {e:TypeId} {rs:List Res} (H:Own w0 row w rs) (i:Nat) (hi:rs[i]? = some (.blk b [x] e)):MemL w [(some ⟨b,0,.none⟩,1,[[x]])]:=M6 fun j cs hj=>by
 have h:w.rangeAt b 0 [x]:=H.whole i hi
 match j,hj with
 | 0,hj=>cases hj;exact ⟨b,0,rfl,h⟩
theorem StOk.pc {L:List Sl} {v:SA} {r:RunP} {k:Nat} (h:StOk L v r):StOk L v (r.wPc k):=⟨h.R,h.on,h.C,h.E,h.D,h.K,h.M⟩
def opR (x:Ins):Prop:=x.op=1∨x.op=2∨x.op=3∨x.op=4∨x.op=5∨x.op=6∨x.op=7∨x.op=8
set_option maxHeartbeats 4000000 in
theorem Jt (L:List Sl) (v:SA) (r:RunP) (LA:Option Addr) (LC:Nat) (lf:List UInt8) (x:Ins) (w0:World) (hM:MemL w0 L) (hS:StOk L v r) (hx:InR x) (hop:opR x) (hf3:x.op=3→x.fn=1∨x.fn=2∨x.fn=3) (hf8:x.op=8→x.fn=4∨x.fn=5∨x.fn=6) (hm:r.many+1 < 24) (hs:SetsOk r) (hz:∀ k,r.many≤k→r.att k=0) (hl:RowsAt w0 LA 1 (XN lf)) :
   Calls Tryz.prog 37 #[.agg (v.cells r LA lf.length LC false).toArray,.agg x.cells.toArray,.int .i64 ((r.pc:Nat):Int)] w0 fun e w'=>∃ v' S L',e = .returned (.tuple #[.agg (v'.cells (Yj x r LA LC lf).r (Yj x r LA LC lf).A (Yj x r LA LC lf).l.length (Yj x r LA LC lf).C (Yj x r LA LC lf).W).toArray,.int .i64 (((Yj x r LA LC lf).K:Nat):Int)])∧StOk (L'++L) v' (Yj x r LA LC lf).r∧Own w0 none w' [.mem S L']:=by
 have H:=Own.start w0 none
 have hm24:r.many < 24:=by omega
 have hbt:=UT hm24
 have hdA:=hs.arg x.aR hx.a
 have hdB:=hs.arg x.bR hx.b
 have hdAB:=GA hdA hdB
 have hbA:=Y6 hdA
 have hbB:=Y6 hdB
 have hbAB:=Y6 hdAB
 have hbC:=Y6 hs.control
 have hb8:=No hm24
 refine XE func37 rfl ntmps37 rfl (fun a F=>?_);refine cSR fun K1 hK1=>?_;refine sBx H F rfl rfl rfl ?_;clear F a H;intro b3 a w F H;refine sBx H F rfl rfl rfl ?_;clear F a H;intro b4 a w F H;refine sAl H zeroValue77 F rfl rfl ?_;clear F a H;intro b6 a w F H;refine Xa F rfl ?_;clear F a;intro a F;refine sNil ?_
 replace H:Own w0 none w [.blk b6 Y1 77,.blk b4 x.cells 61,.blk b3 (v.cells r LA lf.length LC false) 77]:=H
 refine hK1 _ _ ?_;clear hK1;refine cSeq (fun K2 hK2=>?_);refine cRegRO (by kernel_rfl) H ?_;replace H:=H.drew
 refine XA (k:=0) (i:=0) rfl F rfl rfl (fun w H=>rLr underlying77 rfl ?si F rfl (H.whole 2 rfl)) H (fun _ _ _ h=>h) ?_
 case si=>exact XC sizeOf77
 clear F a;intro a F;refine Xt 1 rfl F rfl (fun w=>rFa (f:=3) (k:=3) underlying61 rfl sizeOf59 rfl rfl F rfl) H qq0 ?_;clear F a;intro a F
 refine XA (k:=2) (i:=2) rfl F rfl rfl (fun w H=>rLr underlying59 rfl ?si F rfl (H.range 1 rfl _ 2)) H (fun _ _ _ h=>h) ?_
 case si=>exact XC sizeOf59
 clear F a;intro a F
 refine XA (k:=3) (i:=4) rfl F rfl rfl (fun w H=>rLr underlying77 rfl ?si F rfl (H.whole 2 rfl)) H (fun _ _ _ h=>h) ?_
 case si=>exact XC sizeOf77
 clear F a;intro a F;refine Xt 5 rfl F rfl (fun w=>rFa (f:=4) (k:=5) underlying61 rfl sizeOf59 rfl rfl F rfl) H qq0 ?_;clear F a;intro a F
 refine XA (k:=5) (i:=6) rfl F rfl rfl (fun w H=>rLr underlying59 rfl ?si F rfl (H.range 1 rfl _ 2)) H (fun _ _ _ h=>h) ?_
 case si=>exact XC sizeOf59
 clear F a;intro a F
 refine Ee F H [2,3,4,6] 10 [true,true,true,true,true,true,true,true,true,true,false,false] (fun rs ups w=>∃ onA onB b8 b9,ups=[(17,.agg #[Go.Proofs.YtagnefpgidbhnaaGreatDoor.b8 (Yc x.aR x.aN r),onA]),(21,.agg #[Go.Proofs.YtagnefpgidbhnaaGreatDoor.b8 (Yc x.bR x.bN r),onB]),(8,.pointer (some ⟨b8,0,none⟩)),(9,.pointer (some ⟨b9,0,none⟩))]∧OnOk L onA (XY x.aR x.aN r)∧OnOk L onB (XY x.bR x.bN r)∧onA.oneCell'=true∧onB.oneCell'=true∧Own w0 none w ((.blk b8 [.int .u8 0,.slice none 0 0] 99) :: (.blk b9 [.int .u8 0,.slice none 0 0] 99) :: rs)) (by repeat (first | exact SubR.nil | (apply SubR.cons;· rfl))) ?_ (fun hJ=>?_)
 rotate_left
 ·
  refine Lh (k:=6) (i:=3) (j:=8) (n:=9) (by kernel_rfl) F rfl rfl rfl rfl rfl rfl ?_ ?_ ?_
  ·
   refine XS call57 F rfl rfl (XI L v r LA lf.length LC false x.aR x.aN _ (hM.own H) hS hx.a) ?_;rintro e w ⟨onA,rfl,hoA,hb⟩
   replace H:=H.grow hb;have hcA:=X3 hoA
   refine ⟨_,rfl,?_⟩;clear F a;intro a F;refine XM H ?_
   refine Lh (k:=7) (i:=7) (j:=8) (n:=9) (by kernel_rfl) F rfl rfl rfl rfl rfl rfl ?_ ?_ ?_
   ·
    refine XS call57 F rfl rfl (XI L v r LA lf.length LC false x.bR x.bN _ (hM.own H) hS hx.b) ?_;rintro e w ⟨onB,rfl,hoB,hb⟩
    replace H:=H.grow hb;have hcB:=X3 hoB
    refine ⟨_,rfl,?_⟩;clear F a;intro a F;refine XM H ?_
    refine Ja (k:=8) (i:=8) (j:=9) (by kernel_rfl) F rfl rfl rfl rfl ?_ ?_
    ·
     refine oAl H zeroValue99 F rfl ?_;clear F a H;intro b8 a w F H;refine XM H.tail ?_;refine Xx (k:=9) (i:=9) rfl (by kernel_rfl) F (oAl H zeroValue99 F rfl ?_);clear F a H;intro b9 a w F H;refine XM H.tail.tail ?_
     exact eGo hJ (by kernel_rfl) _ ⟨onA,onB,b8,b9,rfl,by assumption,by assumption,by assumption,by assumption,H.sel [1,0,2,3,4] rfl rfl⟩ F.tt
    refine oAl H zeroValue99 F rfl ?_;clear F a H;intro b9 a w F H;refine XM H.tail ?_;refine Xx (k:=9) (i:=8) rfl (by kernel_rfl) F (oAl H zeroValue99 F rfl ?_);clear F a H;intro b8 a w F H;refine XM H.tail.tail ?_
    exact eGo hJ (by kernel_rfl) _ ⟨onA,onB,b8,b9,rfl,by assumption,by assumption,by assumption,by assumption,H.sel [0,1,2,3,4] rfl rfl⟩ F.tt
   ·
    refine oAl H zeroValue99 F rfl ?_;clear F a H;intro b8 a w F H;refine XM H.tail ?_
    refine Ja (k:=8) (i:=7) (j:=9) (by kernel_rfl) F rfl rfl rfl rfl ?_ ?_
    ·
     refine XS call57 F rfl rfl (XI L v r LA lf.length LC false x.bR x.bN _ (hM.own H) hS hx.b) ?_;rintro e w ⟨onB,rfl,hoB,hb⟩
     replace H:=H.grow hb;have hcB:=X3 hoB
     refine ⟨_,rfl,?_⟩;clear F a;intro a F;refine XM H.tail ?_;refine Xx (k:=9) (i:=9) rfl (by kernel_rfl) F (oAl H zeroValue99 F rfl ?_);clear F a H;intro b9 a w F H;refine XM H.tail.tail ?_
     exact eGo hJ (by kernel_rfl) _ ⟨onA,onB,b8,b9,rfl,by assumption,by assumption,by assumption,by assumption,H.sel [1,0,2,3,4] rfl rfl⟩ F.tt
    refine oAl H zeroValue99 F rfl ?_;clear F a H;intro b9 a w F H;refine XM H.tail.tail ?_;refine Xx (k:=9) (i:=7) rfl (by kernel_rfl) F (XS call57 F rfl rfl (XI L v r LA lf.length LC false x.bR x.bN _ (hM.own H) hS hx.b) ?_);rintro e w ⟨onB,rfl,hoB,hb⟩
    replace H:=H.grow hb;have hcB:=X3 hoB
    refine ⟨_,rfl,?_⟩;clear F a;intro a F;refine XM H.tail.tail ?_
    exact eGo hJ (by kernel_rfl) _ ⟨onA,onB,b8,b9,rfl,by assumption,by assumption,by assumption,by assumption,H.sel [1,0,2,3,4] rfl rfl⟩ F.tt
   refine oAl H zeroValue99 F rfl ?_;clear F a H;intro b9 a w F H;refine XM H.tail ?_
   refine Ja (k:=8) (i:=7) (j:=8) (by kernel_rfl) F rfl rfl rfl rfl ?_ ?_
   ·
    refine XS call57 F rfl rfl (XI L v r LA lf.length LC false x.bR x.bN _ (hM.own H) hS hx.b) ?_;rintro e w ⟨onB,rfl,hoB,hb⟩
    replace H:=H.grow hb;have hcB:=X3 hoB
    refine ⟨_,rfl,?_⟩;clear F a;intro a F;refine XM H.tail ?_;refine Xx (k:=9) (i:=8) rfl (by kernel_rfl) F (oAl H zeroValue99 F rfl ?_);clear F a H;intro b8 a w F H;refine XM H.tail.tail ?_
    exact eGo hJ (by kernel_rfl) _ ⟨onA,onB,b8,b9,rfl,by assumption,by assumption,by assumption,by assumption,H.sel [0,1,2,3,4] rfl rfl⟩ F.tt
   refine oAl H zeroValue99 F rfl ?_;clear F a H;intro b8 a w F H;refine XM H.tail.tail ?_;refine Xx (k:=9) (i:=7) rfl (by kernel_rfl) F (XS call57 F rfl rfl (XI L v r LA lf.length LC false x.bR x.bN _ (hM.own H) hS hx.b) ?_);rintro e w ⟨onB,rfl,hoB,hb⟩
   replace H:=H.grow hb;have hcB:=X3 hoB
   refine ⟨_,rfl,?_⟩;clear F a;intro a F;refine XM H.tail.tail ?_
   exact eGo hJ (by kernel_rfl) _ ⟨onA,onB,b8,b9,rfl,by assumption,by assumption,by assumption,by assumption,H.sel [0,1,2,3,4] rfl rfl⟩ F.tt
  ·
   refine oAl H zeroValue99 F rfl ?_;clear F a H;intro b8 a w F H;refine XM H.tail ?_
   refine Ja (k:=7) (i:=3) (j:=9) (by kernel_rfl) F rfl rfl rfl rfl ?_ ?_
   ·
    refine XS call57 F rfl rfl (XI L v r LA lf.length LC false x.aR x.aN _ (hM.own H) hS hx.a) ?_;rintro e w ⟨onA,rfl,hoA,hb⟩
    replace H:=H.grow hb;have hcA:=X3 hoA
    refine ⟨_,rfl,?_⟩;clear F a;intro a F;refine XM H.tail ?_
    refine Ja (k:=8) (i:=7) (j:=9) (by kernel_rfl) F rfl rfl rfl rfl ?_ ?_
    ·
     refine XS call57 F rfl rfl (XI L v r LA lf.length LC false x.bR x.bN _ (hM.own H) hS hx.b) ?_;rintro e w ⟨onB,rfl,hoB,hb⟩
     replace H:=H.grow hb;have hcB:=X3 hoB
     refine ⟨_,rfl,?_⟩;clear F a;intro a F;refine XM H.tail ?_;refine Xx (k:=9) (i:=9) rfl (by kernel_rfl) F (oAl H zeroValue99 F rfl ?_);clear F a H;intro b9 a w F H;refine XM H.tail.tail ?_
     exact eGo hJ (by kernel_rfl) _ ⟨onA,onB,b8,b9,rfl,by assumption,by assumption,by assumption,by assumption,H.sel [1,0,2,3,4] rfl rfl⟩ F.tt
    refine oAl H zeroValue99 F rfl ?_;clear F a H;intro b9 a w F H;refine XM H.tail.tail ?_;refine Xx (k:=9) (i:=7) rfl (by kernel_rfl) F (XS call57 F rfl rfl (XI L v r LA lf.length LC false x.bR x.bN _ (hM.own H) hS hx.b) ?_);rintro e w ⟨onB,rfl,hoB,hb⟩
    replace H:=H.grow hb;have hcB:=X3 hoB
    refine ⟨_,rfl,?_⟩;clear F a;intro a F;refine XM H.tail.tail ?_
    exact eGo hJ (by kernel_rfl) _ ⟨onA,onB,b8,b9,rfl,by assumption,by assumption,by assumption,by assumption,H.sel [1,0,2,3,4] rfl rfl⟩ F.tt
   refine oAl H zeroValue99 F rfl ?_;clear F a H;intro b9 a w F H;refine XM H.tail.tail ?_;refine Xx (k:=8) (i:=3) rfl (by kernel_rfl) F (XS call57 F rfl rfl (XI L v r LA lf.length LC false x.aR x.aN _ (hM.own H) hS hx.a) ?_);rintro e w ⟨onA,rfl,hoA,hb⟩
   replace H:=H.grow hb;have hcA:=X3 hoA
   refine ⟨_,rfl,?_⟩;clear F a;intro a F;refine XM H.tail.tail ?_;refine Xx (k:=9) (i:=7) rfl (by kernel_rfl) F (XS call57 F rfl rfl (XI L v r LA lf.length LC false x.bR x.bN _ (hM.own H) hS hx.b) ?_);rintro e w ⟨onB,rfl,hoB,hb⟩
   replace H:=H.grow hb;have hcB:=X3 hoB
   refine ⟨_,rfl,?_⟩;clear F a;intro a F;refine XM H.tail.tail ?_
   exact eGo hJ (by kernel_rfl) _ ⟨onA,onB,b8,b9,rfl,by assumption,by assumption,by assumption,by assumption,H.sel [1,0,2,3,4] rfl rfl⟩ F.tt
  refine oAl H zeroValue99 F rfl ?_;clear F a H;intro b9 a w F H;refine XM H.tail ?_
  refine Ja (k:=7) (i:=3) (j:=8) (by kernel_rfl) F rfl rfl rfl rfl ?_ ?_
  ·
   refine XS call57 F rfl rfl (XI L v r LA lf.length LC false x.aR x.aN _ (hM.own H) hS hx.a) ?_;rintro e w ⟨onA,rfl,hoA,hb⟩
   replace H:=H.grow hb;have hcA:=X3 hoA
   refine ⟨_,rfl,?_⟩;clear F a;intro a F;refine XM H.tail ?_
   refine Ja (k:=8) (i:=7) (j:=8) (by kernel_rfl) F rfl rfl rfl rfl ?_ ?_
   ·
    refine XS call57 F rfl rfl (XI L v r LA lf.length LC false x.bR x.bN _ (hM.own H) hS hx.b) ?_;rintro e w ⟨onB,rfl,hoB,hb⟩
    replace H:=H.grow hb;have hcB:=X3 hoB
    refine ⟨_,rfl,?_⟩;clear F a;intro a F;refine XM H.tail ?_;refine Xx (k:=9) (i:=8) rfl (by kernel_rfl) F (oAl H zeroValue99 F rfl ?_);clear F a H;intro b8 a w F H;refine XM H.tail.tail ?_
    exact eGo hJ (by kernel_rfl) _ ⟨onA,onB,b8,b9,rfl,by assumption,by assumption,by assumption,by assumption,H.sel [0,1,2,3,4] rfl rfl⟩ F.tt
   refine oAl H zeroValue99 F rfl ?_;clear F a H;intro b8 a w F H;refine XM H.tail.tail ?_;refine Xx (k:=9) (i:=7) rfl (by kernel_rfl) F (XS call57 F rfl rfl (XI L v r LA lf.length LC false x.bR x.bN _ (hM.own H) hS hx.b) ?_);rintro e w ⟨onB,rfl,hoB,hb⟩
   replace H:=H.grow hb;have hcB:=X3 hoB
   refine ⟨_,rfl,?_⟩;clear F a;intro a F;refine XM H.tail.tail ?_
   exact eGo hJ (by kernel_rfl) _ ⟨onA,onB,b8,b9,rfl,by assumption,by assumption,by assumption,by assumption,H.sel [0,1,2,3,4] rfl rfl⟩ F.tt
  refine oAl H zeroValue99 F rfl ?_;clear F a H;intro b8 a w F H;refine XM H.tail.tail ?_;refine Xx (k:=8) (i:=3) rfl (by kernel_rfl) F (XS call57 F rfl rfl (XI L v r LA lf.length LC false x.aR x.aN _ (hM.own H) hS hx.a) ?_);rintro e w ⟨onA,rfl,hoA,hb⟩
  replace H:=H.grow hb;have hcA:=X3 hoA
  refine ⟨_,rfl,?_⟩;clear F a;intro a F;refine XM H.tail.tail ?_;refine Xx (k:=9) (i:=7) rfl (by kernel_rfl) F (XS call57 F rfl rfl (XI L v r LA lf.length LC false x.bR x.bN _ (hM.own H) hS hx.b) ?_);rintro e w ⟨onB,rfl,hoB,hb⟩
  replace H:=H.grow hb;have hcB:=X3 hoB
  refine ⟨_,rfl,?_⟩;clear F a;intro a F;refine XM H.tail.tail ?_
  exact eGo hJ (by kernel_rfl) _ ⟨onA,onB,b8,b9,rfl,by assumption,by assumption,by assumption,by assumption,H.sel [0,1,2,3,4] rfl rfl⟩ F.tt
 clear F H;intro ups a w hI F
 obtain ⟨onA,onB,b8,b9,rfl,hfl0,hfl1,hfl2,hfl3,H⟩:=hI
 refine Xx (k:=10) (i:=10) rfl (by kernel_rfl) F (oSr H 0 ?si F rfl rfl ?s1 rfl rfl ?_)
 case si=>exact XC sizeOf99
 case s1=>(repeat (first | exact VA | (apply Wx;· first | rfl | assumption | exact VB rfl rfl)))
 clear H;intro w H;refine XF (by kernel_rfl) H ?_
 refine Xx (k:=11) (i:=11) rfl (by kernel_rfl) F (oSr H 1 ?si F rfl rfl ?s1 rfl rfl ?_)
 case si=>exact XC sizeOf99
 case s1=>(repeat (first | exact VA | (apply Wx;· first | rfl | assumption | exact VB rfl rfl)))
 clear H;intro w H;refine XF (by kernel_rfl) H ?_;refine eNil (k:=12) (by kernel_rfl) ?_
 obtain ⟨AA,Ac,rfl,hAI⟩:=hfl0;obtain ⟨AB,Bc,rfl,hBI⟩:=hfl1;replace H:Own w0 none w [.blk b8 [Go.Proofs.YtagnefpgidbhnaaGreatDoor.b8 (Yc x.aR x.aN r),.slice AA (XR (XY x.aR x.aN r)).length Ac] 99,.blk b9 [Go.Proofs.YtagnefpgidbhnaaGreatDoor.b8 (Yc x.bR x.bN r),.slice AB (XR (XY x.bR x.bN r)).length Bc] 99,.blk b6 Y1 77,.blk b4 x.cells 61,.blk b3 (v.cells r LA lf.length LC false) 77]:=H
 refine hK2 _ _ ?_;clear hK2;refine cSeq (fun K3 hK3=>?_);refine cSR fun K4 hK4=>Xi (f:=0) (k:=0) underlying61 rfl sizeOf5 rfl rfl F rfl (Xc isAgg5 rfl (H.cell 3 rfl rfl) (qNK hK4 ?_));clear hK4;clear F a;intro a F;refine wp_block ?_;refine cSR fun K5 hK5=>Xm F rfl rfl (XZ (y:=1)) (Xh rfl (qNK hK5 ?_));clear hK5;clear F a;intro a F
 refine cIf F rfl (fun h24=>?_) (fun h24=>?_)
 ·
  replace h24:=Yh h24
  have h1:x.op=1:=h24
  refine cSR fun K6 hK6=>?_
  refine Xo underlying77 rfl ?si F rfl (H.whole 4 rfl) ?_
  case si=>exact XC sizeOf77
  clear F a;intro a F;refine Xi (f:=2) (k:=2) underlying61 rfl sizeOf5 rfl rfl F rfl (Xc isAgg5 rfl (H.cell 3 rfl rfl) (Xb (f:=6) (k:=8) underlying61 rfl sizeOf5 rfl rfl rfl (Xc isAgg5 rfl (H.cell 3 rfl rfl) (Xd rfl ?_))));clear F a;intro a F;refine Xn call58 F rfl (Gj L v r LA LC lf x.loc x.mode r.pc _ (hM.own H) hS hm24 hs (hz _ (Nat.le_refl _)) (hl.own H)) ?_;rintro e w ⟨v1,S1,L1,rfl,hS1,H2⟩;replace H:=H.join H2;clear H2;refine ⟨_,rfl,?_⟩;clear F a;intro a F;refine Xl F rfl (XB rfl rfl (XB rfl rfl (XB rfl rfl ?_)));clear F a;intro a F;refine sAl H zeroValue77 F rfl rfl ?_;clear F a H;intro b10 a w F H
  refine sSr H 0 ?si F rfl rfl rfl ?s1 rfl rfl ?_
  case si=>exact XC sizeOf77
  case s1=>rfl
  clear H;intro w H;refine Xa F rfl (Xh rfl ?_);clear F a;intro a F;refine sNil ?_;rw [XG (by rfl)] at H;refine hK6 _ _ ?_;clear hK6;refine cSeq (fun K7 hK7=>?_);refine cSR fun K8 hK8=>Xi (f:=4) (k:=15) underlying77 rfl sizeOf4 rfl rfl F rfl (Xc isAgg4 rfl (H.cell 0 rfl rfl) (qNK hK8 ?_));clear hK8;clear F a;intro a F
  refine cIf F rfl (fun h38=>?_) (fun h38=>?_)
  ·
   obtain rfl:lf=[]:=List.isEmpty_iff.1 h38
   refine cSR fun K9 hK9=>?_
   refine Xo underlying77 rfl ?si F rfl (H.whole 0 rfl) ?_
   case si=>exact XC sizeOf77
   clear F a;intro a F
   refine sSr H 4 ?si F rfl rfl rfl ?s1 rfl rfl ?_
   case si=>exact XC sizeOf77
   case s1=>rfl
   clear H;intro w H;refine Xa F rfl ?_;clear F a;intro a F;refine sNil ?_
   rw [XG (cs:=Y1) (by simp [SA.cells,Y1])] at H
   refine hK9 _ _ ?_;clear hK9;refine wp_ret ?_;refine xI ?_;refine ZG results37 F rfl rfl underlying77 rfl H 4 rfl sizeOf77 rfl ?_
   (rw [UY (by rw [h1];rfl)]
    exact ⟨v1,S1,L1,rfl,hS1,H.sel [1] rfl rfl⟩)
  obtain ⟨y,l,rfl⟩:∃ y l,lf=y :: l:=by
   cases lf with
   | nil=>exact absurd h38 (by decide)
   | cons y l=>exact ⟨y,l,rfl⟩
  replace hS1:StOk (L1++L) v1 (emitD 1 x.loc y x.mode (UInt8.ofNat r.pc) 0 0 r):=hS1
  refine wp_skip (hK7 _ _ (cSR fun K10 hK10=>?_));clear hK7
  refine Xo underlying77 rfl ?si F rfl (H.whole 0 rfl) ?_
  case si=>exact XC sizeOf77
  clear F a;intro a F;refine Xi (f:=1) (k:=1) underlying61 rfl sizeOf5 rfl rfl F rfl (Xc isAgg5 rfl (H.cell 5 rfl rfl) (Xd rfl (Xd rfl ?_)));clear F a;intro a F;refine MP H underlying23 sizeOf5 zeroValue5 rfl F rfl rfl rfl rfl ?_;clear F a H;intro b45 a w F H;refine sBd (cs:=[Go.Proofs.YtagnefpgidbhnaaGreatDoor.b8 y,.slice (some ⟨b45,0,none⟩) 1 1]) (places:=[(0,1),(1,1)]) zeroValue99 underlying99 (by kernel_rfl) F rfl rfl rfl rfl ?_;clear F a;intro a F;refine Xn call59 F rfl (ZN (([(some ⟨b45,0,none⟩,1,[[Go.Proofs.YtagnefpgidbhnaaGreatDoor.b8 (UInt8.ofNat r.many)]])]++L1)++L) v1 _ _ _ _ false x.dst y (.slice (some ⟨b45,0,none⟩) 1 1) (Y3 r.many) _ (((H.blkL 0 rfl).app (H.memAt 2 rfl)).app (hM.own H)) (by rw [List.append_assoc];exact hS1.right) hx.d ⟨_,_,(by rw [hb8];rfl),(by rw [hb8];exact InL.head.left.left)⟩) ?_;rintro e w ⟨v4,S4,L4,rfl,hS4,H2⟩;replace H:=H.join H2;clear H2;refine ⟨_,rfl,?_⟩;clear F a;intro a F
  refine sSr H 6 ?si F rfl rfl rfl ?s1 rfl rfl ?_
  case si=>exact XC sizeOf77
  case s1=>rfl
  clear H;intro w H;refine Xa F rfl ?_;clear F a;intro a F;refine sNil ?_
  rw [XG (cs:=Y1) (by simp [SA.cells,Y1])] at H
  refine hK10 _ _ ?_;clear hK10;refine wp_ret ?_;refine xI ?_;refine ZG results37 F rfl rfl underlying77 rfl H 6 rfl sizeOf77 rfl ?_
  (have e1:=XbD h1 y r
   rw [UY (by rw [h1];rfl)]
   refine ⟨v4,_,(L4++[(some ⟨b45,0,none⟩,1,[[Go.Proofs.YtagnefpgidbhnaaGreatDoor.b8 (UInt8.ofNat r.many)]])])++L1,?_,?_,((((H.sel [1,0,3] rfl rfl).blkMem).sel [1,0,2] rfl rfl).memFuse).memFuse⟩
   · show _=Ending.returned (.tuple #[.agg (v4.cells (YX x y r) (Ll LA LC) l.length (LC - 1) false).toArray,.int .i64 ((0:Nat):Int)])
     rw [e1];rfl
   · show StOk _ _ (YX x y r)
     rw [e1];simp only [List.append_assoc] at hS4 ⊢;exact hS4)
 replace h24:=Yi h24;refine cSR fun K11 hK11=>Xm F rfl rfl (XZ (y:=2)) (Xh rfl (qNK hK11 ?_));clear hK11;clear F a;intro a F
 refine cIf F rfl (fun h48=>?_) (fun h48=>?_)
 ·
  replace h48:=Yh h48
  have h2:x.op=2:=h48
  refine cSR fun K12 hK12=>?_
  refine Xo underlying77 rfl ?si F rfl (H.whole 4 rfl) ?_
  case si=>exact XC sizeOf77
  clear F a;intro a F;refine Xi (f:=2) (k:=2) underlying61 rfl sizeOf5 rfl rfl F rfl (Xc isAgg5 rfl (H.cell 3 rfl rfl) (Xb (f:=0) (k:=0) underlying99 rfl sizeOf5 rfl rfl rfl (Xc isAgg5 rfl (H.cell 0 rfl rfl) (Xb (f:=6) (k:=8) underlying61 rfl sizeOf5 rfl rfl rfl (Xc isAgg5 rfl (H.cell 3 rfl rfl) (Xd rfl (qCv underlying3 underlying5 rfl rfl rfl (Vr _) (qBd (cs:=Ev.cells ⟨2,x.loc,Yc x.aR x.aN r,x.mode,UInt8.ofNat r.pc,0⟩) (places:=[(0,1),(1,1),(2,1),(3,1),(4,1),(5,1),(6,1)]) zeroValue45 underlying45 (by kernel_rfl) rfl rfl rfl rfl (Xb (f:=1) (k:=1) underlying99 rfl sizeOf23 rfl rfl rfl (Xc isAgg23 rfl (H.cell 0 rfl rfl) ?_))))))))));clear F a;intro a F;refine Xn call60 F rfl (ZO L v r _ _ _ false 2 x.loc (Yc x.aR x.aN r) x.mode (UInt8.ofNat r.pc) (XY x.aR x.aN r) 0 AA Ac none 0 _ (hM.own H) hS hm24 hs (hz _ (Nat.le_refl _)) hdA (by decide) ((hM.at hAI).own H) NV) ?_;rintro e w ⟨v2,S2,L2,rfl,hS2,H2⟩;replace H:=H.join H2;clear H2;refine ⟨_,rfl,?_⟩;clear F a;intro a F;refine Xl F rfl (XB rfl rfl (XB rfl rfl ?_));clear F a;intro a F
  refine sSr H 5 ?si F rfl rfl rfl ?s1 rfl rfl ?_
  case si=>exact XC sizeOf77
  case s1=>rfl
  clear H;intro w H;refine sNil ?_
  rw [XG (cs:=SA.cells _ _ _ _ _ _) (by simp [SA.cells])] at H
  refine hK12 _ _ (cSR fun K13 hK13=>?_);clear hK12
  refine Xo underlying77 rfl ?si F rfl (H.whole 5 rfl) ?_
  case si=>exact XC sizeOf77
  clear F a;intro a F
  refine sSr H 3 ?si F rfl rfl rfl ?s1 rfl rfl ?_
  case si=>exact XC sizeOf77
  case s1=>rfl
  clear H;intro w H;refine Xa F rfl ?_;clear F a;intro a F;refine sNil ?_
  rw [XG (cs:=Y1) (by simp [SA.cells,Y1])] at H
  refine hK13 _ _ ?_;clear hK13;refine wp_ret ?_;refine xI ?_;refine ZG results37 F rfl rfl underlying77 rfl H 3 rfl sizeOf77 rfl ?_
  (rw [Y7 (k:=0) (by rw [h2];rfl) (XcI h2 0 r) rfl]
   exact ⟨v2,S2,L2,rfl,hS2,H.sel [0] rfl rfl⟩)
 replace h48:=Yi h48;refine cSR fun K14 hK14=>Xm F rfl rfl (XZ (y:=3)) (Xh rfl (qNK hK14 ?_));clear hK14;clear F a;intro a F
 refine cIf F rfl (fun h67=>?_) (fun h67=>?_)
 ·
  replace h67:=Yh h67
  have h3:x.op=3:=h67
  refine cSR fun K15 hK15=>Xi (f:=0) (k:=0) underlying99 rfl sizeOf5 rfl rfl F rfl (Xc isAgg5 rfl (H.cell 0 rfl rfl) (Xb (f:=0) (k:=0) underlying99 rfl sizeOf5 rfl rfl rfl (Xc isAgg5 rfl (H.cell 1 rfl rfl) (Xj rfl rfl (Xag) (Xh rfl (qNK hK15 ?_))))));clear hK15;clear F a;intro a F;refine cSeq (fun K16 hK16=>?_);refine cSR fun K17 hK17=>Xi (f:=5) (k:=7) underlying61 rfl sizeOf5 rfl rfl F rfl (Xc isAgg5 rfl (H.cell 3 rfl rfl) (Xj rfl rfl (XZ (y:=2)) (qNK hK17 ?_)));clear hK17;clear F a;intro a F
  refine cIf F rfl (fun h76=>?_) (fun h76=>?_)
  ·
   replace h76:=Yh h76;refine cReg (Xi (f:=0) (k:=0) underlying99 rfl sizeOf5 rfl rfl F rfl (Xc isAgg5 rfl (H.cell 0 rfl rfl) (Xb (f:=0) (k:=0) underlying99 rfl sizeOf5 rfl rfl rfl (Xc isAgg5 rfl (H.cell 1 rfl rfl) (Xj rfl rfl (XcV) (Xh rfl (qNK hK16 ?_)))))));clear hK16;clear F a;intro a F;refine cSeq (fun K18 hK18=>?_);refine cSR fun K19 hK19=>Xi (f:=5) (k:=7) underlying61 rfl sizeOf5 rfl rfl F rfl (Xc isAgg5 rfl (H.cell 3 rfl rfl) (Xj rfl rfl (XZ (y:=3)) (qNK hK19 ?_)));clear hK19;clear F a;intro a F
   refine cIf F rfl (fun h84=>?_) (fun h84=>?_)
   ·
    replace h84:=Yh h84
    have e2:x.fn=2:=h76;have e3:x.fn=3:=h84;exact absurd (e2.symm.trans e3) (by decide)
   replace h84:=Yi h84;refine wp_skip (hK18 _ _ ?_);clear hK18;refine cSeq (fun K20 hK20=>?_);refine cRegRO (by kernel_rfl) H ?_;replace H:=H.drew
   refine XA (k:=0) (i:=0) rfl F rfl rfl (fun w H=>rLr underlying77 rfl ?si F rfl (H.whole 4 rfl)) H (fun _ _ _ h=>h) ?_
   case si=>exact XC sizeOf77
   clear F a;intro a F;refine Xt 1 rfl F rfl (fun w=>rFa (f:=1) (k:=1) underlying61 rfl sizeOf5 rfl rfl F rfl) H qq0 (Xz 2 rfl rfl rfl (fun a F w H=>rLd isAgg5 F rfl (H.cell 3 rfl rfl)) H qq0 (Xu 3 rfl rfl (fun a F w=>rMv F rfl) H qq0 (Xu 4 rfl rfl (fun a F w=>rFa (f:=1) (k:=1) underlying99 rfl sizeOf23 rfl rfl F rfl) H qq0 (Xz 5 rfl rfl rfl (fun a F w H=>rLd isAgg23 F rfl (H.cell 0 rfl rfl)) H qq0 (Xu 6 rfl rfl (fun a F w=>rFa (f:=1) (k:=1) underlying99 rfl sizeOf23 rfl rfl F rfl) H qq0 (Xz 7 rfl rfl rfl (fun a F w H=>rLd isAgg23 F rfl (H.cell 1 rfl rfl)) H qq0 ?_))))));clear F a;intro a F;refine Xx (k:=8) (i:=8) rfl (by kernel_rfl) F (XS call61 F rfl rfl (YN AA Ac (XR (XY x.aR x.aN r)) AB Bc (XR (XY x.bR x.bN r)) _ ((hM.at hAI).own H) ((hM.at hBI).own H) (by omega) (by omega)) ?_);rintro e w ⟨A98,c98,rfl,H2⟩
   rw [Z0 hdA hdB] at H2 ⊢;replace H:=H.join H2;clear H2
   refine ⟨_,rfl,?_⟩;clear F a;intro a F;refine XM H.tail ?_;refine Xw 9 rfl F rfl rfl (fun w H=>rBd (places:=[(0,1),(1,1)]) zeroValue99 underlying99 (by kernel_rfl) F rfl rfl) H.tail qq0 ?_;clear F a;intro a F;refine Xx (k:=10) (i:=10) rfl (by kernel_rfl) F (XS call59 F rfl rfl (ZN ([(A98,1,XN (XR (XY x.aR x.aN r ||| XY x.bR x.bN r)))]++L) v r _ _ _ false x.dst _ (.slice A98 (XR (XY x.aR x.aN r ||| XY x.bR x.bN r)).length c98) (XY x.aR x.aN r ||| XY x.bR x.bN r) _ ((M6 (H.rowsAt 0 rfl XL (by decide))).app (hM.own H)) hS.right hx.d ⟨_,_,rfl,InL.head.left⟩) ?_);rintro e w ⟨v4,S4,L4,rfl,hS4,H2⟩;replace H:=H.join H2;clear H2;refine ⟨_,rfl,?_⟩;clear F a;intro a F;refine XF (by kernel_rfl) H ?_
   refine Xx (k:=11) (i:=11) rfl (by kernel_rfl) F (oSr H 4 ?si F rfl rfl ?s1 rfl rfl ?_)
   case si=>exact XC sizeOf77
   case s1=>rfl
   clear H;intro w H;refine XF (by kernel_rfl) H ?_;refine Xt 12 rfl F rfl (fun w=>rAs F rfl) H qq0 ?_;clear F a;intro a F;refine eNil (k:=13) (by kernel_rfl) ?_
   rw [XG (cs:=Y1) (by simp [SA.cells,Y1])] at H
   refine hK20 _ _ ?_;clear hK20;refine wp_ret ?_;refine xI ?_;refine ZG results37 F rfl rfl underlying77 rfl H 4 rfl sizeOf77 rfl ?_
   (have hq:Xbm x.fn (Yc x.aR x.aN r) (Yc x.bR x.bN r)=(Yc x.aR x.aN r) - (Yc x.bR x.bN r):=by rw [show x.fn=2 from h76];rfl
    rw [Y7 (k:=0) (r':=setP x.dst ((Yc x.aR x.aN r) - (Yc x.bR x.bN r)) (XY x.aR x.aN r ||| XY x.bR x.bN r) r) (by rw [h3];rfl) (by rw [C3 h3];unfold Z2;rw [hq]) rfl]
    exact ⟨v4,_,L4++[(A98,1,XN (XR (XY x.aR x.aN r ||| XY x.bR x.bN r)))],rfl,(by rw [List.append_assoc];exact hS4),(((H.sel [1,0] rfl rfl).toMem XL (by decide)).sel [1,0] rfl rfl).memFuse⟩)
  replace h76:=Yi h76;refine wp_skip (hK16 _ _ ?_);clear hK16;refine cSeq (fun K21 hK21=>?_);refine cSR fun K22 hK22=>Xi (f:=5) (k:=7) underlying61 rfl sizeOf5 rfl rfl F rfl (Xc isAgg5 rfl (H.cell 3 rfl rfl) (Xj rfl rfl (XZ (y:=3)) (qNK hK22 ?_)));clear hK22;clear F a;intro a F
  refine cIf F rfl (fun h84=>?_) (fun h84=>?_)
  ·
   replace h84:=Yh h84;refine cReg (Xi (f:=0) (k:=0) underlying99 rfl sizeOf5 rfl rfl F rfl (Xc isAgg5 rfl (H.cell 0 rfl rfl) (Xb (f:=0) (k:=0) underlying99 rfl sizeOf5 rfl rfl rfl (Xc isAgg5 rfl (H.cell 1 rfl rfl) (Xj rfl rfl (XcU) (Xh rfl (qNK hK21 ?_)))))));clear hK21;clear F a;intro a F;refine cSeq (fun K23 hK23=>?_);refine cRegRO (by kernel_rfl) H ?_;replace H:=H.drew
   refine XA (k:=0) (i:=0) rfl F rfl rfl (fun w H=>rLr underlying77 rfl ?si F rfl (H.whole 4 rfl)) H (fun _ _ _ h=>h) ?_
   case si=>exact XC sizeOf77
   clear F a;intro a F;refine Xt 1 rfl F rfl (fun w=>rFa (f:=1) (k:=1) underlying61 rfl sizeOf5 rfl rfl F rfl) H qq0 (Xz 2 rfl rfl rfl (fun a F w H=>rLd isAgg5 F rfl (H.cell 3 rfl rfl)) H qq0 (Xu 3 rfl rfl (fun a F w=>rMv F rfl) H qq0 (Xu 4 rfl rfl (fun a F w=>rFa (f:=1) (k:=1) underlying99 rfl sizeOf23 rfl rfl F rfl) H qq0 (Xz 5 rfl rfl rfl (fun a F w H=>rLd isAgg23 F rfl (H.cell 0 rfl rfl)) H qq0 (Xu 6 rfl rfl (fun a F w=>rFa (f:=1) (k:=1) underlying99 rfl sizeOf23 rfl rfl F rfl) H qq0 (Xz 7 rfl rfl rfl (fun a F w H=>rLd isAgg23 F rfl (H.cell 1 rfl rfl)) H qq0 ?_))))));clear F a;intro a F;refine Xx (k:=8) (i:=8) rfl (by kernel_rfl) F (XS call61 F rfl rfl (YN AA Ac (XR (XY x.aR x.aN r)) AB Bc (XR (XY x.bR x.bN r)) _ ((hM.at hAI).own H) ((hM.at hBI).own H) (by omega) (by omega)) ?_);rintro e w ⟨A98,c98,rfl,H2⟩
   rw [Z0 hdA hdB] at H2 ⊢;replace H:=H.join H2;clear H2
   refine ⟨_,rfl,?_⟩;clear F a;intro a F;refine XM H.tail ?_;refine Xw 9 rfl F rfl rfl (fun w H=>rBd (places:=[(0,1),(1,1)]) zeroValue99 underlying99 (by kernel_rfl) F rfl rfl) H.tail qq0 ?_;clear F a;intro a F;refine Xx (k:=10) (i:=10) rfl (by kernel_rfl) F (XS call59 F rfl rfl (ZN ([(A98,1,XN (XR (XY x.aR x.aN r ||| XY x.bR x.bN r)))]++L) v r _ _ _ false x.dst _ (.slice A98 (XR (XY x.aR x.aN r ||| XY x.bR x.bN r)).length c98) (XY x.aR x.aN r ||| XY x.bR x.bN r) _ ((M6 (H.rowsAt 0 rfl XL (by decide))).app (hM.own H)) hS.right hx.d ⟨_,_,rfl,InL.head.left⟩) ?_);rintro e w ⟨v4,S4,L4,rfl,hS4,H2⟩;replace H:=H.join H2;clear H2;refine ⟨_,rfl,?_⟩;clear F a;intro a F;refine XF (by kernel_rfl) H ?_
   refine Xx (k:=11) (i:=11) rfl (by kernel_rfl) F (oSr H 4 ?si F rfl rfl ?s1 rfl rfl ?_)
   case si=>exact XC sizeOf77
   case s1=>rfl
   clear H;intro w H;refine XF (by kernel_rfl) H ?_;refine Xt 12 rfl F rfl (fun w=>rAs F rfl) H qq0 ?_;clear F a;intro a F;refine eNil (k:=13) (by kernel_rfl) ?_
   rw [XG (cs:=Y1) (by simp [SA.cells,Y1])] at H
   refine hK23 _ _ ?_;clear hK23;refine wp_ret ?_;refine xI ?_;refine ZG results37 F rfl rfl underlying77 rfl H 4 rfl sizeOf77 rfl ?_
   (have hq:Xbm x.fn (Yc x.aR x.aN r) (Yc x.bR x.bN r)=(Yc x.aR x.aN r) ^^^ (Yc x.bR x.bN r):=by rw [show x.fn=3 from h84];rfl
    rw [Y7 (k:=0) (r':=setP x.dst ((Yc x.aR x.aN r) ^^^ (Yc x.bR x.bN r)) (XY x.aR x.aN r ||| XY x.bR x.bN r) r) (by rw [h3];rfl) (by rw [C3 h3];unfold Z2;rw [hq]) rfl]
    exact ⟨v4,_,L4++[(A98,1,XN (XR (XY x.aR x.aN r ||| XY x.bR x.bN r)))],rfl,(by rw [List.append_assoc];exact hS4),(((H.sel [1,0] rfl rfl).toMem XL (by decide)).sel [1,0] rfl rfl).memFuse⟩)
  replace h84:=Yi h84;refine wp_skip (hK21 _ _ ?_);clear hK21;refine cSeq (fun K24 hK24=>?_);refine cRegRO (by kernel_rfl) H ?_;replace H:=H.drew
  refine XA (k:=0) (i:=0) rfl F rfl rfl (fun w H=>rLr underlying77 rfl ?si F rfl (H.whole 4 rfl)) H (fun _ _ _ h=>h) ?_
  case si=>exact XC sizeOf77
  clear F a;intro a F;refine Xt 1 rfl F rfl (fun w=>rFa (f:=1) (k:=1) underlying61 rfl sizeOf5 rfl rfl F rfl) H qq0 (Xz 2 rfl rfl rfl (fun a F w H=>rLd isAgg5 F rfl (H.cell 3 rfl rfl)) H qq0 (Xu 3 rfl rfl (fun a F w=>rMv F rfl) H qq0 (Xu 4 rfl rfl (fun a F w=>rFa (f:=1) (k:=1) underlying99 rfl sizeOf23 rfl rfl F rfl) H qq0 (Xz 5 rfl rfl rfl (fun a F w H=>rLd isAgg23 F rfl (H.cell 0 rfl rfl)) H qq0 (Xu 6 rfl rfl (fun a F w=>rFa (f:=1) (k:=1) underlying99 rfl sizeOf23 rfl rfl F rfl) H qq0 (Xz 7 rfl rfl rfl (fun a F w H=>rLd isAgg23 F rfl (H.cell 1 rfl rfl)) H qq0 ?_))))));clear F a;intro a F;refine Xx (k:=8) (i:=8) rfl (by kernel_rfl) F (XS call61 F rfl rfl (YN AA Ac (XR (XY x.aR x.aN r)) AB Bc (XR (XY x.bR x.bN r)) _ ((hM.at hAI).own H) ((hM.at hBI).own H) (by omega) (by omega)) ?_);rintro e w ⟨A98,c98,rfl,H2⟩
  rw [Z0 hdA hdB] at H2 ⊢;replace H:=H.join H2;clear H2
  refine ⟨_,rfl,?_⟩;clear F a;intro a F;refine XM H.tail ?_;refine Xw 9 rfl F rfl rfl (fun w H=>rBd (places:=[(0,1),(1,1)]) zeroValue99 underlying99 (by kernel_rfl) F rfl rfl) H.tail qq0 ?_;clear F a;intro a F;refine Xx (k:=10) (i:=10) rfl (by kernel_rfl) F (XS call59 F rfl rfl (ZN ([(A98,1,XN (XR (XY x.aR x.aN r ||| XY x.bR x.bN r)))]++L) v r _ _ _ false x.dst _ (.slice A98 (XR (XY x.aR x.aN r ||| XY x.bR x.bN r)).length c98) (XY x.aR x.aN r ||| XY x.bR x.bN r) _ ((M6 (H.rowsAt 0 rfl XL (by decide))).app (hM.own H)) hS.right hx.d ⟨_,_,rfl,InL.head.left⟩) ?_);rintro e w ⟨v4,S4,L4,rfl,hS4,H2⟩;replace H:=H.join H2;clear H2;refine ⟨_,rfl,?_⟩;clear F a;intro a F;refine XF (by kernel_rfl) H ?_
  refine Xx (k:=11) (i:=11) rfl (by kernel_rfl) F (oSr H 4 ?si F rfl rfl ?s1 rfl rfl ?_)
  case si=>exact XC sizeOf77
  case s1=>rfl
  clear H;intro w H;refine XF (by kernel_rfl) H ?_;refine Xt 12 rfl F rfl (fun w=>rAs F rfl) H qq0 ?_;clear F a;intro a F;refine eNil (k:=13) (by kernel_rfl) ?_
  rw [XG (cs:=Y1) (by simp [SA.cells,Y1])] at H
  refine hK24 _ _ ?_;clear hK24;refine wp_ret ?_;refine xI ?_;refine ZG results37 F rfl rfl underlying77 rfl H 4 rfl sizeOf77 rfl ?_
  (have hq:Xbm x.fn (Yc x.aR x.aN r) (Yc x.bR x.bN r)=(Yc x.aR x.aN r)+(Yc x.bR x.bN r):=by rcases hf3 h3 with e | e | e <;> first | (rw [e];rfl) | exact absurd e h76 | exact absurd e h84
   rw [Y7 (k:=0) (r':=setP x.dst ((Yc x.aR x.aN r)+(Yc x.bR x.bN r)) (XY x.aR x.aN r ||| XY x.bR x.bN r) r) (by rw [h3];rfl) (by rw [C3 h3];unfold Z2;rw [hq]) rfl]
   exact ⟨v4,_,L4++[(A98,1,XN (XR (XY x.aR x.aN r ||| XY x.bR x.bN r)))],rfl,(by rw [List.append_assoc];exact hS4),(((H.sel [1,0] rfl rfl).toMem XL (by decide)).sel [1,0] rfl rfl).memFuse⟩)
 replace h67:=Yi h67;refine cSR fun K25 hK25=>Xm F rfl rfl (XZ (y:=7)) (Xh rfl (qNK hK25 ?_));clear hK25;clear F a;intro a F
 refine cIf F rfl (fun h101=>?_) (fun h101=>?_)
 ·
  replace h101:=Yh h101
  have h7:x.op=7:=h101
  refine cSR fun K26 hK26=>?_
  refine Xo underlying77 rfl ?si F rfl (H.whole 4 rfl) ?_
  case si=>exact XC sizeOf77
  clear F a;intro a F;refine Xi (f:=6) (k:=8) underlying61 rfl sizeOf5 rfl rfl F rfl (Xc isAgg5 rfl (H.cell 3 rfl rfl) (Xd rfl (qCv underlying3 underlying5 rfl rfl rfl (Vr _) (qBd (cs:=Ev.cells ⟨3,0,0,x.mode,UInt8.ofNat r.pc,0⟩) (places:=[(0,1),(1,1),(2,1),(3,1),(4,1),(5,1),(6,1)]) zeroValue45 underlying45 (by kernel_rfl) rfl rfl rfl rfl ?_))));clear F a;intro a F;refine Xn call60 F rfl (ZO L v r _ _ _ false 3 0 0 x.mode (UInt8.ofNat r.pc) 0 0 none 0 none 0 _ (hM.own H) hS hm24 hs (hz _ (Nat.le_refl _)) (by decide) (by decide) NV NV) ?_;rintro e w ⟨v2,S2,L2,rfl,hS2,H2⟩;replace H:=H.join H2;clear H2;refine ⟨_,rfl,?_⟩;clear F a;intro a F;refine Xl F rfl (XB rfl rfl (XB rfl rfl ?_));clear F a;intro a F
  refine sSr H 5 ?si F rfl rfl rfl ?s1 rfl rfl ?_
  case si=>exact XC sizeOf77
  case s1=>rfl
  clear H;intro w H;refine sNil ?_
  rw [XG (cs:=SA.cells _ _ _ _ _ _) (by simp [SA.cells])] at H
  refine hK26 _ _ (cSR fun K27 hK27=>?_);clear hK26
  refine Xo underlying77 rfl ?si F rfl (H.whole 5 rfl) ?_
  case si=>exact XC sizeOf77
  clear F a;intro a F
  refine sSr H 3 ?si F rfl rfl rfl ?s1 rfl rfl ?_
  case si=>exact XC sizeOf77
  case s1=>rfl
  clear H;intro w H;refine Xa F rfl ?_;clear F a;intro a F;refine sNil ?_
  rw [XG (cs:=Y1) (by simp [SA.cells,Y1])] at H
  refine hK27 _ _ ?_;clear hK27;refine wp_ret ?_;refine xI ?_;refine ZG results37 F rfl rfl underlying77 rfl H 3 rfl sizeOf77 rfl ?_
  (rw [Y7 (k:=0) (by rw [h7];rfl) (XcH h7 0 r) rfl]
   exact ⟨v2,S2,L2,rfl,hS2,H.sel [0] rfl rfl⟩)
 replace h101:=Yi h101;refine cSR fun K28 hK28=>Xm F rfl rfl (XZ (y:=8)) (Xh rfl (qNK hK28 ?_));clear hK28;clear F a;intro a F
 refine cIf F rfl (fun h114=>?_) (fun h114=>?_)
 ·
  replace h114:=Yh h114
  have h8:x.op=8:=h114
  refine cSeq (fun K29 hK29=>?_);refine cRegRO (by kernel_rfl) H ?_;replace H:=H.drew;refine Xt 0 rfl F rfl (fun w=>rFa (f:=1) (k:=1) underlying77 rfl sizeOf23 rfl rfl F rfl) H qq0 (Xz 1 rfl rfl rfl (fun a F w H=>rLd isAgg23 F rfl (H.cell 4 rfl rfl)) H qq0 (Xu 2 rfl rfl (fun a F w=>rFa (f:=1) (k:=1) underlying99 rfl sizeOf23 rfl rfl F rfl) H qq0 (Xz 3 rfl rfl rfl (fun a F w H=>rLd isAgg23 F rfl (H.cell 0 rfl rfl)) H qq0 (Xu 4 rfl rfl (fun a F w=>rFa (f:=1) (k:=1) underlying99 rfl sizeOf23 rfl rfl F rfl) H qq0 (Xz 5 rfl rfl rfl (fun a F w H=>rLd isAgg23 F rfl (H.cell 1 rfl rfl)) H qq0 ?_)))));clear F a;intro a F;refine Xx (k:=6) (i:=6) rfl (by kernel_rfl) F (XS call61 F rfl rfl (YN AA Ac (XR (XY x.aR x.aN r)) AB Bc (XR (XY x.bR x.bN r)) _ ((hM.at hAI).own H) ((hM.at hBI).own H) (by omega) (by omega)) ?_);rintro e w ⟨A122,c122,rfl,H2⟩
  rw [Z0 hdA hdB] at H2 ⊢;replace H:=H.join H2;clear H2
  refine ⟨_,rfl,?_⟩;clear F a;intro a F;refine XM H.tail ?_;refine Xx (k:=7) (i:=7) rfl (by kernel_rfl) F (XS call61 F rfl rfl (YN v.C v.Cc (XR r.control) A122 c122 (XR (XY x.aR x.aN r ||| XY x.bR x.bN r)) _ ((hM.at hS.C).own H) (H.rowsAt 0 rfl XL (by decide)) (by omega) (by omega)) ?_);rintro e w ⟨A123,c123,rfl,H2⟩
  rw [Z0 hs.control hdAB] at H2 ⊢;replace H:=H.join H2;clear H2
  refine ⟨_,rfl,?_⟩;clear F a;intro a F;refine XF (by kernel_rfl) H ?_;refine Xt 8 rfl F rfl (fun w=>rFa (f:=1) (k:=1) underlying77 rfl sizeOf23 rfl rfl F rfl) H qq0 ?_;clear F a;intro a F;refine Xx (k:=9) (i:=9) rfl (by kernel_rfl) F (oSt H 6 sizeOf23 F rfl rfl rfl rfl rfl ?_);clear H;intro w H;refine XF (by kernel_rfl) H ?_;refine eNil (k:=10) (by kernel_rfl) ?_
  replace H:Own w0 none w [.rws 5 1 (.slice A123 (XR (r.control ||| (XY x.aR x.aN r ||| XY x.bR x.bN r))).length c123) (XN (XR (r.control ||| (XY x.aR x.aN r ||| XY x.bR x.bN r)))),.blk b8 [Go.Proofs.YtagnefpgidbhnaaGreatDoor.b8 (Yc x.aR x.aN r),.slice AA (XR (XY x.aR x.aN r)).length Ac] 99,.blk b9 [Go.Proofs.YtagnefpgidbhnaaGreatDoor.b8 (Yc x.bR x.bN r),.slice AB (XR (XY x.bR x.bN r)).length Bc] 99,.blk b6 Y1 77,.blk b4 x.cells 61,.blk b3 (SA.cells { v with C:=A123,Cc:=c123 } (r.wControl (r.control ||| (XY x.aR x.aN r ||| XY x.bR x.bN r))) LA lf.length LC false) 77]:=H.sel [0,2,3,4,5,6] rfl rfl
  have hS8:StOk ([(A123,1,XN (XR (r.control ||| (XY x.aR x.aN r ||| XY x.bR x.bN r))))]++L) { v with C:=A123,Cc:=c123 } (r.wControl (r.control ||| (XY x.aR x.aN r ||| XY x.bR x.bN r))):=⟨hS.R.right,fun d hd=>(hS.on d hd).right,InL.head.left,hS.E.right,hS.D.right,hS.K.right,hS.M.right⟩
  refine hK29 _ _ ?_;clear hK29;refine cSeq (fun K30 hK30=>?_);refine cSR fun K31 hK31=>Xi (f:=5) (k:=7) underlying61 rfl sizeOf5 rfl rfl F rfl (Xc isAgg5 rfl (H.cell 4 rfl rfl) (Xj rfl rfl (XZ (y:=4)) (Xd rfl ?_)));clear F a;intro a F
  refine F.split 128 rfl ?_ ?_ <;> (clear F;intro h128 F)
  ·
   replace h128:=Yh h128;refine Xi (f:=0) (k:=0) underlying99 rfl sizeOf5 rfl rfl F rfl (Xc isAgg5 rfl (H.cell 1 rfl rfl) (Xb (f:=0) (k:=0) underlying99 rfl sizeOf5 rfl rfl rfl (Xc isAgg5 rfl (H.cell 2 rfl rfl) (Xj rfl rfl XZ (Xg rfl rfl (Xd rfl ?_))))));clear F a;intro a F
   refine F.split 135 rfl ?_ ?_ <;> (clear F;intro h135 F)
   ·
    replace h135:=Yh h135;refine Xe F (Xf (Xf (Xf (Xf (Xf (Xf (Xf (Xf (Xf (Xg rfl rfl (Xd rfl (Xf (Xf (Xf (Xf (Xf (Xf (Xf (Xf (Xf (Xf (Xg rfl rfl (qNK hK31 ?_)))))))))))))))))))))));clear hK31;clear F a;intro a F;refine cIfT F rfl ?_;refine cSeq (fun K32 hK32=>?_);refine cRegRO (by kernel_rfl) H.tail.tail.tail.tail ?_;replace H:=H.drew
    refine XA (k:=0) (i:=0) rfl F rfl rfl (fun w H=>rLr underlying77 rfl ?si F rfl (H.whole 1 rfl)) H.tail.tail.tail.tail (fun _ _ _ h=>h) ?_
    case si=>exact XC sizeOf77
    clear F a;intro a F;refine Xt 1 rfl F rfl (fun w=>rFa (f:=7) (k:=9) underlying61 rfl sizeOf5 rfl rfl F rfl) H.tail.tail.tail.tail qq0 (Xz 2 rfl rfl rfl (fun a F w H=>rLd isAgg5 F rfl (H.cell 0 rfl rfl)) H.tail.tail.tail.tail qq0 (Xu 3 rfl rfl (fun a F w=>rCv underlying5 underlying3 F rfl (ZT _)) H.tail.tail.tail.tail qq0 ?_));clear F a;intro a F
    refine Xx (k:=4) (i:=4) rfl (by kernel_rfl) F (oSr H 3 ?si F rfl rfl ?s1 rfl rfl ?_)
    case si=>exact XC sizeOf77
    case s1=>rfl
    clear H;intro w H;refine XM H.tail.tail.tail.tail ?_;refine Xt 5 rfl F rfl (fun w=>rAs F rfl) H.tail.tail.tail.tail qq0 ?_;clear F a;intro a F;refine eNil (k:=6) (by kernel_rfl) ?_
    rw [XG (cs:=Y1) (by simp [SA.cells,Y1])] at H
    refine hK32 _ _ ?_;clear hK32;refine wp_ret ?_;refine xI ?_;refine ZG results37 F rfl rfl underlying77 rfl H 3 rfl sizeOf77 rfl ?_
    (have hj:NQ x.fn (Yc x.aR x.aN r) (Yc x.bR x.bN r)=true:=(skp4 h128).trans (beq_iff_eq.2 h135)
     rw [Y7 (k:=x.skip.toNat) (r':=(r.wControl (r.control ||| (XY x.aR x.aN r ||| XY x.bR x.bN r))).wPc (r.pc+x.skip.toNat)) (by rw [h8];rfl) (by rw [Mk h8];unfold ZX;rw [if_pos hj]) rfl]
     exact ⟨{ v with C:=A123,Cc:=c123 },_,[(A123,1,XN (XR (r.control ||| (XY x.aR x.aN r ||| XY x.bR x.bN r))))],rfl,hS8.pc,(H.sel [0] rfl rfl).toMem XL (by decide)⟩)
   replace h135:=Yi h135;refine Xi (f:=5) (k:=7) underlying61 rfl sizeOf5 rfl rfl F rfl (Xc isAgg5 rfl (H.cell 4 rfl rfl) (Xj rfl rfl (XZ (y:=5)) (Xd rfl ?_)));clear F a;intro a F
   refine F.split 139 rfl ?_ ?_ <;> (clear F;intro h139 F)
   ·
    replace h139:=Yh h139
    exact absurd ((show x.fn=4 from h128).symm.trans (show x.fn=5 from h139)) (by decide)
   replace h139:=Yi h139;refine Xe F (Xf (Xf (Xf (Xf (Xg rfl rfl (Xg rfl rfl (Xd rfl (Xb (f:=5) (k:=7) underlying61 rfl sizeOf5 rfl rfl rfl (Xc isAgg5 rfl (H.cell 4 rfl rfl) (Xj rfl rfl (XZ (y:=6)) (Xd rfl ?_)))))))))));clear F a;intro a F
   refine F.split 151 rfl ?_ ?_ <;> (clear F;intro h151 F)
   ·
    replace h151:=Yh h151
    exact absurd ((show x.fn=4 from h128).symm.trans (show x.fn=6 from h151)) (by decide)
   replace h151:=Yi h151;refine Xe F (Xf (Xf (Xf (Xf (Xg rfl rfl (Xg rfl rfl (qNK hK31 ?_)))))));clear hK31;clear F a;intro a F;refine cIfF F rfl ?_;refine wp_skip (hK30 _ _ (cSR fun K33 hK33=>?_));clear hK30
   refine Xo underlying77 rfl ?si F rfl (H.whole 5 rfl) ?_
   case si=>exact XC sizeOf77
   clear F a;intro a F
   refine sSr H 3 ?si F rfl rfl rfl ?s1 rfl rfl ?_
   case si=>exact XC sizeOf77
   case s1=>rfl
   clear H;intro w H;refine Xa F rfl ?_;clear F a;intro a F;refine sNil ?_
   rw [XG (cs:=Y1) (by simp [SA.cells,Y1])] at H
   refine hK33 _ _ ?_;clear hK33;refine wp_ret ?_;refine xI ?_;refine ZG results37 F rfl rfl underlying77 rfl H 3 rfl sizeOf77 rfl ?_
   (have hj:NQ x.fn (Yc x.aR x.aN r) (Yc x.bR x.bN r)=false:=(skp4 h128).trans (beq_false_of_ne h135)
    rw [Y7 (k:=0) (r':=r.wControl (r.control ||| (XY x.aR x.aN r ||| XY x.bR x.bN r))) (by rw [h8];rfl) (by rw [Mk h8];unfold ZX;rw [if_neg (by rw [hj];decide)]) rfl]
    exact ⟨{ v with C:=A123,Cc:=c123 },_,[(A123,1,XN (XR (r.control ||| (XY x.aR x.aN r ||| XY x.bR x.bN r))))],rfl,hS8,(H.sel [0] rfl rfl).toMem XL (by decide)⟩)
  replace h128:=Yi h128;refine Xe F (Xf (Xf (Xf (Xf (Xg rfl rfl (Xd rfl (Xb (f:=5) (k:=7) underlying61 rfl sizeOf5 rfl rfl rfl (Xc isAgg5 rfl (H.cell 4 rfl rfl) (Xj rfl rfl (XZ (y:=5)) (Xd rfl ?_))))))))));clear F a;intro a F
  refine F.split 139 rfl ?_ ?_ <;> (clear F;intro h139 F)
  ·
   replace h139:=Yh h139;refine Xi (f:=0) (k:=0) underlying99 rfl sizeOf5 rfl rfl F rfl (Xc isAgg5 rfl (H.cell 1 rfl rfl) (Xb (f:=0) (k:=0) underlying99 rfl sizeOf5 rfl rfl rfl (Xc isAgg5 rfl (H.cell 2 rfl rfl) (Xj rfl rfl En (Xg rfl rfl (Xg rfl rfl (Xd rfl ?_)))))));clear F a;intro a F
   refine F.split 147 rfl ?_ ?_ <;> (clear F;intro h147 F)
   ·
    replace h147:=UL h147;refine Xe F (Xf (Xf (Xf (Xf (Xf (Xf (Xf (Xf (Xf (Xg rfl rfl (qNK hK31 ?_)))))))))));clear hK31;clear F a;intro a F;refine cIfT F rfl ?_;refine cSeq (fun K34 hK34=>?_);refine cRegRO (by kernel_rfl) H.tail.tail.tail.tail ?_;replace H:=H.drew
    refine XA (k:=0) (i:=0) rfl F rfl rfl (fun w H=>rLr underlying77 rfl ?si F rfl (H.whole 1 rfl)) H.tail.tail.tail.tail (fun _ _ _ h=>h) ?_
    case si=>exact XC sizeOf77
    clear F a;intro a F;refine Xt 1 rfl F rfl (fun w=>rFa (f:=7) (k:=9) underlying61 rfl sizeOf5 rfl rfl F rfl) H.tail.tail.tail.tail qq0 (Xz 2 rfl rfl rfl (fun a F w H=>rLd isAgg5 F rfl (H.cell 0 rfl rfl)) H.tail.tail.tail.tail qq0 (Xu 3 rfl rfl (fun a F w=>rCv underlying5 underlying3 F rfl (ZT _)) H.tail.tail.tail.tail qq0 ?_));clear F a;intro a F
    refine Xx (k:=4) (i:=4) rfl (by kernel_rfl) F (oSr H 3 ?si F rfl rfl ?s1 rfl rfl ?_)
    case si=>exact XC sizeOf77
    case s1=>rfl
    clear H;intro w H;refine XM H.tail.tail.tail.tail ?_;refine Xt 5 rfl F rfl (fun w=>rAs F rfl) H.tail.tail.tail.tail qq0 ?_;clear F a;intro a F;refine eNil (k:=6) (by kernel_rfl) ?_
    rw [XG (cs:=Y1) (by simp [SA.cells,Y1])] at H
    refine hK34 _ _ ?_;clear hK34;refine wp_ret ?_;refine xI ?_;refine ZG results37 F rfl rfl underlying77 rfl H 3 rfl sizeOf77 rfl ?_
    (have hj:NQ x.fn (Yc x.aR x.aN r) (Yc x.bR x.bN r)=true:=(skp5 h128 h139).trans (bne_iff_ne.2 h147)
     rw [Y7 (k:=x.skip.toNat) (r':=(r.wControl (r.control ||| (XY x.aR x.aN r ||| XY x.bR x.bN r))).wPc (r.pc+x.skip.toNat)) (by rw [h8];rfl) (by rw [Mk h8];unfold ZX;rw [if_pos hj]) rfl]
     exact ⟨{ v with C:=A123,Cc:=c123 },_,[(A123,1,XN (XR (r.control ||| (XY x.aR x.aN r ||| XY x.bR x.bN r))))],rfl,hS8.pc,(H.sel [0] rfl rfl).toMem XL (by decide)⟩)
   replace h147:=UM h147;refine Xi (f:=5) (k:=7) underlying61 rfl sizeOf5 rfl rfl F rfl (Xc isAgg5 rfl (H.cell 4 rfl rfl) (Xj rfl rfl (XZ (y:=6)) (Xd rfl ?_)));clear F a;intro a F
   refine F.split 151 rfl ?_ ?_ <;> (clear F;intro h151 F)
   ·
    replace h151:=Yh h151
    exact absurd ((show x.fn=5 from h139).symm.trans (show x.fn=6 from h151)) (by decide)
   replace h151:=Yi h151;refine Xe F (Xf (Xf (Xf (Xf (Xg rfl rfl (Xg rfl rfl (qNK hK31 ?_)))))));clear hK31;clear F a;intro a F;refine cIfF F rfl ?_;refine wp_skip (hK30 _ _ (cSR fun K35 hK35=>?_));clear hK30
   refine Xo underlying77 rfl ?si F rfl (H.whole 5 rfl) ?_
   case si=>exact XC sizeOf77
   clear F a;intro a F
   refine sSr H 3 ?si F rfl rfl rfl ?s1 rfl rfl ?_
   case si=>exact XC sizeOf77
   case s1=>rfl
   clear H;intro w H;refine Xa F rfl ?_;clear F a;intro a F;refine sNil ?_
   rw [XG (cs:=Y1) (by simp [SA.cells,Y1])] at H
   refine hK35 _ _ ?_;clear hK35;refine wp_ret ?_;refine xI ?_;refine ZG results37 F rfl rfl underlying77 rfl H 3 rfl sizeOf77 rfl ?_
   (have hj:NQ x.fn (Yc x.aR x.aN r) (Yc x.bR x.bN r)=false:=(skp5 h128 h139).trans (bne_eq_false_iff_eq.2 h147)
    rw [Y7 (k:=0) (r':=r.wControl (r.control ||| (XY x.aR x.aN r ||| XY x.bR x.bN r))) (by rw [h8];rfl) (by rw [Mk h8];unfold ZX;rw [if_neg (by rw [hj];decide)]) rfl]
    exact ⟨{ v with C:=A123,Cc:=c123 },_,[(A123,1,XN (XR (r.control ||| (XY x.aR x.aN r ||| XY x.bR x.bN r))))],rfl,hS8,(H.sel [0] rfl rfl).toMem XL (by decide)⟩)
  replace h139:=Yi h139;refine Xe F (Xf (Xf (Xf (Xf (Xg rfl rfl (Xg rfl rfl (Xd rfl (Xb (f:=5) (k:=7) underlying61 rfl sizeOf5 rfl rfl rfl (Xc isAgg5 rfl (H.cell 4 rfl rfl) (Xj rfl rfl (XZ (y:=6)) (Xd rfl ?_)))))))))));clear F a;intro a F
  refine F.split 151 rfl ?_ ?_ <;> (clear F;intro h151 F)
  ·
   replace h151:=Yh h151;refine Xi (f:=0) (k:=0) underlying99 rfl sizeOf5 rfl rfl F rfl (Xc isAgg5 rfl (H.cell 1 rfl rfl) (Xb (f:=0) (k:=0) underlying99 rfl sizeOf5 rfl rfl rfl (Xc isAgg5 rfl (H.cell 2 rfl rfl) (Xj rfl rfl GY (Xg rfl rfl (Xg rfl rfl (qNK hK31 ?_)))))));clear hK31;clear F a;intro a F
   refine cIf F rfl (fun h158=>?_) (fun h158=>?_)
   ·
    replace h158:=of_decide_eq_true h158;refine cSeq (fun K36 hK36=>?_);refine cRegRO (by kernel_rfl) H.tail.tail.tail.tail ?_;replace H:=H.drew
    refine XA (k:=0) (i:=0) rfl F rfl rfl (fun w H=>rLr underlying77 rfl ?si F rfl (H.whole 1 rfl)) H.tail.tail.tail.tail (fun _ _ _ h=>h) ?_
    case si=>exact XC sizeOf77
    clear F a;intro a F;refine Xt 1 rfl F rfl (fun w=>rFa (f:=7) (k:=9) underlying61 rfl sizeOf5 rfl rfl F rfl) H.tail.tail.tail.tail qq0 (Xz 2 rfl rfl rfl (fun a F w H=>rLd isAgg5 F rfl (H.cell 0 rfl rfl)) H.tail.tail.tail.tail qq0 (Xu 3 rfl rfl (fun a F w=>rCv underlying5 underlying3 F rfl (ZT _)) H.tail.tail.tail.tail qq0 ?_));clear F a;intro a F
    refine Xx (k:=4) (i:=4) rfl (by kernel_rfl) F (oSr H 3 ?si F rfl rfl ?s1 rfl rfl ?_)
    case si=>exact XC sizeOf77
    case s1=>rfl
    clear H;intro w H;refine XM H.tail.tail.tail.tail ?_;refine Xt 5 rfl F rfl (fun w=>rAs F rfl) H.tail.tail.tail.tail qq0 ?_;clear F a;intro a F;refine eNil (k:=6) (by kernel_rfl) ?_
    rw [XG (cs:=Y1) (by simp [SA.cells,Y1])] at H
    refine hK36 _ _ ?_;clear hK36;refine wp_ret ?_;refine xI ?_;refine ZG results37 F rfl rfl underlying77 rfl H 3 rfl sizeOf77 rfl ?_
    (have hj:NQ x.fn (Yc x.aR x.aN r) (Yc x.bR x.bN r)=true:=(skp6 h128 h139).trans (decide_eq_true h158)
     rw [Y7 (k:=x.skip.toNat) (r':=(r.wControl (r.control ||| (XY x.aR x.aN r ||| XY x.bR x.bN r))).wPc (r.pc+x.skip.toNat)) (by rw [h8];rfl) (by rw [Mk h8];unfold ZX;rw [if_pos hj]) rfl]
     exact ⟨{ v with C:=A123,Cc:=c123 },_,[(A123,1,XN (XR (r.control ||| (XY x.aR x.aN r ||| XY x.bR x.bN r))))],rfl,hS8.pc,(H.sel [0] rfl rfl).toMem XL (by decide)⟩)
   replace h158:=of_decide_eq_false h158;refine wp_skip (hK30 _ _ (cSR fun K37 hK37=>?_));clear hK30
   refine Xo underlying77 rfl ?si F rfl (H.whole 5 rfl) ?_
   case si=>exact XC sizeOf77
   clear F a;intro a F
   refine sSr H 3 ?si F rfl rfl rfl ?s1 rfl rfl ?_
   case si=>exact XC sizeOf77
   case s1=>rfl
   clear H;intro w H;refine Xa F rfl ?_;clear F a;intro a F;refine sNil ?_
   rw [XG (cs:=Y1) (by simp [SA.cells,Y1])] at H
   refine hK37 _ _ ?_;clear hK37;refine wp_ret ?_;refine xI ?_;refine ZG results37 F rfl rfl underlying77 rfl H 3 rfl sizeOf77 rfl ?_
   (have hj:NQ x.fn (Yc x.aR x.aN r) (Yc x.bR x.bN r)=false:=(skp6 h128 h139).trans (decide_eq_false h158)
    rw [Y7 (k:=0) (r':=r.wControl (r.control ||| (XY x.aR x.aN r ||| XY x.bR x.bN r))) (by rw [h8];rfl) (by rw [Mk h8];unfold ZX;rw [if_neg (by rw [hj];decide)]) rfl]
    exact ⟨{ v with C:=A123,Cc:=c123 },_,[(A123,1,XN (XR (r.control ||| (XY x.aR x.aN r ||| XY x.bR x.bN r))))],rfl,hS8,(H.sel [0] rfl rfl).toMem XL (by decide)⟩)
  replace h151:=Yi h151;refine Xe F (Xf (Xf (Xf (Xf (Xg rfl rfl (Xg rfl rfl (qNK hK31 ?_)))))));clear hK31;clear F a;intro a F;refine cIfF F rfl ?_;refine wp_skip (hK30 _ _ (cSR fun K38 hK38=>?_));clear hK30
  refine Xo underlying77 rfl ?si F rfl (H.whole 5 rfl) ?_
  case si=>exact XC sizeOf77
  clear F a;intro a F
  refine sSr H 3 ?si F rfl rfl rfl ?s1 rfl rfl ?_
  case si=>exact XC sizeOf77
  case s1=>rfl
  clear H;intro w H;refine Xa F rfl ?_;clear F a;intro a F;refine sNil ?_
  rw [XG (cs:=Y1) (by simp [SA.cells,Y1])] at H
  refine hK38 _ _ ?_;clear hK38;refine wp_ret ?_;refine xI ?_;refine ZG results37 F rfl rfl underlying77 rfl H 3 rfl sizeOf77 rfl ?_
  (exfalso;rcases hf8 h8 with e | e | e <;> first | exact h128 e | exact h139 e | exact h151 e)
 replace h114:=Yi h114
 have h456:x.op=4∨x.op=5∨x.op=6:=by
  rcases hop with h | h | h | h | h | h | h | h
  · exact absurd h h24
  · exact absurd h h48
  · exact absurd h h67
  · exact .inl h
  · exact .inr (.inl h)
  · exact .inr (.inr h)
  · exact absurd h h101
  · exact absurd h h114
 refine wp_skip (hK3 _ _ (cSR fun K39 hK39=>?_));clear hK3
 refine Xo underlying77 rfl ?si F rfl (H.whole 4 rfl) ?_
 case si=>exact XC sizeOf77
 clear F a;intro a F
 refine Xo underlying61 rfl ?si F rfl (H.whole 3 rfl) ?_
 case si=>exact XC sizeOf61
 clear F a;intro a F;refine Xl F rfl ?_;clear F a;intro a F;refine Xn call62 F rfl (QM L v r LA LC lf x _ (hM.own H) hS hx h456 hm hs hz (hl.own H)) ?_;rintro e w ⟨v1,S1,L1,rfl,hS1,H2⟩;replace H:=H.join H2;clear H2;refine ⟨_,rfl,?_⟩;clear F a;intro a F
 refine sSr H 3 ?si F rfl rfl rfl ?s1 rfl rfl ?_
 case si=>exact XC sizeOf77
 case s1=>rfl
 clear H;intro w H;refine Xa F rfl ?_;clear F a;intro a F;refine sNil ?_
 rw [XG (cs:=Y1) (by simp [SA.cells,Y1])] at H
 refine hK39 _ _ ?_;clear hK39;refine wp_ret ?_;refine ZG results37 F rfl rfl underlying77 rfl H 3 rfl sizeOf77 rfl ?_
 (rw [UY (by rcases h456 with h | h | h <;> rw [h] <;> rfl)]
  exact ⟨v1,S1,L1,rfl,hS1,H.sel [0] rfl rfl⟩)
-- ReH
open Go.RowKit
def XbX (r:RunP):Prop:=∀ k,r.many≤k→r.att k=0
theorem BC:XbX zRun:=fun _ _=>rfl
theorem XbR {x:Ins} {y:UInt8} {r:RunP} (hop:opR x) (hz:XbX r):XbX (YX x y r):=by
 have two:∀ (n k:Nat),r.many+2≤k→YO r.att (r.many+1) n k=0:=fun n k hk=>by
   unfold YO;rw [if_neg (by omega)];exact hz k (by omega)
 rcases hop with h | h | h | h | h | h | h | h
 · rw [XbD h];exact fun k hk=>hz k (Nat.le_of_succ_le hk)
 · rw [XcI h];exact fun k hk=>hz k (Nat.le_of_succ_le hk)
 · rw [C3 h];exact hz
 · rw [XbC h];exact fun k hk=>two _ k hk
 · rw [XbB h];exact fun k hk=>two _ k hk
 · by_cases hy:y=Yc x.aR x.aN r
   · rw [XbA h hy];exact fun k hk=>two _ k hk
   · rw [Bb h hy];exact fun k hk=>hz k (Nat.le_of_succ_le hk)
 · rw [XcH h];exact fun k hk=>hz k (Nat.le_of_succ_le hk)
 · rw [Mk h];unfold ZX;split <;> exact hz
theorem Xah {x:Ins} {y:UInt8} {r:RunP} (hop:opR x) (hz:XbX r):XbX (X8 x y r):=XbR hop hz
theorem Qz {l:List Ins} {r:RunP} {x:Ins} (hx:l[r.pc]? = some x):X2 l r=XU x.op:=by unfold X2;rw [hx]
theorem CL {l:List Ins} {r:RunP} {x:Ins} (hx:l[r.pc]? = some x) (hr:XU x.op=true):goP l [] r = .wants:=by
 have hw:=(Qz hx).trans hr
 exact Qa (by rw [XV (.inl hw)];exact hw)
theorem CM {l:List Ins} {r:RunP} {x:Ins} {y:UInt8} {ls:List UInt8} (hx:l[r.pc]? = some x) (hr:XU x.op=true):goP l (y :: ls) r=goP l ls (X8 x y r):=by
 have hw:=(Qz hx).trans hr
 rw [CN (by rw [XV (.inl hw)];exact hw),XV (.inl hw)]
 unfold Y0;rw [hx];rfl
theorem Xbt {l:List Ins} {r:RunP} {x:Ins} {lf:List UInt8} (hx:l[r.pc]? = some x) (hr:XU x.op=false):goP l lf r=goP l lf (X8 x 0 r):=by
 have hp:=Zz hx hr
 cases lf with
 | nil=>unfold goP;rw [hp]
 | cons y ls=>unfold goP;rw [hp]
theorem XcF {l:List Ins} {r:RunP} {lf:List UInt8} (hp:l.length≤r.pc):goP l lf r=if lf=[] then .done r else .many:=by
 have hn:l[r.pc]? = none:=List.getElem?_eq_none hp
 have hw:X2 l r=false:=by unfold X2;rw [hn]
 cases lf with
 | nil=>rw [if_pos rfl,Mg (by rw [XV (.inr hn)];exact hw),XV (.inr hn)]
 | cons y ls=>rw [if_neg (by simp),Mf (by rw [XV (.inr hn)];exact hw)]
theorem Xby {x:Ins} {y:UInt8} {r:RunP} (hr:XU x.op=true):(YX x y r).pc=r.pc:=by
 unfold XU at hr
 simp only [Bool.or_eq_true,beq_iff_eq] at hr
 have e:∀ {q:RunP},YX x y r=q→q.pc=r.pc→(YX x y r).pc=r.pc:=fun h1 h2=>(congrArg RunP.pc h1).trans h2
 have e2:∀ val dn wn,(setP x.dst y (Y3 r.many) ((Er x y val dn wn r).wAtt (r.many+1) (Y3 r.many))).pc=r.pc:=fun _ _ _=>by simp only [setP,Er,emitD,RunP.wDep,RunP.wReg,RunP.wAtt,RunP.wMany,RunP.wCtrl,RunP.wData,RunP.wEv]
 have e1:∀ m,(setP x.dst y (Y3 r.many) (emitD 1 x.loc y m (UInt8.ofNat r.pc) 0 0 r)).pc=r.pc:=fun _=>by simp only [setP,Er,emitD,RunP.wDep,RunP.wReg,RunP.wAtt,RunP.wMany,RunP.wCtrl,RunP.wData,RunP.wEv]
 rcases hr with ((h | h) | h) | h
 · exact e (XbD h y r) (e1 _)
 · exact e (XbC h y r) (e2 _ _ _)
 · exact e (XbB h y r) (e2 _ _ _)
 · by_cases hy:y=Yc x.aR x.aN r
   · exact e (XbA h hy) (e2 _ _ _)
   · exact e (Bb h hy) (e1 _)
theorem EN {l:List Ins} {r:RunP} {x:Ins} {LA:Option Addr} {LC:Nat} {lf:List UInt8} (hx:l[r.pc]? = some x) :
   ((Yj x r LA LC lf).W=true∧(Yj x r LA LC lf).r=r∧(Yj x r LA LC lf).K=0∧goP l lf r = .wants) ∨
   ∃ y,(Yj x r LA LC lf).W=false∧(Yj x r LA LC lf).r=YX x y r∧r.pc+(Yj x r LA LC lf).K+1=(X8 x y r).pc∧goP l lf r=goP l (Yj x r LA LC lf).l (X8 x y r)∧(((Yj x r LA LC lf).l=lf∧(Yj x r LA LC lf).A=LA∧(Yj x r LA LC lf).C=LC)∨∃ q,lf=q :: (Yj x r LA LC lf).l∧(Yj x r LA LC lf).A=Ll LA LC∧(Yj x r LA LC lf).C=LC - 1):=by
 cases hr:XU x.op with
 | true=>
   rw [UY hr]
   cases lf with
   | nil=>exact .inl ⟨rfl,rfl,rfl,CL hx hr⟩
   | cons y ls=>
     refine .inr ⟨y,rfl,rfl,?_,CM hx hr,.inr ⟨y,rfl,rfl,rfl⟩⟩
     show r.pc+0+1=(X8 x y r).pc
     rw [show (X8 x y r).pc=(YX x y r).pc+1 from rfl,Xby hr]
 | false=>
   have hpc:=Y2 x 0 r
   have he:(X8 x 0 r).pc=(YX x 0 r).pc+1:=rfl
   rw [Y7 (k:=(YX x 0 r).pc - r.pc) hr rfl (by omega)]
   refine .inr ⟨0,rfl,rfl,?_,Xbt hx hr,.inl ⟨rfl,rfl,rfl⟩⟩
   show r.pc+((YX x 0 r).pc - r.pc)+1=(X8 x 0 r).pc
   omega
end Go.Proofs.YtagnefpgidbhnaaGreatDoor
