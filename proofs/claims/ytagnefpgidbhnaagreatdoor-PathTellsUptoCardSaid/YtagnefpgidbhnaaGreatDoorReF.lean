/-
  WALK2. The reference of layer 8: atomic. Conditions: the state lies in memory; the instruction is a swap, a fetch or a cas.
-/
import Derived.Test.YtagnefpgidbhnaaGreatDoorJn12
set_option linter.unusedSimpArgs false
set_option linter.unusedVariables false
namespace Go.Proofs.YtagnefpgidbhnaaGreatDoor
open Go.Proofs.Tryz
open Go.RowKit
set_option maxRecDepth 100000
theorem Dl {f:Nat→Nat} {k:Nat} (h0:f k=0) (h1:f (k+1)=0):XK f (k+2)=XK f k:=by
 rw [XK,XK,h0,h1,JO,JO,List.append_nil,List.append_nil]
def atR (x:Ins) (r:RunP):List UInt8→RunP
 | []=>r
 | y :: _=>YX x y r
theorem Own.blkMem {w0 w:World} {row:Option Nat} {b:Nat} {x:Value} {e:TypeId} {rs:List Res} (H:Own w0 row w (.blk b [x] e :: rs)):Own w0 row w (.mem (fun c=>c=b) [(some ⟨b,0,.none⟩,1,[[x]])] :: rs):=by
 have h:w.rangeAt b 0 [x]:=H.whole 0 rfl
 refine H.seen (.mem (fun c=>c=b) [(some ⟨b,0,.none⟩,1,[[x]])]) (fun q hq j cs hj=>?_) (fun c hc=>hc)
 rw [List.mem_singleton.1 hq] at hj ⊢
 match j,hj with
 | 0,hj=>cases hj;exact ⟨b,0,rfl,rfl,h⟩
set_option maxHeartbeats 1500000 in
theorem QM (L:List Sl) (v:SA) (r:RunP) (LA:Option Addr) (LC:Nat) (lf:List UInt8) (x:Ins) (w0:World) (hM:MemL w0 L) (hS:StOk L v r) (hx:InR x) (hop:x.op=4∨x.op=5∨x.op=6) (h24:r.many+1 < 24) (hs:SetsOk r) (hz:∀ k,r.many≤k→r.att k=0) (hl:RowsAt w0 LA 1 (XN lf)) :
   Calls Tryz.prog 62 #[.agg (v.cells r LA lf.length LC false).toArray,.agg x.cells.toArray,.int .i64 ((r.pc:Nat):Int)] w0 fun e w'=>∃ v' S L',e = .returned (.agg (v'.cells (atR x r lf) (rdA LA LC lf) lf.tail.length (rdC LC lf) lf.isEmpty).toArray)∧StOk (L'++L) v' (atR x r lf)∧Own w0 none w' [.mem S L']:=by
 have H:=Own.start w0 none
 have hm24:r.many < 24:=by omega
 have hbt:=UT hm24
 have hdA:=hs.arg x.aR hx.a
 have hdB:=hs.arg x.bR hx.b
 have hbA:=Y6 hdA
 have hbB:=Y6 hdB
 have hb8:=No hm24
 refine XE func62 rfl ntmps62 rfl (fun a F=>?_);refine cSR fun K1 hK1=>?_;refine sBx H F rfl rfl rfl ?_;clear F a H;intro b3 a w F H;refine sBx H F rfl rfl rfl ?_;clear F a H;intro b4 a w F H;refine sAl H zeroValue77 F rfl rfl ?_;clear F a H;intro b6 a w F H;refine sNil ?_
 replace H:Own w0 none w [.blk b6 Y1 77,.blk b4 x.cells 61,.blk b3 (v.cells r LA lf.length LC false) 77]:=H
 refine hK1 _ _ ?_;clear hK1;refine cSeq (fun K2 hK2=>?_);refine cRegRO (by kernel_rfl) H ?_;replace H:=H.drew
 refine XA (k:=0) (i:=0) rfl F rfl rfl (fun w H=>rLr underlying77 rfl ?si F rfl (H.whole 2 rfl)) H (fun _ _ _ h=>h) ?_
 case si=>exact XC sizeOf77
 clear F a;intro a F;refine Xt 1 rfl F rfl (fun w=>rFa (f:=3) (k:=3) underlying61 rfl sizeOf59 rfl rfl F rfl) H qq0 ?_;clear F a;intro a F
 refine XA (k:=2) (i:=2) rfl F rfl rfl (fun w H=>rLr underlying59 rfl ?si F rfl (H.range 1 rfl _ 2)) H (fun _ _ _ h=>h) ?_
 case si=>exact XC sizeOf59
 clear F a;intro a F
 refine XA (k:=3) (i:=4) rfl F rfl rfl (fun w H=>rLr underlying77 rfl ?si F rfl (H.whole 2 rfl)) H (fun _ _ _ h=>h) ?_
 case si=>exact XC sizeOf77
 clear F a;intro a F;refine Xt 5 rfl F rfl (fun w=>rFa (f:=4) (k:=5) underlying61 rfl sizeOf59 rfl rfl F rfl) H qq0 ?_;clear F a;intro a F
 refine XA (k:=5) (i:=6) rfl F rfl rfl (fun w H=>rLr underlying59 rfl ?si F rfl (H.range 1 rfl _ 2)) H (fun _ _ _ h=>h) ?_
 case si=>exact XC sizeOf59
 clear F a;intro a F
 refine Ee F H [2,3,4,6] 10 [true,true,true,true,true,true,true,true,true,true,false,false] (fun rs ups w=>∃ onA onB b7 b8,ups=[(18,.agg #[Go.Proofs.YtagnefpgidbhnaaGreatDoor.b8 (Yc x.aR x.aN r),onA]),(22,.agg #[Go.Proofs.YtagnefpgidbhnaaGreatDoor.b8 (Yc x.bR x.bN r),onB]),(7,.pointer (some ⟨b7,0,none⟩)),(8,.pointer (some ⟨b8,0,none⟩))]∧OnOk L onA (XY x.aR x.aN r)∧OnOk L onB (XY x.bR x.bN r)∧onA.oneCell'=true∧onB.oneCell'=true∧Own w0 none w ((.blk b7 [.int .u8 0,.slice none 0 0] 99) :: (.blk b8 [.int .u8 0,.slice none 0 0] 99) :: rs)) (by repeat (first | exact SubR.nil | (apply SubR.cons;· rfl))) ?_ (fun hJ=>?_)
 rotate_left
 ·
  refine Lh (k:=6) (i:=3) (j:=8) (n:=9) (by kernel_rfl) F rfl rfl rfl rfl rfl rfl ?_ ?_ ?_
  ·
   refine XS call57 F rfl rfl (XI L v r LA lf.length LC false x.aR x.aN _ (hM.own H) hS hx.a) ?_;rintro e w ⟨onA,rfl,hoA,hb⟩
   replace H:=H.grow hb;have hcA:=X3 hoA
   refine ⟨_,rfl,?_⟩;clear F a;intro a F;refine XM H ?_
   refine Lh (k:=7) (i:=7) (j:=8) (n:=9) (by kernel_rfl) F rfl rfl rfl rfl rfl rfl ?_ ?_ ?_
   ·
    refine XS call57 F rfl rfl (XI L v r LA lf.length LC false x.bR x.bN _ (hM.own H) hS hx.b) ?_;rintro e w ⟨onB,rfl,hoB,hb⟩
    replace H:=H.grow hb;have hcB:=X3 hoB
    refine ⟨_,rfl,?_⟩;clear F a;intro a F;refine XM H ?_
    refine Ja (k:=8) (i:=8) (j:=9) (by kernel_rfl) F rfl rfl rfl rfl ?_ ?_
    ·
     refine oAl H zeroValue99 F rfl ?_;clear F a H;intro b7 a w F H;refine XM H.tail ?_;refine Xx (k:=9) (i:=9) rfl (by kernel_rfl) F (oAl H zeroValue99 F rfl ?_);clear F a H;intro b8 a w F H;refine XM H.tail.tail ?_
     exact eGo hJ (by kernel_rfl) _ ⟨onA,onB,b7,b8,rfl,by assumption,by assumption,by assumption,by assumption,H.sel [1,0,2,3,4] rfl rfl⟩ F.tt
    refine oAl H zeroValue99 F rfl ?_;clear F a H;intro b8 a w F H;refine XM H.tail ?_;refine Xx (k:=9) (i:=8) rfl (by kernel_rfl) F (oAl H zeroValue99 F rfl ?_);clear F a H;intro b7 a w F H;refine XM H.tail.tail ?_
    exact eGo hJ (by kernel_rfl) _ ⟨onA,onB,b7,b8,rfl,by assumption,by assumption,by assumption,by assumption,H.sel [0,1,2,3,4] rfl rfl⟩ F.tt
   ·
    refine oAl H zeroValue99 F rfl ?_;clear F a H;intro b7 a w F H;refine XM H.tail ?_
    refine Ja (k:=8) (i:=7) (j:=9) (by kernel_rfl) F rfl rfl rfl rfl ?_ ?_
    ·
     refine XS call57 F rfl rfl (XI L v r LA lf.length LC false x.bR x.bN _ (hM.own H) hS hx.b) ?_;rintro e w ⟨onB,rfl,hoB,hb⟩
     replace H:=H.grow hb;have hcB:=X3 hoB
     refine ⟨_,rfl,?_⟩;clear F a;intro a F;refine XM H.tail ?_;refine Xx (k:=9) (i:=9) rfl (by kernel_rfl) F (oAl H zeroValue99 F rfl ?_);clear F a H;intro b8 a w F H;refine XM H.tail.tail ?_
     exact eGo hJ (by kernel_rfl) _ ⟨onA,onB,b7,b8,rfl,by assumption,by assumption,by assumption,by assumption,H.sel [1,0,2,3,4] rfl rfl⟩ F.tt
    refine oAl H zeroValue99 F rfl ?_;clear F a H;intro b8 a w F H;refine XM H.tail.tail ?_;refine Xx (k:=9) (i:=7) rfl (by kernel_rfl) F (XS call57 F rfl rfl (XI L v r LA lf.length LC false x.bR x.bN _ (hM.own H) hS hx.b) ?_);rintro e w ⟨onB,rfl,hoB,hb⟩
    replace H:=H.grow hb;have hcB:=X3 hoB
    refine ⟨_,rfl,?_⟩;clear F a;intro a F;refine XM H.tail.tail ?_
    exact eGo hJ (by kernel_rfl) _ ⟨onA,onB,b7,b8,rfl,by assumption,by assumption,by assumption,by assumption,H.sel [1,0,2,3,4] rfl rfl⟩ F.tt
   refine oAl H zeroValue99 F rfl ?_;clear F a H;intro b8 a w F H;refine XM H.tail ?_
   refine Ja (k:=8) (i:=7) (j:=8) (by kernel_rfl) F rfl rfl rfl rfl ?_ ?_
   ·
    refine XS call57 F rfl rfl (XI L v r LA lf.length LC false x.bR x.bN _ (hM.own H) hS hx.b) ?_;rintro e w ⟨onB,rfl,hoB,hb⟩
    replace H:=H.grow hb;have hcB:=X3 hoB
    refine ⟨_,rfl,?_⟩;clear F a;intro a F;refine XM H.tail ?_;refine Xx (k:=9) (i:=8) rfl (by kernel_rfl) F (oAl H zeroValue99 F rfl ?_);clear F a H;intro b7 a w F H;refine XM H.tail.tail ?_
    exact eGo hJ (by kernel_rfl) _ ⟨onA,onB,b7,b8,rfl,by assumption,by assumption,by assumption,by assumption,H.sel [0,1,2,3,4] rfl rfl⟩ F.tt
   refine oAl H zeroValue99 F rfl ?_;clear F a H;intro b7 a w F H;refine XM H.tail.tail ?_;refine Xx (k:=9) (i:=7) rfl (by kernel_rfl) F (XS call57 F rfl rfl (XI L v r LA lf.length LC false x.bR x.bN _ (hM.own H) hS hx.b) ?_);rintro e w ⟨onB,rfl,hoB,hb⟩
   replace H:=H.grow hb;have hcB:=X3 hoB
   refine ⟨_,rfl,?_⟩;clear F a;intro a F;refine XM H.tail.tail ?_
   exact eGo hJ (by kernel_rfl) _ ⟨onA,onB,b7,b8,rfl,by assumption,by assumption,by assumption,by assumption,H.sel [0,1,2,3,4] rfl rfl⟩ F.tt
  ·
   refine oAl H zeroValue99 F rfl ?_;clear F a H;intro b7 a w F H;refine XM H.tail ?_
   refine Ja (k:=7) (i:=3) (j:=9) (by kernel_rfl) F rfl rfl rfl rfl ?_ ?_
   ·
    refine XS call57 F rfl rfl (XI L v r LA lf.length LC false x.aR x.aN _ (hM.own H) hS hx.a) ?_;rintro e w ⟨onA,rfl,hoA,hb⟩
    replace H:=H.grow hb;have hcA:=X3 hoA
    refine ⟨_,rfl,?_⟩;clear F a;intro a F;refine XM H.tail ?_
    refine Ja (k:=8) (i:=7) (j:=9) (by kernel_rfl) F rfl rfl rfl rfl ?_ ?_
    ·
     refine XS call57 F rfl rfl (XI L v r LA lf.length LC false x.bR x.bN _ (hM.own H) hS hx.b) ?_;rintro e w ⟨onB,rfl,hoB,hb⟩
     replace H:=H.grow hb;have hcB:=X3 hoB
     refine ⟨_,rfl,?_⟩;clear F a;intro a F;refine XM H.tail ?_;refine Xx (k:=9) (i:=9) rfl (by kernel_rfl) F (oAl H zeroValue99 F rfl ?_);clear F a H;intro b8 a w F H;refine XM H.tail.tail ?_
     exact eGo hJ (by kernel_rfl) _ ⟨onA,onB,b7,b8,rfl,by assumption,by assumption,by assumption,by assumption,H.sel [1,0,2,3,4] rfl rfl⟩ F.tt
    refine oAl H zeroValue99 F rfl ?_;clear F a H;intro b8 a w F H;refine XM H.tail.tail ?_;refine Xx (k:=9) (i:=7) rfl (by kernel_rfl) F (XS call57 F rfl rfl (XI L v r LA lf.length LC false x.bR x.bN _ (hM.own H) hS hx.b) ?_);rintro e w ⟨onB,rfl,hoB,hb⟩
    replace H:=H.grow hb;have hcB:=X3 hoB
    refine ⟨_,rfl,?_⟩;clear F a;intro a F;refine XM H.tail.tail ?_
    exact eGo hJ (by kernel_rfl) _ ⟨onA,onB,b7,b8,rfl,by assumption,by assumption,by assumption,by assumption,H.sel [1,0,2,3,4] rfl rfl⟩ F.tt
   refine oAl H zeroValue99 F rfl ?_;clear F a H;intro b8 a w F H;refine XM H.tail.tail ?_;refine Xx (k:=8) (i:=3) rfl (by kernel_rfl) F (XS call57 F rfl rfl (XI L v r LA lf.length LC false x.aR x.aN _ (hM.own H) hS hx.a) ?_);rintro e w ⟨onA,rfl,hoA,hb⟩
   replace H:=H.grow hb;have hcA:=X3 hoA
   refine ⟨_,rfl,?_⟩;clear F a;intro a F;refine XM H.tail.tail ?_;refine Xx (k:=9) (i:=7) rfl (by kernel_rfl) F (XS call57 F rfl rfl (XI L v r LA lf.length LC false x.bR x.bN _ (hM.own H) hS hx.b) ?_);rintro e w ⟨onB,rfl,hoB,hb⟩
   replace H:=H.grow hb;have hcB:=X3 hoB
   refine ⟨_,rfl,?_⟩;clear F a;intro a F;refine XM H.tail.tail ?_
   exact eGo hJ (by kernel_rfl) _ ⟨onA,onB,b7,b8,rfl,by assumption,by assumption,by assumption,by assumption,H.sel [1,0,2,3,4] rfl rfl⟩ F.tt
  refine oAl H zeroValue99 F rfl ?_;clear F a H;intro b8 a w F H;refine XM H.tail ?_
  refine Ja (k:=7) (i:=3) (j:=8) (by kernel_rfl) F rfl rfl rfl rfl ?_ ?_
  ·
   refine XS call57 F rfl rfl (XI L v r LA lf.length LC false x.aR x.aN _ (hM.own H) hS hx.a) ?_;rintro e w ⟨onA,rfl,hoA,hb⟩
   replace H:=H.grow hb;have hcA:=X3 hoA
   refine ⟨_,rfl,?_⟩;clear F a;intro a F;refine XM H.tail ?_
   refine Ja (k:=8) (i:=7) (j:=8) (by kernel_rfl) F rfl rfl rfl rfl ?_ ?_
   ·
    refine XS call57 F rfl rfl (XI L v r LA lf.length LC false x.bR x.bN _ (hM.own H) hS hx.b) ?_;rintro e w ⟨onB,rfl,hoB,hb⟩
    replace H:=H.grow hb;have hcB:=X3 hoB
    refine ⟨_,rfl,?_⟩;clear F a;intro a F;refine XM H.tail ?_;refine Xx (k:=9) (i:=8) rfl (by kernel_rfl) F (oAl H zeroValue99 F rfl ?_);clear F a H;intro b7 a w F H;refine XM H.tail.tail ?_
    exact eGo hJ (by kernel_rfl) _ ⟨onA,onB,b7,b8,rfl,by assumption,by assumption,by assumption,by assumption,H.sel [0,1,2,3,4] rfl rfl⟩ F.tt
   refine oAl H zeroValue99 F rfl ?_;clear F a H;intro b7 a w F H;refine XM H.tail.tail ?_;refine Xx (k:=9) (i:=7) rfl (by kernel_rfl) F (XS call57 F rfl rfl (XI L v r LA lf.length LC false x.bR x.bN _ (hM.own H) hS hx.b) ?_);rintro e w ⟨onB,rfl,hoB,hb⟩
   replace H:=H.grow hb;have hcB:=X3 hoB
   refine ⟨_,rfl,?_⟩;clear F a;intro a F;refine XM H.tail.tail ?_
   exact eGo hJ (by kernel_rfl) _ ⟨onA,onB,b7,b8,rfl,by assumption,by assumption,by assumption,by assumption,H.sel [0,1,2,3,4] rfl rfl⟩ F.tt
  refine oAl H zeroValue99 F rfl ?_;clear F a H;intro b7 a w F H;refine XM H.tail.tail ?_;refine Xx (k:=8) (i:=3) rfl (by kernel_rfl) F (XS call57 F rfl rfl (XI L v r LA lf.length LC false x.aR x.aN _ (hM.own H) hS hx.a) ?_);rintro e w ⟨onA,rfl,hoA,hb⟩
  replace H:=H.grow hb;have hcA:=X3 hoA
  refine ⟨_,rfl,?_⟩;clear F a;intro a F;refine XM H.tail.tail ?_;refine Xx (k:=9) (i:=7) rfl (by kernel_rfl) F (XS call57 F rfl rfl (XI L v r LA lf.length LC false x.bR x.bN _ (hM.own H) hS hx.b) ?_);rintro e w ⟨onB,rfl,hoB,hb⟩
  replace H:=H.grow hb;have hcB:=X3 hoB
  refine ⟨_,rfl,?_⟩;clear F a;intro a F;refine XM H.tail.tail ?_
  exact eGo hJ (by kernel_rfl) _ ⟨onA,onB,b7,b8,rfl,by assumption,by assumption,by assumption,by assumption,H.sel [0,1,2,3,4] rfl rfl⟩ F.tt
 clear F H;intro ups a w hI F
 obtain ⟨onA,onB,b7,b8,rfl,hfl0,hfl1,hfl2,hfl3,H⟩:=hI
 refine Xx (k:=10) (i:=10) rfl (by kernel_rfl) F (oSr H 0 ?si F rfl rfl ?s1 rfl rfl ?_)
 case si=>exact XC sizeOf99
 case s1=>(repeat (first | exact VA | (apply Wx;· first | rfl | assumption | exact VB rfl rfl)))
 clear H;intro w H;refine XF (by kernel_rfl) H ?_
 refine Xx (k:=11) (i:=11) rfl (by kernel_rfl) F (oSr H 1 ?si F rfl rfl ?s1 rfl rfl ?_)
 case si=>exact XC sizeOf99
 case s1=>(repeat (first | exact VA | (apply Wx;· first | rfl | assumption | exact VB rfl rfl)))
 clear H;intro w H;refine XF (by kernel_rfl) H ?_;refine eNil (k:=12) (by kernel_rfl) ?_
 obtain ⟨AA,Ac,rfl,hAI⟩:=hfl0;obtain ⟨AB,Bc,rfl,hBI⟩:=hfl1;replace H:Own w0 none w [.blk b7 [Go.Proofs.YtagnefpgidbhnaaGreatDoor.b8 (Yc x.aR x.aN r),.slice AA (XR (XY x.aR x.aN r)).length Ac] 99,.blk b8 [Go.Proofs.YtagnefpgidbhnaaGreatDoor.b8 (Yc x.bR x.bN r),.slice AB (XR (XY x.bR x.bN r)).length Bc] 99,.blk b6 Y1 77,.blk b4 x.cells 61,.blk b3 (v.cells r LA lf.length LC false) 77]:=H
 refine hK2 _ _ (cSR fun K3 hK3=>?_);clear hK2
 refine Xo underlying77 rfl ?si F rfl (H.whole 4 rfl) ?_
 case si=>exact XC sizeOf77
 clear F a;intro a F;refine Xi (f:=2) (k:=2) underlying61 rfl sizeOf5 rfl rfl F rfl (Xc isAgg5 rfl (H.cell 3 rfl rfl) (Xd rfl ?_));clear F a;intro a F;refine Xn call58 F rfl (Gj L v r LA LC lf x.loc 3 r.pc _ (hM.own H) hS hm24 hs (hz _ (Nat.le_refl _)) (hl.own H)) ?_;rintro e w ⟨v1,S1,L1,rfl,hS1,H2⟩;replace H:=H.join H2;clear H2;refine ⟨_,rfl,?_⟩;clear F a;intro a F;refine Xl F rfl (XB rfl rfl (XB rfl rfl (XB rfl rfl ?_)));clear F a;intro a F
 refine sSr H 5 ?si F rfl rfl rfl ?s1 rfl rfl ?_
 case si=>exact XC sizeOf77
 case s1=>rfl
 clear H;intro w H;refine Xa F rfl (Xh rfl ?_);clear F a;intro a F;refine sNil ?_
 rw [XG (cs:=SA.cells _ _ _ _ _ _) (by simp [SA.cells])] at H
 refine hK3 _ _ ?_;clear hK3;refine cSeq (fun K4 hK4=>?_);refine cSR fun K5 hK5=>Xi (f:=4) (k:=15) underlying77 rfl sizeOf4 rfl rfl F rfl (Xc isAgg4 rfl (H.cell 5 rfl rfl) (qNK hK5 ?_));clear hK5;clear F a;intro a F
 refine cIf F rfl (fun h33=>?_) (fun h33=>?_)
 ·
  obtain rfl:lf=[]:=List.isEmpty_iff.1 h33
  refine cSR fun K6 hK6=>?_
  refine Xo underlying77 rfl ?si F rfl (H.whole 5 rfl) ?_
  case si=>exact XC sizeOf77
  clear F a;intro a F
  refine sSr H 3 ?si F rfl rfl rfl ?s1 rfl rfl ?_
  case si=>exact XC sizeOf77
  case s1=>rfl
  clear H;intro w H;refine sNil ?_
  rw [XG (cs:=Y1) (by simp [SA.cells,Y1])] at H
  refine hK6 _ _ ?_;clear hK6;refine wp_ret ?_;simp only [Exit.then];refine UX results62 F rfl underlying77 rfl H 3 rfl sizeOf77 rfl ?_
  exact ⟨v1,S1,L1,rfl,hS1,H.sel [0] rfl rfl⟩
 obtain ⟨y,l,rfl⟩:∃ y l,lf=y :: l:=by
  cases lf with
  | nil=>exact absurd h33 (by decide)
  | cons y l=>exact ⟨y,l,rfl⟩
 replace hS1:StOk (L1++L) v1 (emitD 1 x.loc y 3 (UInt8.ofNat r.pc) 0 0 r):=hS1
 have hs1:=hs.emitD 1 x.loc y 3 (UInt8.ofNat r.pc) (dn:=0) (wn:=0) (by decide) (by decide)
 refine wp_skip (hK4 _ _ (cSR fun K7 hK7=>Xl F rfl ?_));clear hK4;clear F a;intro a F;refine MP H underlying23 sizeOf5 zeroValue5 rfl F rfl rfl rfl rfl ?_;clear F a H;intro b36 a w F H;refine Xa F rfl ?_;clear F a;intro a F;refine sNil ?_
 have H9:Own w0 none w (.blk b36 [Go.Proofs.YtagnefpgidbhnaaGreatDoor.b8 (UInt8.ofNat r.many)] 5 :: _):=H.sel [0,1,3,2,4,5,6] rfl rfl
 replace H:=H9.blkMem.memFuse
 generalize hL9:[((some ⟨b36,0,none⟩:Option Addr),1,[[Go.Proofs.YtagnefpgidbhnaaGreatDoor.b8 (UInt8.ofNat r.many)]])]++L1=L9 at H
 have hS9:StOk (L9++L) v1 (emitD 1 x.loc y 3 (UInt8.ofNat r.pc) 0 0 r):=by rw [← hL9,List.append_assoc];exact hS1.right
 have hO9:InL (L9++L) (some ⟨b36,0,none⟩,1,XN (XR (Y3 r.many))):=by rw [hb8,← hL9];exact InL.head.left.left
 refine hK7 _ _ (cSR fun K8 hK8=>Xi (f:=2) (k:=2) underlying61 rfl sizeOf5 rfl rfl F rfl (Xc isAgg5 rfl (H.cell 4 rfl rfl) (Xb (f:=0) (k:=0) underlying99 rfl sizeOf5 rfl rfl rfl (Xc isAgg5 rfl (H.cell 2 rfl rfl) (Xd rfl (qCv underlying3 underlying5 rfl rfl rfl (Vr _) (qBd (cs:=Ev.cells ⟨2,x.loc,Yc x.aR x.aN r,3,UInt8.ofNat r.pc,0⟩) (places:=[(0,1),(1,1),(2,1),(3,1),(4,1),(5,1),(6,1)]) zeroValue45 underlying45 (by kernel_rfl) rfl rfl rfl rfl ?_)))))));clear hK7;clear F a;intro a F;refine sAl H zeroValue45 F rfl rfl ?_;clear F a H;intro b12 a w F H
 refine sSr H 0 ?si F rfl rfl rfl ?s1 rfl rfl ?_
 case si=>exact XC sizeOf45
 case s1=>rfl
 clear H;intro w H;refine sNil ?_;rw [XG (by rfl)] at H;refine hK8 _ _ (cSR fun K9 hK9=>Xa F rfl (qNK hK9 (qSR fun K10 hK10=>Xh rfl (qNK hK10 ?_))));clear hK8 hK9 hK10;clear F a;intro a F
 refine cSeqS [3,4,6,9,10,11] (fun ups w=>∃ (v2:SA) (r2:RunP) (S2:Nat→Prop) (L2:List Sl) (z:UInt8) (wr:Bool),ups=[(13,Go.Proofs.YtagnefpgidbhnaaGreatDoor.b8 z),(14,.bool wr)]∧StOk (L2++L) v2 r2∧InL (L2++L) (some ⟨b36,0,none⟩,1,XN (XR (Y3 r.many)))∧(wr=true→z=UInt8.ofNat (r.many+1)∧r2.many=r.many+2∧(∀ k,r2.att k=r.att k)∧YX x y r=setP x.dst y (Y3 r.many) (r2.wAtt (r.many+1) (Y3 r.many)))∧(wr=false→YX x y r=setP x.dst y (Y3 r.many) r2)∧Own w0 none w [.mem S2 L2,.blk b6 Y1 77,.blk b4 x.cells 61,.blk b3 (v2.cells r2 (Ll LA LC) l.length (LC - 1) false) 77]) F ?_ ?_
 ·
  refine cSR fun K11 hK11=>Xi (f:=0) (k:=0) underlying61 rfl sizeOf5 rfl rfl F rfl (Xc isAgg5 rfl (H.cell 5 rfl rfl) (qNK hK11 ?_));clear hK11;clear F a;intro a F;refine wp_block ?_;refine cSR fun K12 hK12=>Xm F rfl rfl (XZ (y:=4)) (Xh rfl (qNK hK12 ?_));clear hK12;clear F a;intro a F
  refine cIf F rfl (fun h46=>?_) (fun h46=>?_)
  ·
   replace h46:=Yh h46
   have h4:x.op=4:=by rcases hop with h | h | h <;> first | exact h | (rw [h] at h46;exact absurd h46 (by decide))
   refine cReg ?_
   refine Xo underlying77 rfl ?si F rfl (H.whole 6 rfl) ?_
   case si=>exact XC sizeOf77
   clear F a;intro a F
   refine Xo underlying45 rfl ?si F rfl (H.whole 0 rfl) ?_
   case si=>exact XC sizeOf45
   clear F a;intro a F;refine Xi (f:=1) (k:=1) underlying99 rfl sizeOf23 rfl rfl F rfl (Xc isAgg23 rfl (H.cell 3 rfl rfl) ?_);clear F a;intro a F;refine Xn call60 F rfl (ZO (L9++L) v1 _ _ _ _ false 2 x.loc (Yc x.aR x.aN r) 3 (UInt8.ofNat r.pc) (XY x.aR x.aN r) 0 AA Ac none 0 _ ((H.memAt 1 rfl).app (hM.own H)) hS9 h24 hs1 (hz _ (Nat.le_succ _)) hdA (by decide) ((hM.at hAI).own H) NV) ?_;rintro e w ⟨v2,S2,L2,rfl,hS2,H2⟩;replace H:=H.join H2;clear H2;refine ⟨_,rfl,?_⟩;clear F a;intro a F;refine Xl F rfl (XB rfl rfl (XB rfl rfl ?_));clear F a;intro a F
   refine sSr H 7 ?si F rfl rfl rfl ?s1 rfl rfl ?_
   case si=>exact XC sizeOf77
   case s1=>rfl
   clear H;intro w H;refine Xa F rfl ?_;clear F a;intro a F;refine sNil ?_
   rw [XG (cs:=SA.cells _ _ _ _ _ _) (by simp [SA.cells])] at H
   exact ⟨_,⟨v2,Er x y (Yc x.aR x.aN r) (XY x.aR x.aN r) 0 r,_,L2++L9,UInt8.ofNat (r.many+1),true,rfl,(by rw [List.append_assoc];exact hS2),(by rw [List.append_assoc];exact hO9.right),fun _=>⟨rfl,rfl,fun _=>rfl,XbC h4 y r⟩,fun h=>absurd h (by decide),(H.sel [0,2,5,6,7] rfl rfl).memFuse⟩,F.tt⟩
  replace h46:=Yi h46;refine cSR fun K13 hK13=>Xm F rfl rfl (XZ (y:=5)) (Xh rfl (qNK hK13 ?_));clear hK13;clear F a;intro a F
  refine cIf F rfl (fun h56=>?_) (fun h56=>?_)
  ·
   replace h56:=Yh h56
   have h5:x.op=5:=by rcases hop with h | h | h <;> first | exact h | (rw [h] at h56;exact absurd h56 (by decide))
   refine cSR fun K14 hK14=>Xl F rfl (Xb (f:=0) (k:=0) underlying99 rfl sizeOf5 rfl rfl rfl (Xc isAgg5 rfl (H.cell 3 rfl rfl) (Xj rfl rfl (Xag) (Xb (f:=3) (k:=3) underlying45 rfl sizeOf5 rfl rfl rfl ?_))));clear F a;intro a F;refine sSt H 0 sizeOf5 F rfl rfl rfl rfl rfl rfl ?_;clear H;intro w H;refine nK hK14 ?_;clear hK14;refine cRegRO (by kernel_rfl) H ?_;replace H:=H.drew
   refine XA (k:=0) (i:=0) rfl F rfl rfl (fun w H=>rLr underlying77 rfl ?si F rfl (H.whole 6 rfl)) H (fun _ _ _ h=>h) ?_
   case si=>exact XC sizeOf77
   clear F a;intro a F
   refine XA (k:=1) (i:=1) rfl F rfl rfl (fun w H=>rLr underlying45 rfl ?si F rfl (H.whole 0 rfl)) H (fun _ _ _ h=>h) ?_
   case si=>exact XC sizeOf45
   clear F a;intro a F;refine Xt 2 rfl F rfl (fun w=>rFa (f:=1) (k:=1) underlying99 rfl sizeOf23 rfl rfl F rfl) H qq0 (Xz 3 rfl rfl rfl (fun a F w H=>rLd isAgg23 F rfl (H.cell 3 rfl rfl)) H qq0 (Xu 4 rfl rfl (fun a F w=>rMv F rfl) H qq0 ?_));clear F a;intro a F;refine Xx (k:=5) (i:=5) rfl (by kernel_rfl) F (XS call61 F rfl rfl (YN AA Ac (XR (XY x.aR x.aN r)) (some ⟨b36,0,none⟩) 1 [UInt8.ofNat r.many] _ ((hM.at hAI).own H) (by rw [← hb8];exact ((H.memAt 1 rfl).app (hM.own H)).at hO9) (by omega) (by simp)) ?_);rintro e w ⟨A69,c69,rfl,H2⟩
   rw [← hb8,Z0 hdA hbt] at H2 ⊢;replace H:=H.join H2;clear H2
   refine ⟨_,rfl,?_⟩;clear F a;intro a F;refine XM H.tail ?_;refine Xx (k:=6) (i:=6) rfl (by kernel_rfl) F (XS call60 F rfl rfl (ZO (L9++L) v1 _ _ _ _ false 2 x.loc (y+Yc x.aR x.aN r) 3 (UInt8.ofNat r.pc) (XY x.aR x.aN r ||| Y3 r.many) 0 A69 c69 none 0 _ ((H.memAt 2 rfl).app (hM.own H)) hS9 h24 hs1 (hz _ (Nat.le_succ _)) (GA hdA hbt) (by decide) (H.rowsAt 0 rfl XL (by decide)) NV) ?_);rintro e w ⟨v2,S2,L2,rfl,hS2,H2⟩;replace H:=H.join H2;clear H2;refine ⟨_,rfl,?_⟩;clear F a;intro a F;refine XF (by kernel_rfl) H ?_;refine Xt 7 rfl F rfl (fun w=>rMv F rfl) H qq0 (Xu 8 rfl rfl (fun a F w=>Cm F rfl rfl) H qq0 (Xu 9 rfl rfl (fun a F w=>Cm F rfl rfl) H qq0 ?_));clear F a;intro a F
   refine Xx (k:=10) (i:=10) rfl (by kernel_rfl) F (oSr H 8 ?si F rfl rfl ?s1 rfl rfl ?_)
   case si=>exact XC sizeOf77
   case s1=>rfl
   clear H;intro w H;refine XF (by kernel_rfl) H ?_;refine Xt 11 rfl F rfl (fun w=>rAs F rfl) H qq0 ?_;clear F a;intro a F;refine eNil (k:=12) (by kernel_rfl) ?_
   rw [XG (cs:=SA.cells _ _ _ _ _ _) (by simp [SA.cells])] at H
   exact ⟨_,⟨v2,Er x y (y+Yc x.aR x.aN r) (XY x.aR x.aN r ||| Y3 r.many) 0 r,_,L2++L9,UInt8.ofNat (r.many+1),true,rfl,(by rw [List.append_assoc];exact hS2),(by rw [List.append_assoc];exact hO9.right),fun _=>⟨rfl,rfl,fun _=>rfl,XbB h5 y r⟩,fun h=>absurd h (by decide),(H.sel [0,3,6,7,8] rfl rfl).memFuse⟩,F.tt⟩
  replace h56:=Yi h56;refine cSR fun K15 hK15=>Xm F rfl rfl (XZ (y:=6)) (Xh rfl (qNK hK15 ?_));clear hK15;clear F a;intro a F
  refine cIf F rfl (fun h73=>?_) (fun h73=>?_)
  ·
   replace h73:=Yh h73
   have h6:x.op=6:=by rcases hop with h | h | h <;> first | exact h | (rw [h] at h73;exact absurd h73 (by decide))
   refine cSR fun K16 hK16=>Xi (f:=0) (k:=0) underlying99 rfl sizeOf5 rfl rfl F rfl (Xc isAgg5 rfl (H.cell 2 rfl rfl) (Xb (f:=3) (k:=3) underlying45 rfl sizeOf5 rfl rfl rfl ?_));clear F a;intro a F;refine sSt H 0 sizeOf5 F rfl rfl rfl rfl rfl rfl ?_;clear H;intro w H;refine nK hK16 (cSR fun K17 hK17=>Xl F rfl (Xb (f:=0) (k:=0) underlying99 rfl sizeOf5 rfl rfl rfl (Xc isAgg5 rfl (H.cell 3 rfl rfl) (Xj rfl rfl XZ (Xh rfl (qNK hK17 (qSR fun K18 hK18=>Xd rfl (qNK hK18 ?_))))))));clear hK16 hK17 hK18;clear F a;intro a F
   refine cIf F rfl (fun h82=>?_) (fun h82=>?_)
   ·
    have hy:y=Yc x.aR x.aN r:=Yh h82
    refine cRegRO (by kernel_rfl) H ?_;replace H:=H.drew
    refine XA (k:=0) (i:=0) rfl F rfl rfl (fun w H=>rLr underlying77 rfl ?si F rfl (H.whole 6 rfl)) H (fun _ _ _ h=>h) ?_
    case si=>exact XC sizeOf77
    clear F a;intro a F
    refine XA (k:=1) (i:=1) rfl F rfl rfl (fun w H=>rLr underlying45 rfl ?si F rfl (H.whole 0 rfl)) H (fun _ _ _ h=>h) ?_
    case si=>exact XC sizeOf45
    clear F a;intro a F;refine Xt 2 rfl F rfl (fun w=>rFa (f:=1) (k:=1) underlying99 rfl sizeOf23 rfl rfl F rfl) H qq0 (Xz 3 rfl rfl rfl (fun a F w H=>rLd isAgg23 F rfl (H.cell 2 rfl rfl)) H qq0 (Xu 4 rfl rfl (fun a F w=>rMv F rfl) H qq0 (Xu 5 rfl rfl (fun a F w=>rFa (f:=1) (k:=1) underlying99 rfl sizeOf23 rfl rfl F rfl) H qq0 (Xz 6 rfl rfl rfl (fun a F w H=>rLd isAgg23 F rfl (H.cell 3 rfl rfl)) H qq0 ?_))));clear F a;intro a F;refine Xx (k:=7) (i:=7) rfl (by kernel_rfl) F (XS call61 F rfl rfl (YN (some ⟨b36,0,none⟩) 1 [UInt8.ofNat r.many] AA Ac (XR (XY x.aR x.aN r)) _ (by rw [← hb8];exact ((H.memAt 1 rfl).app (hM.own H)).at hO9) ((hM.at hAI).own H) (by simp) (by omega)) ?_);rintro e w ⟨A91,c91,rfl,H2⟩
    rw [← hb8,Z0 hbt hdA] at H2 ⊢;replace H:=H.join H2;clear H2
    refine ⟨_,rfl,?_⟩;clear F a;intro a F;refine XM H.tail ?_;refine Xx (k:=8) (i:=8) rfl (by kernel_rfl) F (XS call60 F rfl rfl (ZO (L9++L) v1 _ _ _ _ false 2 x.loc (Yc x.bR x.bN r) 3 (UInt8.ofNat r.pc) (XY x.bR x.bN r) (Y3 r.many ||| XY x.aR x.aN r) AB Bc A91 c91 _ ((H.memAt 2 rfl).app (hM.own H)) hS9 h24 hs1 (hz _ (Nat.le_succ _)) hdB (GA hbt hdA) ((hM.at hBI).own H) (H.rowsAt 0 rfl XL (by decide))) ?_);rintro e w ⟨v2,S2,L2,rfl,hS2,H2⟩;replace H:=H.join H2;clear H2;refine ⟨_,rfl,?_⟩;clear F a;intro a F;refine XF (by kernel_rfl) H ?_;refine Xt 9 rfl F rfl (fun w=>rMv F rfl) H qq0 (Xu 10 rfl rfl (fun a F w=>Cm F rfl rfl) H qq0 (Xu 11 rfl rfl (fun a F w=>Cm F rfl rfl) H qq0 ?_));clear F a;intro a F
    refine Xx (k:=12) (i:=12) rfl (by kernel_rfl) F (oSr H 8 ?si F rfl rfl ?s1 rfl rfl ?_)
    case si=>exact XC sizeOf77
    case s1=>rfl
    clear H;intro w H;refine XF (by kernel_rfl) H ?_;refine Xt 13 rfl F rfl (fun w=>rAs F rfl) H qq0 ?_;clear F a;intro a F;refine eNil (k:=14) (by kernel_rfl) ?_
    rw [XG (cs:=SA.cells _ _ _ _ _ _) (by simp [SA.cells])] at H
    exact ⟨_,⟨v2,Er x y (Yc x.bR x.bN r) (XY x.bR x.bN r) (Y3 r.many ||| XY x.aR x.aN r) r,_,L2++L9,UInt8.ofNat (r.many+1),_,rfl,(by rw [List.append_assoc];exact hS2),(by rw [List.append_assoc];exact hO9.right),fun _=>⟨rfl,rfl,fun _=>rfl,XbA h6 hy⟩,fun h=>absurd (h82.symm.trans h) (by decide),(H.sel [0,3,6,7,8] rfl rfl).memFuse⟩,F.tt⟩
   have hy:y ≠ Yc x.aR x.aN r:=fun e=>absurd (Yi h82) (by rw [e];simp)
   refine wp_skip ?_
   exact ⟨_,⟨v1,emitD 1 x.loc y 3 (UInt8.ofNat r.pc) 0 0 r,_,L9,0,_,rfl,hS9,hO9,fun h=>absurd (h82.symm.trans h) (by decide),fun _=>Bb h6 hy,H.sel [1,4,5,6] rfl rfl⟩,F.tt⟩
  replace h73:=Yi h73
  exfalso;rcases hop with h | h | h <;> first | (rw [h] at h46;exact h46 rfl) | (rw [h] at h56;exact h56 rfl) | (rw [h] at h73;exact h73 rfl)
 clear F H
 intro ups a w hI F
 obtain ⟨v2,r2,S2,L2,z,wr,rfl,hS2,hO2,hT2,hF2,H⟩:=hI
 refine cSeq (fun K19 hK19=>?_);refine cSR fun K20 hK20=>Xl F rfl (qNK hK20 ?_);clear hK20;clear F a;intro a F
 refine cIf F rfl (fun h95=>?_) (fun h95=>?_)
 ·
  obtain ⟨rfl,hm2,ha2,he2⟩:=hT2 h95
  have hpl:=Wh (f:=r2.att) (fun k=>by rw [ha2];exact hs.att k) r2.many
  refine cReg ?_;refine sBs (cs:=[]) H underlying34 sizeOf64 zeroValue64 rfl F rfl rfl rfl rfl rfl ?_;clear F a H;intro b96 a w F H
  replace H:=H.emptyRws 2
  refine Xi (f:=2) (k:=2) underlying77 rfl sizeOf37 rfl rfl F rfl (Xb (f:=3) (k:=5) underlying37 rfl sizeOf34 rfl rfl rfl (Xc isAgg34 rfl (H.cell 4 rfl rfl) ?_));clear F a;intro a F;refine E0 (bytes:=2) (sz:=2) H 0 underlying34 typeInfo64 rfl rfl rfl rfl rfl rfl F rfl rfl rfl rfl rfl ?hm ((show RowsAt w v2.M 2 ((XK r2.att r2.many).map prC) from ((H.memAt 1 rfl).app (hM.own H)).at hS2.M)) (We) (Vx) ?hb ?_
  case hm=>(simp;done)
  case hb=>exact ((by simp only [List.length_nil,List.length_map];omega))
  clear F a H;intro A100 c100 a w F H;refine Xl F rfl (Xd rfl (qBaB XaL underlying64 sizeOf5 rfl rfl rfl (FillB.one rfl rfl (FillB.one rfl rfl FillB.nil)) ?_));clear F a;intro a F;refine sBsA H underlying34 sizeOf64 zeroValue64 rfl F rfl rfl rfl rfl rfl ?_;clear F a H;intro b104 a w F H
  refine G7 (bytes:=2) H 1 underlying34 typeInfo64 rfl rfl rfl rfl rfl rfl F rfl rfl rfl rfl rfl (H.whole 0 rfl) rfl ?s1 ?s2 ?_
  case s1=>rfl
  case s2=>(simp only [List.nil_append,List.length_map];omega)
  clear F a H;intro A105 c105 a w F H;refine Xi (f:=2) (k:=2) underlying77 rfl sizeOf37 rfl rfl F rfl (Xb (f:=3) (k:=5) underlying37 rfl sizeOf34 rfl rfl rfl ?_);clear F a;intro a F;refine sSt H 5 sizeOf34 F rfl rfl rfl rfl rfl rfl ?_;clear H;intro w H;refine sNil ?_
  have hq1:([]++(XK r2.att r2.many).map prC++[bs 2 (put (put zb (0 * 1) (UInt8.ofNat r.many)) (1 * 1) (UInt8.ofNat (r.many+1)))])=(XK (r2.wAtt (r.many+1) (Y3 r.many)).att (r2.wAtt (r.many+1) (Y3 r.many)).many).map prC:=by
   show _=(XK (YO r2.att (r.many+1) (Y3 r.many)) r2.many).map prC
   rw [hm2,Dm (by rw [ha2];exact hz _ (Nat.le_refl _)) hm24,Dl (by rw [ha2];exact hz _ (Nat.le_refl _)) (by rw [ha2];exact hz _ (Nat.le_succ _)),List.nil_append,List.map_append]
   rfl
  have hq2:((XK (r2.wAtt (r.many+1) (Y3 r.many)).att (r2.wAtt (r.many+1) (Y3 r.many)).many).map prC).length=(XK (r2.wAtt (r.many+1) (Y3 r.many)).att (r2.wAtt (r.many+1) (Y3 r.many)).many).length:=List.length_map _
  obtain ⟨v3,r3,S3,L3,hS3,hO3,he3,H⟩:∃ (v3:SA) (r3:RunP) (S3:Nat→Prop) (L3:List Sl),StOk (L3++L) v3 r3∧InL (L3++L) (some ⟨b36,0,none⟩,1,XN (XR (Y3 r.many)))∧YX x y r=setP x.dst y (Y3 r.many) r3∧Own w0 none w [.mem S3 L3,.blk b6 Y1 77,.blk b4 x.cells 61,.blk b3 (v3.cells r3 (Ll LA LC) l.length (LC - 1) false) 77]:=by
   have H9:Own w0 none w [.rws 64 2 (.slice A105 (XK (r2.wAtt (r.many+1) (Y3 r.many)).att (r2.wAtt (r.many+1) (Y3 r.many)).many).length c105) ((XK (r2.wAtt (r.many+1) (Y3 r.many)).att (r2.wAtt (r.many+1) (Y3 r.many)).many).map prC),.mem S2 L2,.blk b6 Y1 77,.blk b4 x.cells 61,.blk b3 (SA.cells { v2 with M:=A105,Mc:=c105 } (r2.wAtt (r.many+1) (Y3 r.many)) (Ll LA LC) l.length (LC - 1) false) 77]:=by
    show Own w0 none w [_,_,_,_,.blk b3 [_,_,_,_,_,.slice A105 (XK (r2.wAtt (r.many+1) (Y3 r.many)).att (r2.wAtt (r.many+1) (Y3 r.many)).many).length c105,_,_,_,_,_,_,_,_,_,_] _]
    rw [← hq2,← hq1]
    exact H.sel [1,2,3,4,5] rfl rfl
   exact ⟨{ v2 with M:=A105,Mc:=c105 },r2.wAtt (r.many+1) (Y3 r.many),_,[(A105,2,(XK (r2.wAtt (r.many+1) (Y3 r.many)).att (r2.wAtt (r.many+1) (Y3 r.many)).many).map prC)]++L2,(by rw [List.append_assoc];exact ⟨hS2.R.right,fun d hd=>(hS2.on d hd).right,hS2.C.right,hS2.E.right,hS2.D.right,hS2.K.right,InL.head.left⟩),(by rw [List.append_assoc];exact hO2.right),he2,(H9.toMem We (by decide)).memFuse⟩
  refine hK19 _ _ (cSR fun K21 hK21=>?_);clear hK19
  refine Xo underlying77 rfl ?si F rfl (H.whole 3 rfl) ?_
  case si=>exact XC sizeOf77
  clear F a;intro a F;refine Xi (f:=1) (k:=1) underlying61 rfl sizeOf5 rfl rfl F rfl (Xc isAgg5 rfl (H.cell 2 rfl rfl) (Xd rfl (Xd rfl (qBd (places:=[(0,1),(1,1)]) zeroValue99 underlying99 (by kernel_rfl) rfl rfl rfl rfl ?_))));clear F a;intro a F;refine Xn call59 F rfl (ZN (L3++L) v3 r3 _ _ _ false x.dst y (.slice (some ⟨b36,0,none⟩) 1 1) (Y3 r.many) _ ((H.memAt 0 rfl).app (hM.own H)) hS3 hx.d ⟨_,_,(by rw [hb8];rfl),hO3⟩) ?_;rintro e w ⟨v4,S4,L4,rfl,hS4,H2⟩;replace H:=H.join H2;clear H2;refine ⟨_,rfl,?_⟩;clear F a;intro a F
  refine sSr H 2 ?si F rfl rfl rfl ?s1 rfl rfl ?_
  case si=>exact XC sizeOf77
  case s1=>rfl
  clear H;intro w H;refine sNil ?_
  rw [XG (cs:=Y1) (by simp [SA.cells,Y1])] at H
  refine hK21 _ _ ?_;clear hK21;refine wp_ret ?_;refine UX results62 F rfl underlying77 rfl H 2 rfl sizeOf77 rfl ?_
  (refine ⟨v4,_,L4++L3,?_,?_,(H.sel [0,1] rfl rfl).memFuse⟩
   · show _=Ending.returned (.agg (v4.cells (YX x y r) (Ll LA LC) l.length (LC - 1) false).toArray)
     rw [he3]
   · show StOk _ _ (YX x y r)
     rw [he3,List.append_assoc];exact hS4)
 obtain ⟨v3,r3,S3,L3,hS3,hO3,he3,H⟩:∃ (v3:SA) (r3:RunP) (S3:Nat→Prop) (L3:List Sl),StOk (L3++L) v3 r3∧InL (L3++L) (some ⟨b36,0,none⟩,1,XN (XR (Y3 r.many)))∧YX x y r=setP x.dst y (Y3 r.many) r3∧Own w0 none w [.mem S3 L3,.blk b6 Y1 77,.blk b4 x.cells 61,.blk b3 (v3.cells r3 (Ll LA LC) l.length (LC - 1) false) 77]:=⟨v2,r2,S2,L2,hS2,hO2,hF2 h95,H⟩
 refine wp_skip (hK19 _ _ (cSR fun K22 hK22=>?_));clear hK19
 refine Xo underlying77 rfl ?si F rfl (H.whole 3 rfl) ?_
 case si=>exact XC sizeOf77
 clear F a;intro a F;refine Xi (f:=1) (k:=1) underlying61 rfl sizeOf5 rfl rfl F rfl (Xc isAgg5 rfl (H.cell 2 rfl rfl) (Xd rfl (Xd rfl (qBd (places:=[(0,1),(1,1)]) zeroValue99 underlying99 (by kernel_rfl) rfl rfl rfl rfl ?_))));clear F a;intro a F;refine Xn call59 F rfl (ZN (L3++L) v3 r3 _ _ _ false x.dst y (.slice (some ⟨b36,0,none⟩) 1 1) (Y3 r.many) _ ((H.memAt 0 rfl).app (hM.own H)) hS3 hx.d ⟨_,_,(by rw [hb8];rfl),hO3⟩) ?_;rintro e w ⟨v4,S4,L4,rfl,hS4,H2⟩;replace H:=H.join H2;clear H2;refine ⟨_,rfl,?_⟩;clear F a;intro a F
 refine sSr H 2 ?si F rfl rfl rfl ?s1 rfl rfl ?_
 case si=>exact XC sizeOf77
 case s1=>rfl
 clear H;intro w H;refine sNil ?_
 rw [XG (cs:=Y1) (by simp [SA.cells,Y1])] at H
 refine hK22 _ _ ?_;clear hK22;refine wp_ret ?_;refine UX results62 F rfl underlying77 rfl H 2 rfl sizeOf77 rfl ?_
 (refine ⟨v4,_,L4++L3,?_,?_,(H.sel [0,1] rfl rfl).memFuse⟩
  · show _=Ending.returned (.agg (v4.cells (YX x y r) (Ll LA LC) l.length (LC - 1) false).toArray)
    rw [he3]
  · show StOk _ _ (YX x y r)
    rw [he3,List.append_assoc];exact hS4)
end Go.Proofs.YtagnefpgidbhnaaGreatDoor
