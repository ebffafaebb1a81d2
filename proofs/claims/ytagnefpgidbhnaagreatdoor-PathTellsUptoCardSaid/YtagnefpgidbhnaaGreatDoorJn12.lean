/-
  WALK2. The reference of layer 8: does. Conditions: the state lies in memory.
-/
import Derived.Test.YtagnefpgidbhnaaGreatDoorJn11
set_option linter.unusedSimpArgs false
set_option linter.unusedVariables false
namespace Go.Proofs.YtagnefpgidbhnaaGreatDoor
-- ReC
open Go.Proofs.Tryz
open Go.RowKit
set_option maxRecDepth 100000
def emitD (kind loc val mode ins:UInt8) (dn wn:Nat) (r:RunP):RunP:=
 (((r.wEv r.many ⟨kind,loc,val,mode,ins,UInt8.ofNat r.many⟩).wData r.many dn).wCtrl r.many (r.control ||| wn)).wMany (r.many+1)
theorem Gw {f g:Nat→Nat}:∀ {n:Nat},(∀ k,k < n→f k=g k)→XK f n=XK g n
 | 0,_=>rfl
 | n+1,h=>by rw [XK,XK,Gw fun k hk=>h k (by omega),h n (by omega)]
theorem QQ {f:Nat→Nat} {n v:Nat}:XK (YO f n v) (n+1)=XK f n++Qw n v:=by
 rw [XK,Gw (g:=f) fun k hk=>by unfold YO;rw [if_neg (by omega)]]
 unfold YO;rw [if_pos rfl]
theorem Ba (kind loc val mode ins:UInt8) (dn wn:Nat) (r:RunP):Yw (emitD kind loc val mode ins dn wn r)=Yw r++[⟨kind,loc,val,mode,ins,UInt8.ofNat r.many⟩]:=by
 unfold Yw
 show (List.range (r.many+1)).map (YO r.ev r.many _)=_
 rw [List.range_succ,List.map_append]
 congr 1
 · exact List.map_congr_left fun k hk=>by
     unfold YO;rw [if_neg (by have:=List.mem_range.1 hk;omega)]
 · show [YO r.ev r.many _ r.many]=_
   unfold YO;rw [if_pos rfl]
theorem Nx {kind loc val mode ins:UInt8} {dn wn:Nat} {r:RunP} (hz:r.att r.many=0):XK (emitD kind loc val mode ins dn wn r).att (emitD kind loc val mode ins dn wn r).many=XK r.att r.many:=by
 show XK r.att (r.many+1)=_
 rw [XK,hz]
 show _++[]=_
 rw [List.append_nil]
def VG (v:SA) (r:RunP) (ev dv kv:Value) (LA:Option Addr) (ln LC:Nat) (wants:Bool):List Value:=
 [.slice v.R 8 v.Rc,.slice v.C (XR r.control).length v.Cc,ev,dv,kv,.slice v.M (XK r.att r.many).length v.Mc,b8 0,b8 0,b8 0,b8 0,b8 0,b8 0,b8 0,b8 0,.slice LA ln LC,.bool wants]
def Y1:List Value:=[.slice none 0 0,.slice none 0 0,.slice none 0 0,.slice none 0 0,.slice none 0 0,.slice none 0 0,.int .u8 0,.int .u8 0,.int .u8 0,.int .u8 0,.int .u8 0,.int .u8 0,.int .u8 0,.int .u8 0,.slice none 0 0,.bool false]
theorem We {l:List Pr}:∀ q ∈ l.map prC,q.length=2:=fun q hq=>by obtain ⟨x,_,rfl⟩:=List.mem_map.1 hq;rfl
theorem Vx {l:List Pr}:∀ q ∈ l.map prC,q.all (·.oneCell')=true:=fun q hq=>by obtain ⟨x,_,rfl⟩:=List.mem_map.1 hq;rfl
theorem GL {l:List Ev}:∀ q ∈ l.map Ev.cells,q.length=7:=fun q hq=>by obtain ⟨x,_,rfl⟩:=List.mem_map.1 hq;rfl
theorem Qk {l:List Ev}:∀ q ∈ l.map Ev.cells,q.all (·.oneCell')=true:=fun q hq=>by obtain ⟨x,_,rfl⟩:=List.mem_map.1 hq;rfl
theorem Lo {n j:Nat} {z:UInt8} (h:(XR n)[j]? = some z):∃ k,(WM n)[j]? = some k∧z=UInt8.ofNat k:=by
 unfold XR at h
 rw [List.getElem?_map] at h
 obtain ⟨k,hk,rfl⟩:=Option.map_eq_some_iff.1 h
 exact ⟨k,hk,rfl⟩
theorem Em (n:Nat):(XR n).length=(WM n).length:=List.length_map _
def ZY (f:Nat→Nat) (k x j:Nat):List Pr:=XK f k++((WM x).take j).map (Vm k)
theorem V1 (f:Nat→Nat) (k x:Nat):ZY f k x 0=XK f k:=by unfold ZY;simp
theorem Cn (f:Nat→Nat) (k x:Nat):ZY f k x (XR x).length=XK f k++Qw k x:=by unfold ZY Qw;rw [Em,List.take_length]
theorem JS (f:Nat→Nat) (k x:Nat):ZY f k x (XR x).length=XK (YO f k x) (k+1):=by rw [Cn,QQ]
theorem InL.up {L K:List Sl} {s:Sl} (h:InL L s) (hh:∀ x,x ∈ L→x ∈ K):InL K s:=h.imp_left (hh s)
theorem C7 {v:SA} {r:RunP} {kind loc val mode ins:UInt8} {dn wn:Nat} {A D K LA:Option Addr} {c dc kc ln LC:Nat} {wants:Bool} (hz:r.att r.many=0):SA.cells { v with E:=A,Ec:=c,D:=D,Dc:=dc,K:=K,Kc:=kc } (emitD kind loc val mode ins dn wn r) LA ln LC wants=VG v r (.slice A (Yw (emitD kind loc val mode ins dn wn r)).length c) (.slice D (ZY r.data r.many dn (XR dn).length).length dc) (.slice K (ZY r.ctrl r.many (r.control ||| wn) (XR (r.control ||| wn)).length).length kc) LA ln LC wants:=by
 unfold SA.cells VG
 rw [Nx hz,JS,JS]
 rfl
theorem QN {f:Nat→Nat} {k x j q:Nat} (h:(WM x)[j]? = some q):(ZY f k x (j+1)).map prC=(ZY f k x j).map prC++[prC (Vm k q)]:=by
 unfold ZY
 rw [List.take_add_one,h,List.map_append,List.map_append,List.map_append,List.map_append,List.append_assoc]
 rfl
theorem MU {f:Nat→Nat} {k x j:Nat} (hj:j≤64) (hk:k < 24) (hf:∀ i,f i < 4294967296):(ZY f k x j).length≤103079215104+64:=by
 have h1:=Wh hf k
 unfold ZY
 rw [List.length_append,List.length_map,List.length_take]
 omega
set_option maxHeartbeats 8000000 in
theorem ZO (L:List Sl) (v:SA) (r:RunP) (LA:Option Addr) (ln LC:Nat) (wants:Bool) (kind loc val mode ins:UInt8) (dn wn:Nat) (DA:Option Addr) (DC:Nat) (WA:Option Addr) (WC:Nat) (w0:World) (hM:MemL w0 L) (hS:StOk L v r) (h24:r.many < 24) (hs:SetsOk r) (hz:r.att r.many=0) (hdn:dn < 4294967296) (hwn:wn < 4294967296) (hD:RowsAt w0 DA 1 (XN (XR dn))) (hW:RowsAt w0 WA 1 (XN (XR wn))) :
   Calls Tryz.prog 60 #[.agg (v.cells r LA ln LC wants).toArray,.agg (Ev.cells ⟨kind,loc,val,mode,ins,0⟩).toArray,.slice DA (XR dn).length DC,.slice WA (XR wn).length WC] w0 fun e w'=>∃ v' S L',e = .returned (.tuple #[.agg (v'.cells (emitD kind loc val mode ins dn wn r) LA ln LC wants).toArray,Go.Proofs.YtagnefpgidbhnaaGreatDoor.b8 (UInt8.ofNat r.many)])∧StOk (L'++L) v' (emitD kind loc val mode ins dn wn r)∧Own w0 none w' [.mem S L']:=by
 have H:=Own.start w0 none
 have hel:=VE r
 have hcw:=JY hs.control hwn
 have hb1:=Y6 hs.control
 have hb2:=Y6 hwn
 have hb3:=Y6 hdn
 have hb4:=Y6 hcw
 have hemE:=Ba kind loc val mode ins dn wn r
 refine XE func60 rfl ntmps60 rfl (fun a F=>?_);refine cSR fun K1 hK1=>?_;refine sBx H F rfl rfl rfl ?_;clear F a H;intro b4 a w F H;refine sBx H F rfl rfl rfl ?_;clear F a H;intro b5 a w F H;refine sAl H zeroValue77 F rfl rfl ?_;clear F a H;intro b8 a w F H;refine Xa F rfl (qNK hK1 (qSR fun K2 hK2=>Xb (f:=2) (k:=2) underlying77 rfl sizeOf37 rfl rfl rfl (Xb (f:=0) (k:=2) underlying37 rfl sizeOf33 rfl rfl rfl (Xc isAgg33 rfl (H.cell 2 rfl rfl) (Xs underlying33 rfl (qCv underlying3 underlying5 rfl rfl rfl (Vr _) (Xh rfl (qNK hK2 (qSR fun K3 hK3=>Xd rfl (Xb (f:=6) (k:=6) underlying45 rfl sizeOf5 rfl rfl rfl ?_))))))))));clear hK1 hK2;clear F a;intro a F;refine sSt H 1 sizeOf5 F rfl rfl rfl rfl rfl rfl ?_;clear H;intro w H;refine nK hK3 ?_;clear hK3;refine cSeq (fun K4 hK4=>?_);refine cRegRO (by kernel_rfl) H ?_;replace H:=H.drew;refine Xt 1 rfl F rfl (fun w=>rFa (f:=2) (k:=2) underlying77 rfl sizeOf37 rfl rfl F rfl) H qq0 (Xu 2 rfl rfl (fun a F w=>rFa (f:=0) (k:=2) underlying37 rfl sizeOf33 rfl rfl F rfl) H qq0 (Xz 3 rfl rfl rfl (fun a F w H=>rLd isAgg33 F rfl (H.cell 2 rfl rfl)) H qq0 ?_));clear F a;intro a F
 refine XA (k:=3) (i:=5) rfl F rfl rfl (fun w H=>rLr underlying45 rfl ?si F rfl (H.whole 1 rfl)) H (fun _ _ _ h=>h) ?_
 case si=>exact XC sizeOf45
 clear F a;intro a F
 refine Ee F H [2,3,4,8,10] 7 [true,true,true,true,true,true,true,false,false,false,false] (fun rs ups w=>∃ A25 c25 b27,ups=[(25,.slice A25 ([]++(Yw r).map Ev.cells).length c25),(27,.slice (some ⟨b27,0,none⟩) 1 1)]∧Own w0 none w ((.rws 45 7 (.slice A25 ([]++(Yw r).map Ev.cells).length c25) ([]++(Yw r).map Ev.cells)) :: (.blk b27 (Ev.cells ⟨kind,loc,val,mode,ins,UInt8.ofNat (Yw r).length⟩) 45) :: rs)) (by repeat (first | exact SubR.nil | (apply SubR.cons;· rfl))) ?_ (fun hJ=>?_)
 rotate_left
 ·
  refine Ja (k:=4) (i:=0) (j:=6) (by kernel_rfl) F rfl rfl rfl rfl ?_ ?_
  ·
   refine oBs (cs:=[]) H underlying33 sizeOf45 zeroValue45 rfl F rfl rfl rfl rfl ?_;clear F a H;intro b21 a w F H
   replace H:=H.emptyRws 7
   refine XM H.tail ?_
   refine Ja (k:=5) (i:=4) (j:=6) (by kernel_rfl) F rfl rfl rfl rfl ?_ ?_
   ·
    refine J1 (bytes:=16) (sz:=7) H 0 underlying33 typeInfo45 rfl rfl rfl rfl rfl rfl F rfl rfl rfl rfl ?hm ((show RowsAt w v.E 7 ((Yw r).map Ev.cells) from (hM.at hS.E).own H)) (GL) (Qk) ?hb ?_
    case hm=>(simp;done)
    case hb=>exact ((by simp only [List.length_nil,List.length_map];omega))
    clear F a H;intro A25 c25 a w F H;refine XM H.tail ?_;refine Xx (k:=6) (i:=6) rfl (by kernel_rfl) F (LT H underlying33 sizeOf45 zeroValue45 rfl F rfl rfl rfl rfl ?_);clear F a H;intro b27 a w F H;refine XM H.tail.tail ?_
    exact eGo hJ (by kernel_rfl) _ ⟨A25,c25,b27,rfl,H.sel [1,0,2,3,4] rfl rfl⟩ F.tt
   refine LT H underlying33 sizeOf45 zeroValue45 rfl F rfl rfl rfl rfl ?_;clear F a H;intro b27 a w F H;refine XM H.tail.tail ?_;refine Xx (k:=6) (i:=4) rfl (by kernel_rfl) F (J1 (bytes:=16) (sz:=7) H 1 underlying33 typeInfo45 rfl rfl rfl rfl rfl rfl F rfl rfl rfl rfl ?hm ((show RowsAt w v.E 7 ((Yw r).map Ev.cells) from (hM.at hS.E).own H)) (GL) (Qk) ?hb ?_)
   case hm=>(simp;done)
   case hb=>exact ((by simp only [List.length_nil,List.length_map];omega))
   clear F a H;intro A25 c25 a w F H;refine XM H.tail.tail ?_
   exact eGo hJ (by kernel_rfl) _ ⟨A25,c25,b27,rfl,H.sel [1,0,2,3,4] rfl rfl⟩ F.tt
  refine LT H underlying33 sizeOf45 zeroValue45 rfl F rfl rfl rfl rfl ?_;clear F a H;intro b27 a w F H;refine XM H.tail ?_;refine Xx (k:=5) (i:=0) rfl (by kernel_rfl) F (oBs (cs:=[]) H underlying33 sizeOf45 zeroValue45 rfl F rfl rfl rfl rfl ?_);clear F a H;intro b21 a w F H
  replace H:=H.emptyRws 7
  refine XM H.tail.tail ?_;refine Xx (k:=6) (i:=4) rfl (by kernel_rfl) F (J1 (bytes:=16) (sz:=7) H 0 underlying33 typeInfo45 rfl rfl rfl rfl rfl rfl F rfl rfl rfl rfl ?hm ((show RowsAt w v.E 7 ((Yw r).map Ev.cells) from (hM.at hS.E).own H)) (GL) (Qk) ?hb ?_)
  case hm=>(simp;done)
  case hb=>exact ((by simp only [List.length_nil,List.length_map];omega))
  clear F a H;intro A25 c25 a w F H;refine XM H.tail.tail ?_
  exact eGo hJ (by kernel_rfl) _ ⟨A25,c25,b27,rfl,H.sel [0,1,2,3,4] rfl rfl⟩ F.tt
 clear F H;intro ups a w hI F
 obtain ⟨A25,c25,b27,rfl,H⟩:=hI
 refine Xx (k:=7) (i:=7) rfl (by kernel_rfl) F (Ct (bytes:=16) H 0 underlying33 typeInfo45 rfl rfl rfl rfl rfl rfl F rfl rfl rfl rfl (H.whole 1 rfl) rfl ?s1 ?s2 ?_)
 case s1=>rfl
 case s2=>(simp only [List.nil_append,List.length_map];omega)
 clear F a H;intro A28 c28 a w F H;refine XF (by kernel_rfl) H ?_;refine Xt 8 rfl F rfl (fun w=>rFa (f:=2) (k:=2) underlying77 rfl sizeOf37 rfl rfl F rfl) H qq0 (Xu 9 rfl rfl (fun a F w=>rFa (f:=0) (k:=2) underlying37 rfl sizeOf33 rfl rfl F rfl) H qq0 ?_);clear F a;intro a F;refine Xx (k:=10) (i:=10) rfl (by kernel_rfl) F (oSt H 4 sizeOf33 F rfl rfl rfl rfl rfl ?_);clear H;intro w H;refine XF (by kernel_rfl) H ?_;refine eNil (k:=11) (by kernel_rfl) ?_
 have hE1:([]++(Yw r).map Ev.cells++[Ev.cells ⟨kind,loc,val,mode,ins,UInt8.ofNat (Yw r).length⟩])=(Yw (emitD kind loc val mode ins dn wn r)).map Ev.cells:=by rw [hemE,List.nil_append,List.map_append,hel];rfl
 have hE2:((Yw (emitD kind loc val mode ins dn wn r)).map Ev.cells).length=(Yw (emitD kind loc val mode ins dn wn r)).length:=List.length_map _
 replace H:Own w0 none w [.rws 45 7 (.slice A28 (Yw (emitD kind loc val mode ins dn wn r)).length c28) ((Yw (emitD kind loc val mode ins dn wn r)).map Ev.cells),.blk b8 Y1 77,.blk b5 (Ev.cells ⟨kind,loc,val,mode,ins,UInt8.ofNat (Yw r).length⟩) 45,.blk b4 (VG v r (.slice A28 (Yw (emitD kind loc val mode ins dn wn r)).length c28) (.slice v.D (XK r.data r.many).length v.Dc) (.slice v.K (XK r.ctrl r.many).length v.Kc) LA ln LC wants) 77]:=by
  rw [← hE2,← hE1]
  exact H.sel [0,2,3,4] rfl rfl
 refine hK4 _ _ (cSR fun K5 hK5=>Xi (f:=1) (k:=1) underlying77 rfl sizeOf23 rfl rfl F rfl (Xc isAgg23 rfl (H.cell 3 rfl rfl) (Xd rfl ?_)));clear hK4;clear F a;intro a F;refine Xn call61 F rfl (YN v.C v.Cc (XR r.control) WA WC (XR wn) _ ((hM.at hS.C).own H) (hW.own H) (by omega) (by omega)) ?_;rintro e w ⟨A34,c34,rfl,H2⟩
 rw [Z0 hs.control hwn] at H2 ⊢;replace H:=H.join H2;clear H2
 refine ⟨_,rfl,?_⟩;clear F a;intro a F;refine Xa F rfl (qNK hK5 ?_);clear hK5;clear F a;intro a F;refine cSeq (fun K6 hK6=>?_);refine cSR fun K7 hK7=>Xa F rfl (qNK hK7 ?_);clear hK7;clear F a;intro a F;refine wp_block ?_
 refine cLoopS [2,4,8,10,11] (fun m ups w=>∃ (j:Nat) (K5:Option Addr) (kc:Nat) (SK:Nat→Prop) (LK:List Sl),m=(XR (r.control ||| wn)).length - j∧ups=[(12,.int .i64 ((j:Nat):Int))]∧j≤(XR (r.control ||| wn)).length∧InL (LK++L) (K5,2,(ZY r.ctrl r.many (r.control ||| wn) j).map prC)∧Own w0 none w [.mem SK LK,.rws 5 1 (.slice A34 (XR (r.control ||| wn)).length c34) (XN (XR (r.control ||| wn))),.rws 45 7 (.slice A28 (Yw (emitD kind loc val mode ins dn wn r)).length c28) ((Yw (emitD kind loc val mode ins dn wn r)).map Ev.cells),.blk b8 Y1 77,.blk b4 (VG v r (.slice A28 (Yw (emitD kind loc val mode ins dn wn r)).length c28) (.slice v.D (XK r.data r.many).length v.Dc) (.slice K5 (ZY r.ctrl r.many (r.control ||| wn) j).length kc) LA ln LC wants) 77]) F ((XR (r.control ||| wn)).length) [(12,.int .i64 ((0:Nat):Int))] ?_ ?_
 · exact ⟨0,v.K,v.Kc,_,[],rfl,rfl,Nat.zero_le _,(by rw [V1];exact hS.K),(by rw [V1];exact ((H.sel [0,1,2,4] rfl rfl).memNil))⟩
 clear F
 clear H
 intro m ups a w hI F
 obtain ⟨j,K5,kc,SK,LK,rfl,rfl,hj,hK,H⟩:=hI
 refine cSeq (fun K8 hK8=>?_);refine cSR fun K9 hK9=>Xl F rfl (Xd rfl (Xs underlying23 rfl (Xj rfl rfl YW (qNK hK9 ?_))));clear hK9;clear F a;intro a F
 refine cIf F rfl (fun h38=>?_) (fun h38=>?_)
 ·
  replace h38:=of_decide_eq_true h38
  have hjl:j < (XR (r.control ||| wn)).length:=by omega
  obtain ⟨z,hz1⟩:∃ z,(XR (r.control ||| wn))[j]? = some z:=⟨_,List.getElem?_eq_getElem hjl⟩
  obtain ⟨q,hq1,rfl⟩:=Lo hz1
  have hpl:=MU (f:=r.ctrl) (k:=r.many) (x:=r.control ||| wn) (j:=j) (by omega) h24 hs.ctrl
  obtain ⟨bL,oL,rfl,_⟩:=H.rowsAt 1 rfl XL (by decide) j [Go.Proofs.YtagnefpgidbhnaaGreatDoor.b8 (UInt8.ofNat q)] (by rw [List.getElem?_map,hz1];rfl)
  have hKm:RowsAt w K5 2 ((ZY r.ctrl r.many (r.control ||| wn) j).map prC):=((H.memAt 0 rfl).app (hM.own H)).at hK
  refine wp_skip (hK8 _ _ ?_);clear hK8;refine cSeq (fun K10 hK10=>?_);refine wp_block ?_;refine cRegRO (by kernel_rfl) H ?_;replace H:=H.drew;refine Xt 1 rfl F rfl (fun w=>rFa (f:=2) (k:=2) underlying77 rfl sizeOf37 rfl rfl F rfl) H qq0 (Xu 2 rfl rfl (fun a F w=>rFa (f:=2) (k:=4) underlying37 rfl sizeOf34 rfl rfl F rfl) H qq0 (Xz 3 rfl rfl rfl (fun a F w H=>rLd isAgg34 F rfl (H.cell 4 rfl rfl)) H qq0 (Xu 5 rfl rfl (fun a F w=>rMv F rfl) H qq0 (Xu 6 rfl rfl (fun a F w=>rMv F rfl) H qq0 ?_))));clear F a;intro a F
  refine Xv (k:=5) (i:=7) rfl F rfl (fun w=>rIx underlying23 sizeOf5 F rfl rfl ?_) H (fun _ _ _ h=>h) ?_
  focus exact hjl
  clear F a;intro a F
  refine XA (k:=6) (i:=8) rfl F rfl rfl (fun w H=>rLd isAgg5 F rfl (by obtain ⟨b',o',g1,g2⟩:=H.rowsAt 1 rfl XL (by decide) j [Go.Proofs.YtagnefpgidbhnaaGreatDoor.b8 (UInt8.ofNat q)] (by rw [List.getElem?_map,hz1];rfl);cases g1;simpa using g2 0 _ rfl)) H (fun _ _ _ h=>h) ?_;clear F a;intro a F
  refine Xt 9 rfl F rfl (fun w=>rMv F rfl) H qq0 (Xz 10 rfl rfl rfl (fun a F w H=>XbZ XaL underlying64 sizeOf5 F rfl (FillB.one rfl rfl (FillB.one rfl rfl FillB.nil))) H qq0 ?_);clear F a;intro a F
  refine Ee F H [2,4,8,10,11,12] 12 [true,true,true,true,true,true,true,true,true,true,true,true,false,false,false,false] (fun rs ups w=>∃ A45 c45 b52,ups=[(45,.slice A45 ([]++(ZY r.ctrl r.many (r.control ||| wn) j).map prC).length c45),(52,.slice (some ⟨b52,0,none⟩) 1 1)]∧Own w0 none w ((.rws 64 2 (.slice A45 ([]++(ZY r.ctrl r.many (r.control ||| wn) j).map prC).length c45) ([]++(ZY r.ctrl r.many (r.control ||| wn) j).map prC)) :: (.blk b52 (bs 2 (put (put zb (0 * 1) (UInt8.ofNat q)) (1 * 1) (UInt8.ofNat (Yw r).length))) 64) :: rs)) (by repeat (first | exact SubR.nil | (apply SubR.cons;· rfl))) ?_ (fun hJ=>?_)
  rotate_left
  ·
   refine Ja (k:=9) (i:=0) (j:=11) (by kernel_rfl) F rfl rfl rfl rfl ?_ ?_
   ·
    refine oBs (cs:=[]) H underlying34 sizeOf64 zeroValue64 rfl F rfl rfl rfl rfl ?_;clear F a H;intro b41 a w F H
    replace H:=H.emptyRws 2
    refine XM H.tail ?_
    refine Ja (k:=10) (i:=4) (j:=11) (by kernel_rfl) F rfl rfl rfl rfl ?_ ?_
    ·
     refine J1 (bytes:=2) (sz:=2) H 0 underlying34 typeInfo64 rfl rfl rfl rfl rfl rfl F rfl rfl rfl rfl ?hm (((((H.memAt 1 rfl).app (hM.own H)).at hK):RowsAt w K5 2 ((ZY r.ctrl r.many (r.control ||| wn) j).map prC))) (We) (Vx) ?hb ?_
     case hm=>(simp;done)
     case hb=>exact ((by simp only [List.length_nil,List.length_map];omega))
     clear F a H;intro A45 c45 a w F H;refine XM H.tail ?_;refine Xx (k:=11) (i:=11) rfl (by kernel_rfl) F (LT H underlying34 sizeOf64 zeroValue64 rfl F rfl rfl rfl rfl ?_);clear F a H;intro b52 a w F H;refine XM H.tail.tail ?_
     exact eGo hJ (by kernel_rfl) _ ⟨A45,c45,b52,rfl,H.sel [1,0,2,3,4,5,6] rfl rfl⟩ F.tt
    refine LT H underlying34 sizeOf64 zeroValue64 rfl F rfl rfl rfl rfl ?_;clear F a H;intro b52 a w F H;refine XM H.tail.tail ?_;refine Xx (k:=11) (i:=4) rfl (by kernel_rfl) F (J1 (bytes:=2) (sz:=2) H 1 underlying34 typeInfo64 rfl rfl rfl rfl rfl rfl F rfl rfl rfl rfl ?hm (((((H.memAt 2 rfl).app (hM.own H)).at hK):RowsAt w K5 2 ((ZY r.ctrl r.many (r.control ||| wn) j).map prC))) (We) (Vx) ?hb ?_)
    case hm=>(simp;done)
    case hb=>exact ((by simp only [List.length_nil,List.length_map];omega))
    clear F a H;intro A45 c45 a w F H;refine XM H.tail.tail ?_
    exact eGo hJ (by kernel_rfl) _ ⟨A45,c45,b52,rfl,H.sel [1,0,2,3,4,5,6] rfl rfl⟩ F.tt
   refine LT H underlying34 sizeOf64 zeroValue64 rfl F rfl rfl rfl rfl ?_;clear F a H;intro b52 a w F H;refine XM H.tail ?_;refine Xx (k:=10) (i:=0) rfl (by kernel_rfl) F (oBs (cs:=[]) H underlying34 sizeOf64 zeroValue64 rfl F rfl rfl rfl rfl ?_);clear F a H;intro b41 a w F H
   replace H:=H.emptyRws 2
   refine XM H.tail.tail ?_;refine Xx (k:=11) (i:=4) rfl (by kernel_rfl) F (J1 (bytes:=2) (sz:=2) H 0 underlying34 typeInfo64 rfl rfl rfl rfl rfl rfl F rfl rfl rfl rfl ?hm (((((H.memAt 2 rfl).app (hM.own H)).at hK):RowsAt w K5 2 ((ZY r.ctrl r.many (r.control ||| wn) j).map prC))) (We) (Vx) ?hb ?_)
   case hm=>(simp;done)
   case hb=>exact ((by simp only [List.length_nil,List.length_map];omega))
   clear F a H;intro A45 c45 a w F H;refine XM H.tail.tail ?_
   exact eGo hJ (by kernel_rfl) _ ⟨A45,c45,b52,rfl,H.sel [0,1,2,3,4,5,6] rfl rfl⟩ F.tt
  clear F H;intro ups a w hI F
  obtain ⟨A45,c45,b52,rfl,H⟩:=hI
  refine Xx (k:=12) (i:=12) rfl (by kernel_rfl) F (Ct (bytes:=2) H 0 underlying34 typeInfo64 rfl rfl rfl rfl rfl rfl F rfl rfl rfl rfl (H.whole 1 rfl) rfl ?s1 ?s2 ?_)
  case s1=>rfl
  case s2=>(simp only [List.nil_append,List.length_map];omega)
  clear F a H;intro A53 c53 a w F H;refine XF (by kernel_rfl) H ?_;refine Xt 13 rfl F rfl (fun w=>rFa (f:=2) (k:=2) underlying77 rfl sizeOf37 rfl rfl F rfl) H qq0 (Xu 14 rfl rfl (fun a F w=>rFa (f:=2) (k:=4) underlying37 rfl sizeOf34 rfl rfl F rfl) H qq0 ?_);clear F a;intro a F;refine Xx (k:=15) (i:=15) rfl (by kernel_rfl) F (oSt H 6 sizeOf34 F rfl rfl rfl rfl rfl ?_);clear H;intro w H;refine XF (by kernel_rfl) H ?_;refine eNil (k:=16) (by kernel_rfl) ?_;refine hK10 _ _ (cReg (Xl F rfl ?_));clear hK10;clear F a;intro a F
  refine Xm F rfl rfl (XJ (j:=1) ?_) ?_
  focus omega
  clear F a;intro a F;refine Xa F rfl ?_;clear F a;intro a F;refine sNil ?_
  have hK2:([]++(ZY r.ctrl r.many (r.control ||| wn) j).map prC++[bs 2 (put (put zb (0 * 1) (UInt8.ofNat q)) (1 * 1) (UInt8.ofNat (Yw r).length))])=(ZY r.ctrl r.many (r.control ||| wn) (j+1)).map prC:=by rw [QN hq1,List.nil_append,hel];rfl
  have hK3:((ZY r.ctrl r.many (r.control ||| wn) (j+1)).map prC).length=(ZY r.ctrl r.many (r.control ||| wn) (j+1)).length:=List.length_map _
  have H9:Own w0 none w [.rws 64 2 (.slice A53 (ZY r.ctrl r.many (r.control ||| wn) (j+1)).length c53) ((ZY r.ctrl r.many (r.control ||| wn) (j+1)).map prC),.rws 5 1 (.slice (some ⟨bL,oL,none⟩) (XR (r.control ||| wn)).length c34) (XN (XR (r.control ||| wn))),.rws 45 7 (.slice A28 (Yw (emitD kind loc val mode ins dn wn r)).length c28) ((Yw (emitD kind loc val mode ins dn wn r)).map Ev.cells),.blk b8 Y1 77,.blk b4 (VG v r (.slice A28 (Yw (emitD kind loc val mode ins dn wn r)).length c28) (.slice v.D (XK r.data r.many).length v.Dc) (.slice A53 (ZY r.ctrl r.many (r.control ||| wn) (j+1)).length c53) LA ln LC wants) 77]:=by
   rw [← hK3,← hK2]
   exact H.sel [0,3,4,5,6] rfl rfl
  exact ⟨_,by omega,_,⟨j+1,A53,c53,_,_,rfl,rfl,by omega,InL.head.left,H9.toMem We (by decide)⟩,F.tt⟩
 replace h38:=of_decide_eq_false h38
 obtain rfl:j=(XR (r.control ||| wn)).length:=by omega
 refine wp_exit ?_;refine hK6 _ _ ?_;clear hK6;refine cSeq (fun K11 hK11=>?_);refine cSR fun K12 hK12=>Xa F rfl (qNK hK12 ?_);clear hK12;clear F a;intro a F;refine wp_block ?_
 refine cLoopS [2,4,8,10] (fun m ups w=>∃ (j:Nat) (D5:Option Addr) (dc:Nat) (SD:Nat→Prop) (LD:List Sl),m=(XR dn).length - j∧ups=[(13,.int .i64 ((j:Nat):Int))]∧j≤(XR dn).length∧InL (LD++L) (D5,2,(ZY r.data r.many dn j).map prC)∧Own w0 none w [.mem SD LD,.mem SK LK,.rws 45 7 (.slice A28 (Yw (emitD kind loc val mode ins dn wn r)).length c28) ((Yw (emitD kind loc val mode ins dn wn r)).map Ev.cells),.blk b8 Y1 77,.blk b4 (VG v r (.slice A28 (Yw (emitD kind loc val mode ins dn wn r)).length c28) (.slice D5 (ZY r.data r.many dn j).length dc) (.slice K5 (ZY r.ctrl r.many (r.control ||| wn) (XR (r.control ||| wn)).length).length kc) LA ln LC wants) 77]) F ((XR dn).length) [(13,.int .i64 ((0:Nat):Int))] ?_ ?_
 · exact ⟨0,v.D,v.Dc,_,[],rfl,rfl,Nat.zero_le _,(by rw [V1];exact hS.D),(by rw [V1];exact ((H.sel [0,2,3,4] rfl rfl).memNil))⟩
 clear F
 clear H
 intro m ups a w hI F
 obtain ⟨j,D5,dc,SD,LD,rfl,rfl,hj,hD5,H⟩:=hI
 refine cSeq (fun K13 hK13=>?_);refine cSR fun K14 hK14=>Xl F rfl (Xd rfl (Xs underlying23 rfl (Xj rfl rfl YW (qNK hK14 ?_))));clear hK14;clear F a;intro a F
 refine cIf F rfl (fun h59=>?_) (fun h59=>?_)
 ·
  replace h59:=of_decide_eq_true h59
  have hjl:j < (XR dn).length:=by omega
  obtain ⟨z,hz1⟩:∃ z,(XR dn)[j]? = some z:=⟨_,List.getElem?_eq_getElem hjl⟩
  obtain ⟨q,hq1,rfl⟩:=Lo hz1
  have hpl:=MU (f:=r.data) (k:=r.many) (x:=dn) (j:=j) (by omega) h24 hs.data
  obtain ⟨bL,oL,rfl,hLx⟩:=hD j [Go.Proofs.YtagnefpgidbhnaaGreatDoor.b8 (UInt8.ofNat q)] (by rw [List.getElem?_map,hz1];rfl)
  refine wp_skip (hK13 _ _ ?_);clear hK13;refine cSeq (fun K15 hK15=>?_);refine wp_block ?_;refine cRegRO (by kernel_rfl) H ?_;replace H:=H.drew;refine Xt 1 rfl F rfl (fun w=>rFa (f:=2) (k:=2) underlying77 rfl sizeOf37 rfl rfl F rfl) H qq0 (Xu 2 rfl rfl (fun a F w=>rFa (f:=1) (k:=3) underlying37 rfl sizeOf34 rfl rfl F rfl) H qq0 (Xz 3 rfl rfl rfl (fun a F w H=>rLd isAgg34 F rfl (H.cell 4 rfl rfl)) H qq0 (Xu 5 rfl rfl (fun a F w=>rMv F rfl) H qq0 (Xu 6 rfl rfl (fun a F w=>rMv F rfl) H qq0 ?_))));clear F a;intro a F
  refine Xv (k:=5) (i:=7) rfl F rfl (fun w=>rIx underlying23 sizeOf5 F rfl rfl ?_) H (fun _ _ _ h=>h) ?_
  focus exact hjl
  clear F a;intro a F;refine Xw 8 rfl F rfl rfl (fun w H=>rLd isAgg5 F rfl (H.arg (by simpa using hLx 0 _ rfl))) H qq0 (Xu 9 rfl rfl (fun a F w=>rMv F rfl) H qq0 (Xz 10 rfl rfl rfl (fun a F w H=>XbZ XaL underlying64 sizeOf5 F rfl (FillB.one rfl rfl (FillB.one rfl rfl FillB.nil))) H qq0 ?_));clear F a;intro a F
  refine Ee F H [2,4,8,10,13] 12 [true,true,true,true,true,true,true,true,true,true,true,true,false,false,false,false] (fun rs ups w=>∃ A66 c66 b73,ups=[(66,.slice A66 ([]++(ZY r.data r.many dn j).map prC).length c66),(73,.slice (some ⟨b73,0,none⟩) 1 1)]∧Own w0 none w ((.rws 64 2 (.slice A66 ([]++(ZY r.data r.many dn j).map prC).length c66) ([]++(ZY r.data r.many dn j).map prC)) :: (.blk b73 (bs 2 (put (put zb (0 * 1) (UInt8.ofNat q)) (1 * 1) (UInt8.ofNat (Yw r).length))) 64) :: rs)) (by repeat (first | exact SubR.nil | (apply SubR.cons;· rfl))) ?_ (fun hJ=>?_)
  rotate_left
  ·
   refine Ja (k:=9) (i:=0) (j:=11) (by kernel_rfl) F rfl rfl rfl rfl ?_ ?_
   ·
    refine oBs (cs:=[]) H underlying34 sizeOf64 zeroValue64 rfl F rfl rfl rfl rfl ?_;clear F a H;intro b62 a w F H
    replace H:=H.emptyRws 2
    refine XM H.tail ?_
    refine Ja (k:=10) (i:=4) (j:=11) (by kernel_rfl) F rfl rfl rfl rfl ?_ ?_
    ·
     refine J1 (bytes:=2) (sz:=2) H 0 underlying34 typeInfo64 rfl rfl rfl rfl rfl rfl F rfl rfl rfl rfl ?hm (((((H.memAt 1 rfl).app (hM.own H)).at hD5):RowsAt w D5 2 ((ZY r.data r.many dn j).map prC))) (We) (Vx) ?hb ?_
     case hm=>(simp;done)
     case hb=>exact ((by simp only [List.length_nil,List.length_map];omega))
     clear F a H;intro A66 c66 a w F H;refine XM H.tail ?_;refine Xx (k:=11) (i:=11) rfl (by kernel_rfl) F (LT H underlying34 sizeOf64 zeroValue64 rfl F rfl rfl rfl rfl ?_);clear F a H;intro b73 a w F H;refine XM H.tail.tail ?_
     exact eGo hJ (by kernel_rfl) _ ⟨A66,c66,b73,rfl,H.sel [1,0,2,3,4,5,6] rfl rfl⟩ F.tt
    refine LT H underlying34 sizeOf64 zeroValue64 rfl F rfl rfl rfl rfl ?_;clear F a H;intro b73 a w F H;refine XM H.tail.tail ?_;refine Xx (k:=11) (i:=4) rfl (by kernel_rfl) F (J1 (bytes:=2) (sz:=2) H 1 underlying34 typeInfo64 rfl rfl rfl rfl rfl rfl F rfl rfl rfl rfl ?hm (((((H.memAt 2 rfl).app (hM.own H)).at hD5):RowsAt w D5 2 ((ZY r.data r.many dn j).map prC))) (We) (Vx) ?hb ?_)
    case hm=>(simp;done)
    case hb=>exact ((by simp only [List.length_nil,List.length_map];omega))
    clear F a H;intro A66 c66 a w F H;refine XM H.tail.tail ?_
    exact eGo hJ (by kernel_rfl) _ ⟨A66,c66,b73,rfl,H.sel [1,0,2,3,4,5,6] rfl rfl⟩ F.tt
   refine LT H underlying34 sizeOf64 zeroValue64 rfl F rfl rfl rfl rfl ?_;clear F a H;intro b73 a w F H;refine XM H.tail ?_;refine Xx (k:=10) (i:=0) rfl (by kernel_rfl) F (oBs (cs:=[]) H underlying34 sizeOf64 zeroValue64 rfl F rfl rfl rfl rfl ?_);clear F a H;intro b62 a w F H
   replace H:=H.emptyRws 2
   refine XM H.tail.tail ?_;refine Xx (k:=11) (i:=4) rfl (by kernel_rfl) F (J1 (bytes:=2) (sz:=2) H 0 underlying34 typeInfo64 rfl rfl rfl rfl rfl rfl F rfl rfl rfl rfl ?hm (((((H.memAt 2 rfl).app (hM.own H)).at hD5):RowsAt w D5 2 ((ZY r.data r.many dn j).map prC))) (We) (Vx) ?hb ?_)
   case hm=>(simp;done)
   case hb=>exact ((by simp only [List.length_nil,List.length_map];omega))
   clear F a H;intro A66 c66 a w F H;refine XM H.tail.tail ?_
   exact eGo hJ (by kernel_rfl) _ ⟨A66,c66,b73,rfl,H.sel [0,1,2,3,4,5,6] rfl rfl⟩ F.tt
  clear F H;intro ups a w hI F
  obtain ⟨A66,c66,b73,rfl,H⟩:=hI
  refine Xx (k:=12) (i:=12) rfl (by kernel_rfl) F (Ct (bytes:=2) H 0 underlying34 typeInfo64 rfl rfl rfl rfl rfl rfl F rfl rfl rfl rfl (H.whole 1 rfl) rfl ?s1 ?s2 ?_)
  case s1=>rfl
  case s2=>(simp only [List.nil_append,List.length_map];omega)
  clear F a H;intro A74 c74 a w F H;refine XF (by kernel_rfl) H ?_;refine Xt 13 rfl F rfl (fun w=>rFa (f:=2) (k:=2) underlying77 rfl sizeOf37 rfl rfl F rfl) H qq0 (Xu 14 rfl rfl (fun a F w=>rFa (f:=1) (k:=3) underlying37 rfl sizeOf34 rfl rfl F rfl) H qq0 ?_);clear F a;intro a F;refine Xx (k:=15) (i:=15) rfl (by kernel_rfl) F (oSt H 6 sizeOf34 F rfl rfl rfl rfl rfl ?_);clear H;intro w H;refine XF (by kernel_rfl) H ?_;refine eNil (k:=16) (by kernel_rfl) ?_;refine hK15 _ _ (cReg (Xl F rfl ?_));clear hK15;clear F a;intro a F
  refine Xm F rfl rfl (XJ (j:=1) ?_) ?_
  focus omega
  clear F a;intro a F;refine Xa F rfl ?_;clear F a;intro a F;refine sNil ?_
  have hK2:([]++(ZY r.data r.many dn j).map prC++[bs 2 (put (put zb (0 * 1) (UInt8.ofNat q)) (1 * 1) (UInt8.ofNat (Yw r).length))])=(ZY r.data r.many dn (j+1)).map prC:=by rw [QN hq1,List.nil_append,hel];rfl
  have hK3:((ZY r.data r.many dn (j+1)).map prC).length=(ZY r.data r.many dn (j+1)).length:=List.length_map _
  have H9:Own w0 none w [.rws 64 2 (.slice A74 (ZY r.data r.many dn (j+1)).length c74) ((ZY r.data r.many dn (j+1)).map prC),.mem SK LK,.rws 45 7 (.slice A28 (Yw (emitD kind loc val mode ins dn wn r)).length c28) ((Yw (emitD kind loc val mode ins dn wn r)).map Ev.cells),.blk b8 Y1 77,.blk b4 (VG v r (.slice A28 (Yw (emitD kind loc val mode ins dn wn r)).length c28) (.slice A74 (ZY r.data r.many dn (j+1)).length c74) (.slice K5 (ZY r.ctrl r.many (r.control ||| wn) (XR (r.control ||| wn)).length).length kc) LA ln LC wants) 77]:=by
   rw [← hK3,← hK2]
   exact H.sel [0,3,4,5,6] rfl rfl
  exact ⟨_,by omega,_,⟨j+1,A74,c74,_,_,rfl,rfl,by omega,InL.head.left,H9.toMem We (by decide)⟩,F.tt⟩
 replace h59:=of_decide_eq_false h59
 obtain rfl:j=(XR dn).length:=by omega
 refine wp_exit ?_;refine hK11 _ _ (cSR fun K16 hK16=>?_);clear hK11
 refine Xo underlying77 rfl ?si F rfl (H.whole 4 rfl) ?_
 case si=>exact XC sizeOf77
 clear F a;intro a F;refine Xl F rfl ?_;clear F a;intro a F
 refine sSr H 3 ?si F rfl rfl rfl ?s1 rfl rfl ?_
 case si=>exact XC sizeOf77
 case s1=>rfl
 clear H;intro w H;refine Xa F rfl (qNK hK16 ?_);clear hK16;clear F a;intro a F;refine wp_ret ?_;refine ZG results60 F rfl rfl underlying77 rfl H 3 rfl sizeOf77 rfl ?_
 have H9:Own w0 none w [.rws 45 7 (.slice A28 (Yw (emitD kind loc val mode ins dn wn r)).length c28) ((Yw (emitD kind loc val mode ins dn wn r)).map Ev.cells),.mem SD LD,.mem SK LK]:=H.sel [2,0,1] rfl rfl
 rw [JS] at hD5 hK
 refine ⟨{ v with E:=A28,Ec:=c28,D:=D5,Dc:=dc,K:=K5,Kc:=kc },_,_,(by rw [C7 hz,← hel];rfl),?_,(H9.toMem GL (by decide)).memFuse.memFuse⟩
 exact ⟨hS.R.right,fun d hd=>(hS.on d hd).right,hS.C.right,InL.head.left.left.left,hD5.up (by simp only [List.mem_append];intro x h;rcases h with h | h <;> simp [h]),hK.up (by simp only [List.mem_append];intro x h;rcases h with h | h <;> simp [h]),(by rw [Nx hz];exact hS.M.right)⟩
-- ReD
open Go.Proofs.Tryz
open Go.RowKit
set_option maxRecDepth 100000
def Ll (A:Option Addr) (C:Nat):Option Addr:=if C=1 then A else A.map (·.add (1 * 1))
theorem C5 {w:World} {A:Option Addr} {C:Nat} {x:UInt8} {l:List UInt8} (h:RowsAt w A 1 (XN (x :: l))) (hc:(x :: l).length≤C):RowsAt w (Ll A C) 1 (XN l):=by
 intro j cs hj
 have hl:l ≠ []:=by rintro rfl;cases hj
 have hlp:=List.length_pos_iff.2 hl
 rw [List.length_cons] at hc
 obtain ⟨b,o,h1,h2⟩:=h (j+1) cs (by rw [← hj];rfl)
 refine ⟨b,o+1,?_,?_⟩
 · unfold Ll
   rw [if_neg (by omega),h1]
   rfl
 · rw [show o+1+j * 1=o+(j+1) * 1 by omega];exact h2
theorem NV {w:World} {A:Option Addr}:RowsAt w A 1 (XN (XR 0)):=fun j cs h=>by cases h
set_option maxHeartbeats 1000000 in
theorem NU (L:List Sl) (v:SA) (r:RunP) (LA:Option Addr) (LC:Nat) (lf:List UInt8) (loc mode:UInt8) (ix:Nat) (w0:World) (hM:MemL w0 L) (hS:StOk L v r) (h24:r.many < 24) (hs:SetsOk r) (hz:r.att r.many=0) (hl:RowsAt w0 LA 1 (XN lf)) :
   Calls Tryz.prog 58 #[.agg (v.cells r LA lf.length LC false).toArray,Go.Proofs.YtagnefpgidbhnaaGreatDoor.b8 loc,Go.Proofs.YtagnefpgidbhnaaGreatDoor.b8 mode,.int .i64 ((ix:Nat):Int)] w0 fun e w'=>
     (lf=[]∧e = .returned (.tuple #[.agg (v.cells r LA 0 LC true).toArray,Go.Proofs.YtagnefpgidbhnaaGreatDoor.b8 0,Go.Proofs.YtagnefpgidbhnaaGreatDoor.b8 0])∧Below w0.heap.size w0 w') ∨
     ∃ x l v' S L',lf=x :: l∧e = .returned (.tuple #[.agg (v'.cells (emitD 1 loc x mode (UInt8.ofNat ix) 0 0 r) (Ll LA LC) l.length (LC - 1) false).toArray,Go.Proofs.YtagnefpgidbhnaaGreatDoor.b8 x,Go.Proofs.YtagnefpgidbhnaaGreatDoor.b8 (UInt8.ofNat r.many)])∧StOk (L'++L) v' (emitD 1 loc x mode (UInt8.ofNat ix) 0 0 r)∧Own w0 none w' [.mem S L']:=by
 have H:=Own.start w0 none
 refine XE func58 rfl ntmps58 rfl (fun a F=>?_);refine cSR fun K1 hK1=>?_;refine sBx H F rfl rfl rfl ?_;clear F a H;intro b4 a w F H;refine sAl H zeroValue77 F rfl rfl ?_;clear F a H;intro b8 a w F H;refine Xa F rfl (Xh rfl (qNK hK1 ?_));clear hK1;clear F a;intro a F;refine cSeq (fun K2 hK2=>?_);refine cSR fun K3 hK3=>Xi (f:=3) (k:=14) underlying77 rfl sizeOf23 rfl rfl F rfl (Xc isAgg23 rfl (H.cell 1 rfl rfl) (Xs underlying23 rfl (Xj rfl rfl ZQ (qNK hK3 ?_))));clear hK3;clear F a;intro a F
 refine cIf F rfl (fun h16=>?_) (fun h16=>?_)
 ·
  replace h16:=Yh h16;refine cSR fun K4 hK4=>Xi (f:=4) (k:=15) underlying77 rfl sizeOf4 rfl rfl F rfl ?_;clear F a;intro a F;refine sSt H 1 sizeOf4 F rfl rfl rfl rfl rfl rfl ?_;clear H;intro w H;refine sNil ?_
  replace H:Own w0 none w [.blk b8 Y1 77,.blk b4 (v.cells r LA lf.length LC true) 77]:=H
  refine hK4 _ _ (cSR fun K5 hK5=>?_);clear hK4
  refine Xo underlying77 rfl ?si F rfl (H.whole 1 rfl) ?_
  case si=>exact XC sizeOf77
  clear F a;intro a F
  refine sSr H 0 ?si F rfl rfl rfl ?s1 rfl rfl ?_
  case si=>exact XC sizeOf77
  case s1=>rfl
  clear H;intro w H;refine Xa F rfl (Xh rfl ?_);clear F a;intro a F;refine sNil ?_
  rw [XG (by simp [SA.cells,Y1])] at H
  refine hK5 _ _ ?_;clear hK5;refine wp_ret ?_;simp only [Exit.then];refine Vp results58 F rfl rfl rfl underlying77 rfl H 0 rfl sizeOf77 rfl ?_
  (refine .inl ⟨?_,?_,H.below⟩
   · exact List.length_eq_zero_iff.1 (by omega)
   · have:=List.length_eq_zero_iff.1 (show lf.length=0 by omega)
     subst this;rfl)
 replace h16:=Yi h16
 obtain ⟨x,l,rfl⟩:∃ x l,lf=x :: l:=by
  cases lf with
  | nil=>exact absurd rfl h16
  | cons x l=>exact ⟨x,l,rfl⟩
 obtain ⟨bL,oL,rfl,hx⟩:=hl 0 [Go.Proofs.YtagnefpgidbhnaaGreatDoor.b8 x] rfl
 refine wp_skip (hK2 _ _ (cSR fun K6 hK6=>Xi (f:=3) (k:=14) underlying77 rfl sizeOf23 rfl rfl F rfl (Xc isAgg23 rfl (H.cell 1 rfl rfl) ?_)));clear hK2;clear F a;intro a F
 refine sIx (j:=0) underlying23 sizeOf5 F rfl rfl rfl rfl ?_ ?_
 focus exact Nat.succ_pos _
 clear F a;intro a F;refine sLd isAgg5 F rfl rfl rfl (H.arg (by simpa using hx 0 _ rfl)) (Xh rfl (qNK hK6 (qSR fun K7 hK7=>Xb (f:=3) (k:=14) underlying77 rfl sizeOf23 rfl rfl rfl (Xc isAgg23 rfl (H.cell 1 rfl rfl) ?_))));clear hK6;clear F a;intro a F
 refine sSlF (i:=1) underlying23 sizeOf5 F rfl rfl rfl rfl ?_ ?_
 focus (exact Nat.succ_pos _)
 clear F a;intro a F;refine Xi (f:=3) (k:=14) underlying77 rfl sizeOf23 rfl rfl F rfl ?_;clear F a;intro a F;refine sSt H 1 sizeOf23 F rfl rfl rfl rfl rfl rfl ?_;clear H;intro w H;refine sNil ?_
 replace H:Own w0 none w [.blk b8 Y1 77,.blk b4 (v.cells r (Ll (some ⟨bL,oL,none⟩) LC) l.length (LC - 1) false) 77]:=H
 refine hK7 _ _ (cSR fun K8 hK8=>?_);clear hK7
 refine Xo underlying77 rfl ?si F rfl (H.whole 1 rfl) ?_
 case si=>exact XC sizeOf77
 clear F a;intro a F;refine Xl F rfl (Xd rfl (Xd rfl (Xd rfl (qCv underlying3 underlying5 rfl rfl rfl (Vr _) (qBd (cs:=Ev.cells ⟨1,loc,x,mode,UInt8.ofNat ix,0⟩) (places:=[(0,1),(1,1),(2,1),(3,1),(4,1),(5,1),(6,1)]) zeroValue45 underlying45 (by kernel_rfl) rfl rfl rfl rfl ?_)))));clear F a;intro a F;refine Xn call60 F rfl (ZO L v r (Ll (some ⟨bL,oL,none⟩) LC) l.length (LC - 1) false 1 loc x mode (UInt8.ofNat ix) 0 0 none 0 none 0 _ (hM.own H) hS h24 hs hz (by decide) (by decide) NV NV) ?_;rintro e w ⟨v',S,L',rfl,hS',H2⟩;replace H:=H.join H2;clear H2;refine ⟨_,rfl,?_⟩;clear F a;intro a F;refine Xl F rfl (XB rfl rfl (XB rfl rfl ?_));clear F a;intro a F
 refine sSr H 2 ?si F rfl rfl rfl ?s1 rfl rfl ?_
 case si=>exact XC sizeOf77
 case s1=>rfl
 clear H;intro w H;refine Xa F rfl ?_;clear F a;intro a F;refine sNil ?_
 rw [XG (by simp [SA.cells])] at H
 refine hK8 _ _ (cSR fun K9 hK9=>?_);clear hK8
 refine Xo underlying77 rfl ?si F rfl (H.whole 2 rfl) ?_
 case si=>exact XC sizeOf77
 clear F a;intro a F;refine Xl F rfl (Xd rfl ?_);clear F a;intro a F
 refine sSr H 1 ?si F rfl rfl rfl ?s1 rfl rfl ?_
 case si=>exact XC sizeOf77
 case s1=>rfl
 clear H;intro w H;refine Xa F rfl (Xh rfl ?_);clear F a;intro a F;refine sNil ?_
 rw [XG (by simp [SA.cells,Y1])] at H
 refine hK9 _ _ ?_;clear hK9;refine wp_ret ?_;refine Vp results58 F rfl rfl rfl underlying77 rfl H 1 rfl sizeOf77 rfl ?_
 exact .inr ⟨x,l,v',S,L',rfl,rfl,hS',H.sel [0] rfl rfl⟩
-- ReE
open Go.RowKit
theorem SetsOk.emitD {r:RunP} (h:SetsOk r) (kind loc val mode ins:UInt8) {dn wn:Nat} (hd:dn < 4294967296) (hw:wn < 4294967296):SetsOk (emitD kind loc val mode ins dn wn r):=⟨h.deps,h.control,Gn h.data hd,Gn h.ctrl (JY h.control hw),h.att⟩
theorem Jw {α:Type} (f:Nat→α) (k:Nat) (a b:α):YO (YO f k a) k b=YO f k b:=by
 funext i;unfold YO;split <;> rfl
theorem Dk {α:Type} (f:Nat→α) (k:Nat) (a:α):YO f k a k=a:=if_pos rfl
theorem Ln {k:Nat} (h:k < 24):WM (Y3 k)=[k]:=by
 obtain ⟨h1,h2⟩:=ZK (Y3 k) (UT h)
 refine La h2 (List.pairwise_singleton _ _) fun j=>?_
 rw [h1 j,Y3,Nat.testBit_two_pow,List.mem_singleton,decide_eq_true_iff]
 exact eq_comm
theorem No {k:Nat} (h:k < 24):XR (Y3 k)=[UInt8.ofNat k]:=by rw [XR,Ln h];rfl
theorem Xa4 {i k:Nat} (h:k < 24):Qw i (Y3 k)=[Vm i k]:=by rw [Qw,Ln h];rfl
theorem JO {i:Nat}:Qw i 0=[]:=rfl
theorem Dm {f:Nat→Nat} {k n:Nat} (h:f k=0) (hn:n < 24):XK (YO f (k+1) (Y3 n)) (k+2)=XK f k++[Vm (k+1) n]:=by
 rw [QQ,Xa4 hn,XK,h,JO,List.append_nil]
theorem XbD {x:Ins} (h:x.op=1) (y:UInt8) (r:RunP):YX x y r=setP x.dst y (Y3 r.many) (emitD 1 x.loc y x.mode (UInt8.ofNat r.pc) 0 0 r):=by
 unfold YX;rw [if_pos h];unfold QU Yy emitD;rw [Nat.or_zero]
theorem XcI {x:Ins} (h:x.op=2) (y:UInt8) (r:RunP):YX x y r=emitD 2 x.loc (Yc x.aR x.aN r) x.mode (UInt8.ofNat r.pc) (XY x.aR x.aN r) 0 r:=by
 unfold YX;rw [h];unfold emitD;rw [Nat.or_zero];rfl
theorem C3 {x:Ins} (h:x.op=3) (y:UInt8) (r:RunP):YX x y r=Z2 x r:=by unfold YX;rw [h];rfl
theorem XcH {x:Ins} (h:x.op=7) (y:UInt8) (r:RunP):YX x y r=emitD 3 0 0 x.mode (UInt8.ofNat r.pc) 0 0 r:=by
 unfold YX;rw [h];unfold emitD;rw [Nat.or_zero];rfl
theorem Mk {x:Ins} (h:x.op=8) (y:UInt8) (r:RunP):YX x y r=ZX x r:=by unfold YX;rw [h];rfl
def Er (x:Ins) (y val:UInt8) (dn wn:Nat) (r:RunP):RunP:=emitD 2 x.loc val 3 (UInt8.ofNat r.pc) dn wn (emitD 1 x.loc y 3 (UInt8.ofNat r.pc) 0 0 r)
theorem XbC {x:Ins} (h:x.op=4) (y:UInt8) (r:RunP):YX x y r=setP x.dst y (Y3 r.many) ((Er x y (Yc x.aR x.aN r) (XY x.aR x.aN r) 0 r).wAtt (r.many+1) (Y3 r.many)):=by
 unfold YX;rw [h];unfold Er emitD;simp only [Nat.or_zero];rfl
theorem XbB {x:Ins} (h:x.op=5) (y:UInt8) (r:RunP):YX x y r=setP x.dst y (Y3 r.many) ((Er x y (y+Yc x.aR x.aN r) (XY x.aR x.aN r ||| Y3 r.many) 0 r).wAtt (r.many+1) (Y3 r.many)):=by
 unfold YX;rw [h]
 show Vo x y r=_
 unfold Vo Zu Er emitD Yy setP
 simp only [RunP.wData,RunP.wReg,RunP.wDep,RunP.wAtt,RunP.wEv,RunP.wCtrl,RunP.wMany,Jw,Dk,Nat.or_zero]
theorem XbA {x:Ins} (h:x.op=6) {y:UInt8} {r:RunP} (hy:y=Yc x.aR x.aN r):YX x y r=setP x.dst y (Y3 r.many) ((Er x y (Yc x.bR x.bN r) (XY x.bR x.bN r) (Y3 r.many ||| XY x.aR x.aN r) r).wAtt (r.many+1) (Y3 r.many)):=by
 unfold YX;rw [h]
 show Nl x y r=_
 unfold Nl
 rw [if_neg (by simpa using hy)]
 unfold Zu Er emitD Yy setP
 simp only [RunP.wData,RunP.wReg,RunP.wDep,RunP.wAtt,RunP.wEv,RunP.wCtrl,RunP.wMany,Jw,Dk,Nat.or_zero]
theorem Bb {x:Ins} (h:x.op=6) {y:UInt8} {r:RunP} (hy:y ≠ Yc x.aR x.aN r):YX x y r=setP x.dst y (Y3 r.many) (emitD 1 x.loc y 3 (UInt8.ofNat r.pc) 0 0 r):=by
 unfold YX;rw [h]
 show Nl x y r=_
 unfold Nl
 rw [if_pos hy]
 unfold emitD Yy;rw [Nat.or_zero]
/-! ### reads, in one form -/
def rdR (loc mode:UInt8) (ix:Nat) (r:RunP):List UInt8→RunP
 | []=>r
 | y :: _=>emitD 1 loc y mode (UInt8.ofNat ix) 0 0 r
def rdA (A:Option Addr) (C:Nat):List UInt8→Option Addr
 | []=>A
 | _ :: _=>Ll A C
def rdC (C:Nat):List UInt8→Nat
 | []=>C
 | _ :: _=>C - 1
def rdN (n:Nat):List UInt8→UInt8
 | []=>0
 | _ :: _=>UInt8.ofNat n
theorem Gj (L:List Sl) (v:SA) (r:RunP) (LA:Option Addr) (LC:Nat) (lf:List UInt8) (loc mode:UInt8) (ix:Nat) (w0:World) (hM:MemL w0 L) (hS:StOk L v r) (h24:r.many < 24) (hs:SetsOk r) (hz:r.att r.many=0) (hl:RowsAt w0 LA 1 (XN lf)) :
   Calls Tryz.prog 58 #[.agg (v.cells r LA lf.length LC false).toArray,Go.Proofs.YtagnefpgidbhnaaGreatDoor.b8 loc,Go.Proofs.YtagnefpgidbhnaaGreatDoor.b8 mode,.int .i64 ((ix:Nat):Int)] w0 fun e w'=>∃ v' S L',e = .returned (.tuple #[.agg (v'.cells (rdR loc mode ix r lf) (rdA LA LC lf) lf.tail.length (rdC LC lf) lf.isEmpty).toArray,Go.Proofs.YtagnefpgidbhnaaGreatDoor.b8 (lf.headD 0),Go.Proofs.YtagnefpgidbhnaaGreatDoor.b8 (rdN r.many lf)])∧StOk (L'++L) v' (rdR loc mode ix r lf)∧Own w0 none w' [.mem S L']:=by
 refine (NU L v r LA LC lf loc mode ix w0 hM hS h24 hs hz hl).mono fun e w' h=>?_
 rcases h with ⟨rfl,rfl,hb⟩ | ⟨x,l,v',S,L',rfl,rfl,hS',H⟩
 · exact ⟨v,_,[],rfl,hS,((Own.start w0 none).grow hb).memNil⟩
 · exact ⟨v',S,L',rfl,hS',H⟩
end Go.Proofs.YtagnefpgidbhnaaGreatDoor
