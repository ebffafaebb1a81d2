/-
  WALK2. The reference of layer 8: gone. Conditions: the thread is right; the reads lie in memory.
-/
import Derived.Test.YtagnefpgidbhnaaGreatDoorJn13
import Derived.Test.YtagnefpgidbhnaaGreatDoorCkK
set_option linter.unusedSimpArgs false
set_option linter.unusedVariables false
namespace Go.Proofs.YtagnefpgidbhnaaGreatDoor
-- ReI
open Go.Proofs.Tryz
open Go.RowKit
set_option maxRecDepth 100000
section
variable {P:Program} {l:List Oper} {Q:Exit→Act→World→Prop} {N:Nat} {a:Act} {env:List (Nat × Value)} {rest:List Oper} {d:Tmp} {ty:TypeId} {pos:String} {af:Array Edge} {g:Option (Nat × Bool)}
 {w0 w:World} {row:Option Nat} {rs:List Res}
theorem sMkF {t e:TypeId} {x y:Operand} {ti:TypeInfo} {z:Value} {n:Nat} {cs:List Value} {k k':IntKind} (H:Own w0 row w rs) (ht:P.underlying t=some (.slice e)) (hi:∀ w,(typeInfo e).run P w = .ok ti w) (hz:ti.zero=some z)
   (F:Has N a env) (hg:wants l env g=true) (hN:Nat.blt d N=true) (hx:ev env x=some (.int k (n:Int))) (hy:ev env y=some (.int k' (n:Int))) (hb:ti.bytes * n≤281474976710656) (h63:n≤1000) (hc:(madeCells z.cells (n * ti.size)).toList=cs)
   (K:∀ b a w,Has N a ((d,.slice (some ⟨b,0,none⟩) n n) :: env)→Own w0 row w (.blk b cs e :: rs)→wpList P l.toArray Q rest a w):wpList P l.toArray Q (⟨some d,.makeSlice t x y,ty,pos,af,g⟩ :: rest) a w:=by
 have hb':(ti.bytes:Int) * (n:Int)≤281474976710656:=by
   have h:((ti.bytes * n:Nat):Int)≤281474976710656:=by omega
   rwa [Int.natCast_mul] at h
 have h2:=run_make (P:=P) w t e ti z ht (GD hi) hz k k' n n (by omega) (Int.le_refl _) hb' (by omega)
 simp only [Int.toNat_natCast] at h2
 have h3:(execOp a.eval ⟨some d,.makeSlice t x y,ty,pos,af,g⟩).run P w = .ok (.value (.slice (some ⟨w.heap.size,0,none⟩) n n)) (w.alloc (.cells (madeCells z.cells (n * ti.size)) e)):=by
   simp only [execOp,F.eval hx,F.eval hy,Sem.run_bind,h2]
   rfl
 refine YM F hg rfl hN h3 (fun _ F'=>K _ _ _ F' ?_)
 have:=H.alloc (madeCells z.cells (n * ti.size)) e
 rw [hc] at this
 exact this
end
theorem Xb9 {l:List Ins} (h:XH 6 l=true) {k:Nat} {x:Ins} (hk:l[k]? = some x):opR x∧(x.op=3→x.fn=1∨x.fn=2∨x.fn=3)∧(x.op=8→x.fn=4∨x.fn=5∨x.fn=6):=by
 have hT:=Vi h hk
 simp only [XH,Bool.and_eq_true,decide_eq_true_eq] at h
 have hI:=J8 h.2 hk
 have c6:JC x.op x.fn=true:=WE hI 6 (by decide)
 refine ⟨?_,fun e=>?_,fun e=>?_⟩
 · have h1:=hT.op
   have:x.op.toNat=1∨x.op.toNat=2∨x.op.toNat=3∨x.op.toNat=4∨x.op.toNat=5∨x.op.toNat=6∨x.op.toNat=7∨x.op.toNat=8:=by omega
   unfold opR
   rcases this with e | e | e | e | e | e | e | e
   · exact .inl (UInt8.toNat.inj e)
   · exact .inr (.inl (UInt8.toNat.inj e))
   · exact .inr (.inr (.inl (UInt8.toNat.inj e)))
   · exact .inr (.inr (.inr (.inl (UInt8.toNat.inj e))))
   · exact .inr (.inr (.inr (.inr (.inl (UInt8.toNat.inj e)))))
   · exact .inr (.inr (.inr (.inr (.inr (.inl (UInt8.toNat.inj e))))))
   · exact .inr (.inr (.inr (.inr (.inr (.inr (.inl (UInt8.toNat.inj e)))))))
   · exact .inr (.inr (.inr (.inr (.inr (.inr (.inr (UInt8.toNat.inj e)))))))
 · unfold JC at c6
   rw [if_pos e] at c6
   simp only [Bool.or_eq_true,beq_iff_eq] at c6
   rcases c6 with (c | c) | c
   · exact .inl c
   · exact .inr (.inl c)
   · exact .inr (.inr c)
 · unfold JC at c6
   rw [e,if_neg (by decide),if_pos rfl] at c6
   simp only [Bool.or_eq_true,beq_iff_eq] at c6
   rcases c6 with (c | c) | c
   · exact .inl c
   · exact .inr (.inl c)
   · exact .inr (.inr c)
def onZ:Nat→Value:=fun _=>.slice none 0 0
theorem EO {A:Option Addr} {c:Nat}:StOk [(A,2,Zh zRun onZ)] ⟨A,c,onZ,none,0,none,0,none,0,none,0,none,0⟩ zRun:=
 ⟨InL.head,fun _ _=>OnOk.nil,.inr rfl,.inr rfl,.inr rfl,.inr rfl,.inr rfl⟩
theorem Own.blkRows {w0 w:World} {row:Option Nat} {b sz:Nat} {rows:List (List Value)} {e:TypeId} {rs:List Res} (H:Own w0 row w (.blk b rows.flatten e :: rs)) (hr:∀ r ∈ rows,r.length=sz):Own w0 row w (.mem (fun c=>c=b) [(some ⟨b,0,.none⟩,sz,rows)] :: rs):=by
 have h:w.rangeAt b 0 rows.flatten:=H.whole 0 rfl
 have h2:RowsAt w (some ⟨b,0,.none⟩) sz rows:=RowsAt.ofRange8 h hr
 refine H.seen (.mem (fun c=>c=b) [(some ⟨b,0,.none⟩,sz,rows)]) (fun q hq j cs hj=>?_) (fun c hc=>hc)
 rw [List.mem_singleton.1 hq] at hj ⊢
 obtain ⟨b2,o2,e1,e2⟩:=h2 j cs hj
 refine ⟨b2,o2,e1,?_,e2⟩
 cases e1;rfl
def rvC (r:RunP) (i k:Nat):Value:=Go.Proofs.YtagnefpgidbhnaaGreatDoor.b8 (if k < i then r.regs k else 0)
def SA.cellsR (v:SA) (r:RunP) (i:Nat) (LA:Option Addr) (ln LC:Nat) (W:Bool):List Value:=
 [.slice v.R 8 v.Rc,.slice v.C (XR r.control).length v.Cc,.slice v.E (Yw r).length v.Ec,.slice v.D (XK r.data r.many).length v.Dc,.slice v.K (XK r.ctrl r.many).length v.Kc,.slice v.M (XK r.att r.many).length v.Mc,rvC r i 0,rvC r i 1,rvC r i 2,rvC r i 3,rvC r i 4,rvC r i 5,rvC r i 6,rvC r i 7,.slice LA ln LC,.bool W]
theorem JF {v:SA} {r:RunP} {i:Nat} {LA:Option Addr} {ln LC:Nat} {W:Bool} (h:i < 8):(v.cellsR r i LA ln LC W).set (6+i) (Go.Proofs.YtagnefpgidbhnaaGreatDoor.b8 (r.regs i))=v.cellsR r (i+1) LA ln LC W:=by
 match i,h with
 | 0,_ | 1,_ | 2,_ | 3,_ | 4,_ | 5,_ | 6,_ | 7,_=>rfl
theorem Nd {v:SA} {r:RunP} {i:Nat} {LA:Option Addr} {ln LC:Nat} {W:Bool} (h:i < 8):(v.cellsR r i LA ln LC W)[6+i]? = some (Go.Proofs.YtagnefpgidbhnaaGreatDoor.b8 0):=by
 match i,h with
 | 0,_ | 1,_ | 2,_ | 3,_ | 4,_ | 5,_ | 6,_ | 7,_=>rfl
def sZ (A:Option Addr) (c:Nat):SA:=⟨A,c,onZ,none,0,none,0,none,0,none,0,none,0⟩
set_option maxHeartbeats 4000000 in
theorem Ju (IA:Option Addr) (IC:Nat) (l:List Ins) (RA:Option Addr) (RC:Nat) (reads:List UInt8) (w0:World) (hA:RowsAt w0 IA 10 (l.map Ins.cells)) (hok:XH 6 l=true) (hR:RowsAt w0 RA 1 (XN reads)) (hc:reads.length≤RC) :
   Calls Tryz.prog 23 #[.slice IA l.length IC,.slice RA reads.length RC] w0 fun e w'=>∃ (v:SA) (r:RunP) (lf:List UInt8) (LA:Option Addr) (LC:Nat) (W:Bool) (S:Nat→Prop) (L:List Sl),e = .returned (.agg (v.cellsR r 8 LA lf.length LC W).toArray)∧StOk L v r∧InvR l r∧XbX r∧((W=true∧goP l reads zRun = .wants)∨(W=false∧goP l reads zRun=if lf=[] then .done r else .many))∧Own w0 none w' [.mem S L]:=by
 have H:=Own.start w0 none
 have hl12:=Z4 hok
 refine XE func23 rfl ntmps23 rfl (fun a F=>?_);refine cSR fun K1 hK1=>?_;refine sAl H zeroValue77 F rfl rfl ?_;clear F a H;intro b4 a w F H;refine sNil ?_
 replace H:Own w0 none w [.blk b4 Y1 77]:=H
 refine hK1 _ _ (cSR fun K2 hK2=>?_);clear hK1;refine sMkF (n:=8) (cs:=(Zh zRun onZ).flatten) H underlying75 typeInfo99 rfl F rfl rfl rfl rfl (by decide) (by decide) (by kernel_rfl) ?_;clear F a H;intro b10 a w F H;refine Xl F rfl (qBd (cs:=(SA.cells (sZ (some ⟨b10,0,none⟩) 8) zRun RA reads.length RC false)) (places:=[(0,1),(1,1),(2,12),(14,1),(15,1)]) zeroValue77 underlying77 (by kernel_rfl) rfl rfl rfl rfl ?_);clear F a;intro a F;refine sAl H zeroValue77 F rfl rfl ?_;clear F a H;intro b5 a w F H
 refine sSr H 0 ?si F rfl rfl rfl ?s1 rfl rfl ?_
 case si=>exact XC sizeOf77
 case s1=>rfl
 clear H;intro w H;refine sNil ?_;rw [XG (by rfl)] at H
 replace H:=(H.sel [1,0,2] rfl rfl).blkRows U1
 refine hK2 _ _ ?_;clear hK2;refine cSeq (fun K3 hK3=>?_);refine cSR fun K4 hK4=>Xa F rfl (qNK hK4 ?_);clear hK4;clear F a;intro a F;refine wp_block ?_
 refine cLoopS [0,4,5] (fun m ups w=>∃ (t:Nat) (v:SA) (r:RunP) (lf:List UInt8) (LA:Option Addr) (LC:Nat) (W:Bool) (S:Nat→Prop) (L:List Sl),m=l.length - t∧ups=[(6,.int .i64 ((t:Nat):Int))]∧t≤l.length∧StOk L v r∧InvR l r∧XbX r∧((W=true∧goP l reads zRun = .wants)∨(W=false∧t=r.pc∧goP l reads zRun=goP l lf r∧RowsAt w0 LA 1 (XN lf)∧lf.length≤LC))∧Own w0 none w [.mem S L,.blk b5 (v.cells r LA lf.length LC W) 77,.blk b4 Y1 77]) F (l.length) [(6,.int .i64 ((0:Nat):Int))] ?_ ?_
 · exact ⟨0,sZ (some ⟨b10,0,none⟩) 8,zRun,reads,RA,RC,false,_,_,rfl,rfl,Nat.zero_le _,EO,WD l,BC,.inr ⟨rfl,rfl,rfl,hR,hc⟩,H⟩
 clear F
 clear H
 intro m ups a w hI F
 obtain ⟨t,v,r,lf,LA,LC,W,S,L,rfl,rfl,ht,hS,hI,hZ,hW,H⟩:=hI
 refine cSeq (fun K5 hK5=>?_);refine cSR fun K6 hK6=>Xl F rfl (Xd rfl (Xs underlying22 rfl (Xj rfl rfl YW (Xd rfl ?_))));clear F a;intro a F
 refine F.split 17 rfl ?_ ?_ <;> (clear F;intro h17 F)
 ·
  replace h17:=of_decide_eq_true h17;refine Xi (f:=4) (k:=15) underlying77 rfl sizeOf4 rfl rfl F rfl (Xc isAgg4 rfl (H.cell 1 rfl rfl) (Es rfl rfl rfl (Xg rfl rfl (qNK hK6 ?_))));clear hK6;clear F a;intro a F
  refine cIf F rfl (fun h21=>?_) (fun h21=>?_)
  ·
   replace h21:=ZA h21
   obtain rfl:W=false:=by cases W with | false=>rfl | true=>exact absurd h21 (by decide)
   obtain ⟨rfl,hgo,hlf,hlc⟩:t=r.pc∧goP l reads zRun=goP l lf r∧RowsAt w0 LA 1 (XN lf)∧lf.length≤LC:=by
    rcases hW with ⟨h,_⟩ | ⟨_,h⟩
    · cases h
    · exact h
   have hpl:r.pc < l.length:=by omega
   obtain ⟨x,hx⟩:∃ x,l[r.pc]? = some x:=⟨_,List.getElem?_eq_getElem hpl⟩
   have hT:=Vi hok hx
   have hF:=Xb9 hok hx
   have hk:=hI.ok hok hpl
   have hend:r.pc+(Yj x r LA LC lf).K+1≤l.length:=by
    rcases EN (LA:=LA) (LC:=LC) (lf:=lf) hx with ⟨_,_,hK2,_⟩ | ⟨y,_,_,hpc2,_,_⟩
    · rw [hK2];omega
    · rw [hpc2];exact (ZJ y hI hok hx).pc
   obtain ⟨bI,oI,rfl,hIx⟩:=hA r.pc x.cells (by rw [List.getElem?_map,hx];rfl)
   refine wp_skip (hK5 _ _ ?_);clear hK5;refine cSeq (fun K7 hK7=>?_);refine wp_block ?_;refine cSeq (fun K8 hK8=>?_);refine cRegRO (by kernel_rfl) H ?_;replace H:=H.drew
   refine XA (k:=0) (i:=0) rfl F rfl rfl (fun w H=>rLr underlying77 rfl ?si F rfl (H.whole 1 rfl)) H (fun _ _ _ h=>h) ?_
   case si=>exact XC sizeOf77
   clear F a;intro a F;refine Xt 1 rfl F rfl (fun w=>rMv F rfl) H qq0 (Xu 2 rfl rfl (fun a F w=>rMv F rfl) H qq0 ?_);clear F a;intro a F
   refine Xv (k:=3) (i:=3) rfl F rfl (fun w=>rIx underlying22 sizeOf61 F rfl rfl ?_) H (fun _ _ _ h=>h) ?_
   focus exact hpl
   clear F a;intro a F
   refine XA (k:=4) (i:=4) rfl F rfl rfl (fun w H=>rLr underlying61 rfl ?si F rfl (H.argR hIx)) H (fun _ _ _ h=>h) ?_
   case si=>exact XC sizeOf61
   clear F a;intro a F;refine Xt 5 rfl F rfl (fun w=>rMv F rfl) H qq0 ?_;clear F a;intro a F
   refine Ee F H [0,4,5,6] 11 [true,true,true,true,true,true,true,true,true,true,true,false,false] (fun rs ups w=>∃ v2 S2 L2 b7,ups=[(32,.agg (v2.cells (Yj x r LA LC lf).r (Yj x r LA LC lf).A (Yj x r LA LC lf).l.length (Yj x r LA LC lf).C (Yj x r LA LC lf).W).toArray),(33,.int .i64 (((Yj x r LA LC lf).K:Nat):Int)),(7,.pointer (some ⟨b7,0,none⟩))]∧StOk (L2++L) v2 (Yj x r LA LC lf).r∧Own w0 none w ((.mem S2 L2) :: (.blk b7 Y1 77) :: rs)) (by repeat (first | exact SubR.nil | (apply SubR.cons;· rfl))) ?_ (fun hJ=>?_)
   rotate_left
   ·
    refine Ja (k:=6) (i:=6) (j:=10) (by kernel_rfl) F rfl rfl rfl rfl ?_ ?_
    ·
     refine XS call37 F rfl rfl (Jt L v r LA LC lf x _ (H.memAt 0 rfl) hS hT.inr hF.1 hF.2.1 hF.2.2 hk.many hI.sets hZ (hlf.own H)) ?_;rintro e w ⟨v2,S2,L2,rfl,hS2,H2⟩;replace H:=H.join H2;clear H2;refine ⟨_,rfl,?_⟩;clear F a;intro a F;refine XM H.tail ?_;refine Xt 7 rfl F rfl (fun w=>rMv F rfl) H.tail qq0 (Xu 8 rfl rfl (fun a F w=>Cm F rfl rfl) H.tail qq0 (Xu 9 rfl rfl (fun a F w=>Cm F rfl rfl) H.tail qq0 ?_));clear F a;intro a F;refine Xx (k:=10) (i:=10) rfl (by kernel_rfl) F (oAl H zeroValue77 F rfl ?_);clear F a H;intro b7 a w F H;refine XM H.tail.tail ?_
     exact eGo hJ (by kernel_rfl) _ ⟨v2,S2,L2,b7,rfl,by assumption,H.sel [1,0,2,3,4] rfl rfl⟩ F.tt
    refine oAl H zeroValue77 F rfl ?_;clear F a H;intro b7 a w F H;refine XM H.tail ?_;refine Xx (k:=7) (i:=6) rfl (by kernel_rfl) F (XS call37 F rfl rfl (Jt L v r LA LC lf x _ (H.memAt 1 rfl) hS hT.inr hF.1 hF.2.1 hF.2.2 hk.many hI.sets hZ (hlf.own H)) ?_);rintro e w ⟨v2,S2,L2,rfl,hS2,H2⟩;replace H:=H.join H2;clear H2;refine ⟨_,rfl,?_⟩;clear F a;intro a F;refine XM H.tail.tail ?_;refine Xt 7 rfl F rfl (fun w=>rMv F rfl) H.tail.tail qq0 (Xu 8 rfl rfl (fun a F w=>Cm F rfl rfl) H.tail.tail qq0 (Xu 9 rfl rfl (fun a F w=>Cm F rfl rfl) H.tail.tail qq0 ?_));clear F a;intro a F
    exact eGo hJ (by kernel_rfl) _ ⟨v2,S2,L2,b7,rfl,by assumption,H.sel [0,1,2,3,4] rfl rfl⟩ F.tt
   clear F H;intro ups a w hI F
   obtain ⟨v2,S2,L2,b7,rfl,hfl0,H⟩:=hI
   refine Xx (k:=11) (i:=11) rfl (by kernel_rfl) F (oSr H 1 ?si F rfl rfl ?s1 rfl rfl ?_)
   case si=>exact XC sizeOf77
   case s1=>rfl
   clear H;intro w H;refine XF (by kernel_rfl) H ?_;refine Xt 12 rfl F rfl (fun w=>rAs F rfl) H qq0 ?_;clear F a;intro a F;refine eNil (k:=13) (by kernel_rfl) ?_
   rw [XG (cs:=Y1) (by simp [SA.cells,Y1])] at H
   refine hK8 _ _ (cSR fun K9 hK9=>?_);clear hK8
   refine Xo underlying77 rfl ?si F rfl (H.range 1 rfl _ 16) ?_
   case si=>exact XC sizeOf77
   clear F a;intro a F
   refine sSr H 3 ?si F rfl rfl rfl ?s1 rfl rfl ?_
   case si=>exact XC sizeOf77
   case s1=>rfl
   clear H;intro w H;refine sNil ?_
   rw [XG (cs:=SA.cells _ _ _ _ _ _) (by simp [SA.cells])] at H
   refine hK9 _ _ (cReg (Xl F rfl (Xd rfl ?_)));clear hK9;clear F a;intro a F
   refine Xm F rfl rfl (XJ ?_) ?_
   focus omega
   clear F a;intro a F;refine Xa F rfl (qNK hK7 (WN (Xd rfl ?_)));clear hK7;clear F a;intro a F
   refine Xm F rfl rfl (XJ (j:=1) ?_) ?_
   focus omega
   clear F a;intro a F;refine Xa F rfl ?_;clear F a;intro a F;refine sNil ?_
   (rcases EN (LA:=LA) (LC:=LC) (lf:=lf) hx with ⟨hW2,hr2,hK2,hgw⟩ | ⟨y,hW2,hr2,hpc2,hg2,hcut⟩
    · exact ⟨_,by omega,_,⟨r.pc+(Yj x r LA LC lf).K+1,v2,(Yj x r LA LC lf).r,(Yj x r LA LC lf).l,(Yj x r LA LC lf).A,(Yj x r LA LC lf).C,(Yj x r LA LC lf).W,_,_,rfl,rfl,hend,hfl0,(by rw [hr2];exact hI),(by rw [hr2];exact hZ),.inl ⟨hW2,hgo.trans hgw⟩,(H.sel [0,2,3,4] rfl rfl).memFuse⟩,F.tt⟩
    · have h4:RowsAt w0 (Yj x r LA LC lf).A 1 (XN (Yj x r LA LC lf).l)∧(Yj x r LA LC lf).l.length≤(Yj x r LA LC lf).C:=by
       rcases hcut with ⟨e1,e2,e3⟩ | ⟨q,e1,e2,e3⟩
       · rw [e1,e2,e3];exact ⟨hlf,hlc⟩
       · rw [e1] at hlf hlc
         rw [e2,e3]
         exact ⟨C5 hlf hlc,by rw [List.length_cons] at hlc;omega⟩
      have hS3:StOk (L2++L) v2 (X8 x y r):=by rw [hr2] at hfl0;exact hfl0.pc
      have H9:=(H.sel [0,2,3,4] rfl rfl).memFuse
      rw [show v2.cells (Yj x r LA LC lf).r (Yj x r LA LC lf).A (Yj x r LA LC lf).l.length (Yj x r LA LC lf).C (Yj x r LA LC lf).W=v2.cells (X8 x y r) (Yj x r LA LC lf).A (Yj x r LA LC lf).l.length (Yj x r LA LC lf).C (Yj x r LA LC lf).W by rw [hr2];rfl] at H9
      exact ⟨_,by omega,_,⟨r.pc+(Yj x r LA LC lf).K+1,v2,X8 x y r,(Yj x r LA LC lf).l,(Yj x r LA LC lf).A,(Yj x r LA LC lf).C,(Yj x r LA LC lf).W,_,_,rfl,rfl,hend,hS3,ZJ y hI hok hx,Xah hF.1 hZ,.inr ⟨hW2,hpc2,hgo.trans hg2,h4.1,h4.2⟩,H9⟩,F.tt⟩)
  replace h21:=ZB h21
  have hout:(W=true∧goP l reads zRun = .wants)∨(W=false∧goP l reads zRun=if lf=[] then .done r else .many):=by
   cases W with
   | false=>exact absurd h21 (by decide)
   | true=>
     rcases hW with h | ⟨h,_⟩
     · exact .inl h
     · cases h
  refine wp_exit ?_;refine hK3 _ _ ?_;clear hK3;refine cSeq (fun K10 hK10=>?_);refine cSR fun K11 hK11=>Xa F rfl (qNK hK11 ?_);clear hK11;clear F a;intro a F;refine wp_block ?_
  refine cLoopS [4,5] (fun m ups w=>∃ i:Nat,m=8 - i∧ups=[(9,.int .i64 ((i:Nat):Int))]∧i≤8∧Own w0 none w [.mem S L,.blk b5 (v.cellsR r i LA lf.length LC W) 77,.blk b4 Y1 77]) F (8) [(9,.int .i64 ((0:Nat):Int))] ?_ ?_
  · exact ⟨0,rfl,rfl,by omega,H⟩
  clear F
  clear H
  intro m ups a w hI F
  obtain ⟨i,rfl,rfl,hi8,H⟩:=hI
  refine cSeq (fun K12 hK12=>?_);refine cSR fun K13 hK13=>Xl F rfl (Xj rfl rfl YW (qNK hK13 ?_));clear hK13;clear F a;intro a F
  refine cIf F rfl (fun h39=>?_) (fun h39=>?_)
  ·
   replace h39:=of_decide_eq_true h39
   have hi:i < 8:=by omega
   obtain ⟨bR,oR,hRe,hRx⟩:=(H.memAt 0 rfl).at hS.R i _ (Da r v.on hi)
   have hRe:v.R=some ⟨bR,oR,none⟩:=hRe
   have hce:v.cellsR r i LA lf.length LC W=(SA.cellsR { v with R:=some ⟨bR,oR,none⟩ } r i LA lf.length LC W):=by unfold SA.cellsR;rw [hRe]
   rw [hce] at H;refine wp_skip (hK12 _ _ ?_);clear hK12;refine cSeq (fun K14 hK14=>?_);refine wp_block ?_;refine cReg (Xl F rfl (Xb (f:=0) (k:=0) underlying77 rfl sizeOf75 rfl rfl rfl (Xc isAgg75 rfl (H.cell 1 rfl rfl) (Xd rfl ?_))));clear F a;intro a F
   refine sIx underlying75 sizeOf99 F rfl rfl rfl rfl ?_ ?_
   focus exact hi
   clear F a;intro a F;refine Xi (f:=0) underlying99 rfl sizeOf5 rfl rfl F rfl (Xc isAgg5 rfl (by simpa using hRx 0 _ rfl) (Xb (f:=2) (k:=2) underlying77 rfl sizeOf37 rfl rfl rfl (Xb (f:=4) (k:=6) underlying37 rfl sizeOf35 rfl rfl rfl ?_)));clear F a;intro a F
   refine Xcd underlying35 sizeOf5 F rfl rfl rfl rfl ?_ ?_
   focus exact hi
   clear F a;intro a F;refine sSt H 1 sizeOf5 F rfl rfl rfl rfl rfl (Nd hi) ?_;clear H;intro w H;refine nK hK14 (cReg (Xl F rfl ?_));clear hK14;clear F a;intro a F
   refine Xm F rfl rfl (XJ (j:=1) ?_) ?_
   focus omega
   clear F a;intro a F;refine Xa F rfl ?_;clear F a;intro a F;refine sNil ?_
   have H9:Own w0 none w [.mem S L,.blk b5 (v.cellsR r (i+1) LA lf.length LC W) 77,.blk b4 Y1 77]:=by
    rw [← JF hi,hce]
    exact H.sel [0,1,2] rfl rfl
   exact ⟨_,by omega,_,⟨i+1,rfl,rfl,by omega,H9⟩,F.tt⟩
  replace h39:=of_decide_eq_false h39
  obtain rfl:i=8:=by omega
  refine wp_exit ?_;refine hK10 _ _ (cSR fun K15 hK15=>?_);clear hK10
  refine Xo underlying77 rfl ?si F rfl (H.whole 1 rfl) ?_
  case si=>exact XC sizeOf77
  clear F a;intro a F
  refine sSr H 2 ?si F rfl rfl rfl ?s1 rfl rfl ?_
  case si=>exact XC sizeOf77
  case s1=>rfl
  clear H;intro w H;refine sNil ?_
  rw [XG (cs:=Y1) (by simp [SA.cellsR,Y1])] at H
  refine hK15 _ _ ?_;clear hK15;refine wp_ret ?_;refine UX results23 F rfl underlying77 rfl H 2 rfl sizeOf77 rfl ?_
  exact ⟨v,r,lf,LA,LC,W,S,L,rfl,hS,hI,hZ,hout,H.sel [0] rfl rfl⟩
 replace h17:=of_decide_eq_false h17
 have hout:(W=true∧goP l reads zRun = .wants)∨(W=false∧goP l reads zRun=if lf=[] then .done r else .many):=by
  rcases hW with h | ⟨h1,h2,h3,_⟩
  · exact .inl h
  · exact .inr ⟨h1,by rw [h3];exact XcF (by omega)⟩
 refine Xe F (Xf (Xf (Xg rfl rfl (qNK hK6 ?_))));clear hK6;clear F a;intro a F;refine cIfF F rfl ?_;refine wp_exit ?_;refine hK3 _ _ ?_;clear hK3;refine cSeq (fun K16 hK16=>?_);refine cSR fun K17 hK17=>Xa F rfl (qNK hK17 ?_);clear hK17;clear F a;intro a F;refine wp_block ?_
 refine cLoopS [4,5] (fun m ups w=>∃ i:Nat,m=8 - i∧ups=[(9,.int .i64 ((i:Nat):Int))]∧i≤8∧Own w0 none w [.mem S L,.blk b5 (v.cellsR r i LA lf.length LC W) 77,.blk b4 Y1 77]) F (8) [(9,.int .i64 ((0:Nat):Int))] ?_ ?_
 · exact ⟨0,rfl,rfl,by omega,H⟩
 clear F
 clear H
 intro m ups a w hI F
 obtain ⟨i,rfl,rfl,hi8,H⟩:=hI
 refine cSeq (fun K18 hK18=>?_);refine cSR fun K19 hK19=>Xl F rfl (Xj rfl rfl YW (qNK hK19 ?_));clear hK19;clear F a;intro a F
 refine cIf F rfl (fun h39=>?_) (fun h39=>?_)
 ·
  replace h39:=of_decide_eq_true h39
  have hi:i < 8:=by omega
  obtain ⟨bR,oR,hRe,hRx⟩:=(H.memAt 0 rfl).at hS.R i _ (Da r v.on hi)
  have hRe:v.R=some ⟨bR,oR,none⟩:=hRe
  have hce:v.cellsR r i LA lf.length LC W=(SA.cellsR { v with R:=some ⟨bR,oR,none⟩ } r i LA lf.length LC W):=by unfold SA.cellsR;rw [hRe]
  rw [hce] at H;refine wp_skip (hK18 _ _ ?_);clear hK18;refine cSeq (fun K20 hK20=>?_);refine wp_block ?_;refine cReg (Xl F rfl (Xb (f:=0) (k:=0) underlying77 rfl sizeOf75 rfl rfl rfl (Xc isAgg75 rfl (H.cell 1 rfl rfl) (Xd rfl ?_))));clear F a;intro a F
  refine sIx underlying75 sizeOf99 F rfl rfl rfl rfl ?_ ?_
  focus exact hi
  clear F a;intro a F;refine Xi (f:=0) underlying99 rfl sizeOf5 rfl rfl F rfl (Xc isAgg5 rfl (by simpa using hRx 0 _ rfl) (Xb (f:=2) (k:=2) underlying77 rfl sizeOf37 rfl rfl rfl (Xb (f:=4) (k:=6) underlying37 rfl sizeOf35 rfl rfl rfl ?_)));clear F a;intro a F
  refine Xcd underlying35 sizeOf5 F rfl rfl rfl rfl ?_ ?_
  focus exact hi
  clear F a;intro a F;refine sSt H 1 sizeOf5 F rfl rfl rfl rfl rfl (Nd hi) ?_;clear H;intro w H;refine nK hK20 (cReg (Xl F rfl ?_));clear hK20;clear F a;intro a F
  refine Xm F rfl rfl (XJ (j:=1) ?_) ?_
  focus omega
  clear F a;intro a F;refine Xa F rfl ?_;clear F a;intro a F;refine sNil ?_
  have H9:Own w0 none w [.mem S L,.blk b5 (v.cellsR r (i+1) LA lf.length LC W) 77,.blk b4 Y1 77]:=by
   rw [← JF hi,hce]
   exact H.sel [0,1,2] rfl rfl
  exact ⟨_,by omega,_,⟨i+1,rfl,rfl,by omega,H9⟩,F.tt⟩
 replace h39:=of_decide_eq_false h39
 obtain rfl:i=8:=by omega
 refine wp_exit ?_;refine hK16 _ _ (cSR fun K21 hK21=>?_);clear hK16
 refine Xo underlying77 rfl ?si F rfl (H.whole 1 rfl) ?_
 case si=>exact XC sizeOf77
 clear F a;intro a F
 refine sSr H 2 ?si F rfl rfl rfl ?s1 rfl rfl ?_
 case si=>exact XC sizeOf77
 case s1=>rfl
 clear H;intro w H;refine sNil ?_
 rw [XG (cs:=Y1) (by simp [SA.cellsR,Y1])] at H
 refine hK21 _ _ ?_;clear hK21;refine wp_ret ?_;refine UX results23 F rfl underlying77 rfl H 2 rfl sizeOf77 rfl ?_
 exact ⟨v,r,lf,LA,LC,W,S,L,rfl,hS,hI,hZ,hout,H.sel [0] rfl rfl⟩
-- DpC
mutual
def Z8:Cnd→Nat
 | .mk _ _ _ _ l=>VI l+1
def VI:List Cnd→Nat
 | []=>0
 | c :: r=>max (Z8 c) (VI r)
end
-- RfP
section
variable {x:Ins} {locs after:Int}
theorem YQ:ZV x locs after=(Yr x locs after 0 && Yr x locs after 1 && Yr x locs after 2 && Yr x locs after 3 && Yr x locs after 4 && Yr x locs after 5 && Yr x locs after 6 && Yr x locs after 7):=by
 simp only [ZV,show List.range 8=[0,1,2,3,4,5,6,7] from rfl,List.all_cons,List.all_nil,Bool.and_true,Bool.and_assoc]
theorem le1 (m:UInt8):decide (m < 2)=(m == 0 || m == 1):=by
 rw [Bool.eq_iff_iff]
 simp only [Bool.and_eq_true,Bool.or_eq_true,decide_eq_true_eq,beq_iff_eq,UInt8.lt_iff_toNat_lt,UInt8.le_iff_toNat_le,← UInt8.toNat_inj,UInt8.reduceToNat]
 omega
theorem fn13 (m:UInt8):(decide (1≤m) && decide (m≤3))=(m == 1 || m == 2 || m == 3):=by
 rw [Bool.eq_iff_iff]
 simp only [Bool.and_eq_true,Bool.or_eq_true,decide_eq_true_eq,beq_iff_eq,UInt8.lt_iff_toNat_lt,UInt8.le_iff_toNat_le,← UInt8.toNat_inj,UInt8.reduceToNat]
 omega
theorem fn46 (m:UInt8):(decide (4≤m) && decide (m≤6))=(m == 4 || m == 5 || m == 6):=by
 rw [Bool.eq_iff_iff]
 simp only [Bool.and_eq_true,Bool.or_eq_true,decide_eq_true_eq,beq_iff_eq,UInt8.lt_iff_toNat_lt,UInt8.le_iff_toNat_le,← UInt8.toNat_inj,UInt8.reduceToNat]
 omega
theorem XcA (m:UInt8):(decide (3≤m) && decide (m≤5))=(m == 3 || m == 4 || m == 5):=by
 rw [Bool.eq_iff_iff]
 simp only [Bool.and_eq_true,Bool.or_eq_true,decide_eq_true_eq,beq_iff_eq,UInt8.lt_iff_toNat_lt,UInt8.le_iff_toNat_le,← UInt8.toNat_inj,UInt8.reduceToNat]
 omega
def NK (x:Ins):Ins:=⟨x.op,x.dst,x.loc,false,0,false,0,0,x.mode,0⟩
def NJ (x:Ins):Ins:=⟨x.op,0,x.loc,x.aR,x.aN,false,0,0,x.mode,0⟩
def NI (x:Ins):Ins:=⟨x.op,x.dst,0,x.aR,x.aN,x.bR,x.bN,x.fn,0,0⟩
def VO (x:Ins):Ins:=⟨x.op,x.dst,x.loc,x.aR,x.aN,false,0,0,0,0⟩
def NH (x:Ins):Ins:=⟨x.op,x.dst,x.loc,x.aR,x.aN,x.bR,x.bN,0,0,0⟩
def NG (x:Ins):Ins:=⟨x.op,0,0,false,0,false,0,0,x.mode,0⟩
def NF (x:Ins):Ins:=⟨x.op,0,0,x.aR,x.aN,x.bR,x.bN,x.fn,0,x.skip⟩
theorem CI (h:x.op=1):ZV x locs after=((x == NK x) && decide ((x.loc.toNat:Int) < locs) && decide (x.dst < 8) && decide (x.mode < 2)):=by
 obtain ⟨b1,b2,b3,b4,b5,b6,b7⟩:X7 (1:UInt8) 1=true∧X7 (1:UInt8) 2=true∧X7 (1:UInt8) 4=false∧X7 (1:UInt8) 8=false∧X7 (1:UInt8) 16=false∧X7 (1:UInt8) 32=true∧X7 (1:UInt8) 64=false:=by decide
 have hn:x.needed=NK x:=by simp [Ins.needed,NK,h,b1,b2,b3,b4,b5,b6,b7]
 rw [YQ,le1]
 cases he:x == NK x with
 | false=>simp [Yr,hn,he]
 | true=>
   have e:=eq_of_beq he
   have ha:x.aR=false:=by rw [e];rfl
   have hb:x.bR=false:=by rw [e];rfl
   simp [Yr,hn,he,h,b1,b2,b3,b4,b5,b6,b7,ZC,Zp,JC,ha,hb,Bool.and_assoc,Bool.and_comm,Bool.and_left_comm]
theorem DR (h:x.op=2):ZV x locs after=((x == NJ x) && decide ((x.loc.toNat:Int) < locs) && ZC x.aR x.aN && (x.mode == 0 || x.mode == 2)):=by
 obtain ⟨b1,b2,b3,b4,b5,b6,b7⟩:X7 (2:UInt8) 1=false∧X7 (2:UInt8) 2=true∧X7 (2:UInt8) 4=true∧X7 (2:UInt8) 8=false∧X7 (2:UInt8) 16=false∧X7 (2:UInt8) 32=true∧X7 (2:UInt8) 64=false:=by decide
 have hn:x.needed=NJ x:=by simp [Ins.needed,NJ,h,b1,b2,b3,b4,b5,b6,b7]
 rw [YQ]
 cases he:x == NJ x with
 | false=>simp [Yr,hn,he]
 | true=>
   have e:=eq_of_beq he
   have hd:x.dst=0:=by rw [e];rfl
   have hb:x.bR=false:=by rw [e];rfl
   have hg:ZC x.bR x.bN=true:=by rw [hb];rfl
   simp [Yr,hn,he,h,b1,b2,b3,b4,b5,b6,b7,hg,Zp,JC,hd,Bool.and_assoc,Bool.and_comm,Bool.and_left_comm]
theorem Eb (h:x.op=3):ZV x locs after=((x == NI x) && decide (x.dst < 8) && ZC x.aR x.aN && ZC x.bR x.bN && (decide (1≤x.fn) && decide (x.fn≤3))):=by
 obtain ⟨b1,b2,b3,b4,b5,b6,b7⟩:X7 (3:UInt8) 1=true∧X7 (3:UInt8) 2=false∧X7 (3:UInt8) 4=true∧X7 (3:UInt8) 8=true∧X7 (3:UInt8) 16=true∧X7 (3:UInt8) 32=false∧X7 (3:UInt8) 64=false:=by decide
 have hn:x.needed=NI x:=by simp [Ins.needed,NI,h,b1,b2,b3,b4,b5,b6,b7]
 rw [YQ,fn13]
 cases he:x == NI x with
 | false=>simp [Yr,hn,he]
 | true=>simp [Yr,hn,he,h,b1,b2,b3,b4,b5,b6,b7,Zp,JC,Bool.and_assoc,Bool.and_comm,Bool.and_left_comm]
theorem QZ (h:x.op=4):ZV x locs after=((x == VO x) && decide ((x.loc.toNat:Int) < locs) && decide (x.dst < 8) && ZC x.aR x.aN):=by
 obtain ⟨b1,b2,b3,b4,b5,b6,b7⟩:X7 (4:UInt8) 1=true∧X7 (4:UInt8) 2=true∧X7 (4:UInt8) 4=true∧X7 (4:UInt8) 8=false∧X7 (4:UInt8) 16=false∧X7 (4:UInt8) 32=false∧X7 (4:UInt8) 64=false:=by decide
 have hn:x.needed=VO x:=by simp [Ins.needed,VO,h,b1,b2,b3,b4,b5,b6,b7]
 rw [YQ]
 cases he:x == VO x with
 | false=>simp [Yr,hn,he]
 | true=>
   have e:=eq_of_beq he
   have hb:x.bR=false:=by rw [e];rfl
   have hg:ZC x.bR x.bN=true:=by rw [hb];rfl
   simp [Yr,hn,he,h,b1,b2,b3,b4,b5,b6,b7,hg,Zp,JC,Bool.and_assoc,Bool.and_comm,Bool.and_left_comm]
theorem QY (h:x.op=5):ZV x locs after=((x == VO x) && decide ((x.loc.toNat:Int) < locs) && decide (x.dst < 8) && ZC x.aR x.aN):=by
 obtain ⟨b1,b2,b3,b4,b5,b6,b7⟩:X7 (5:UInt8) 1=true∧X7 (5:UInt8) 2=true∧X7 (5:UInt8) 4=true∧X7 (5:UInt8) 8=false∧X7 (5:UInt8) 16=false∧X7 (5:UInt8) 32=false∧X7 (5:UInt8) 64=false:=by decide
 have hn:x.needed=VO x:=by simp [Ins.needed,VO,h,b1,b2,b3,b4,b5,b6,b7]
 rw [YQ]
 cases he:x == VO x with
 | false=>simp [Yr,hn,he]
 | true=>
   have e:=eq_of_beq he
   have hb:x.bR=false:=by rw [e];rfl
   have hg:ZC x.bR x.bN=true:=by rw [hb];rfl
   simp [Yr,hn,he,h,b1,b2,b3,b4,b5,b6,b7,hg,Zp,JC,Bool.and_assoc,Bool.and_comm,Bool.and_left_comm]
theorem DQ (h:x.op=6):ZV x locs after=((x == NH x) && decide ((x.loc.toNat:Int) < locs) && decide (x.dst < 8) && ZC x.aR x.aN && ZC x.bR x.bN):=by
 obtain ⟨b1,b2,b3,b4,b5,b6,b7⟩:X7 (6:UInt8) 1=true∧X7 (6:UInt8) 2=true∧X7 (6:UInt8) 4=true∧X7 (6:UInt8) 8=true∧X7 (6:UInt8) 16=false∧X7 (6:UInt8) 32=false∧X7 (6:UInt8) 64=false:=by decide
 have hn:x.needed=NH x:=by simp [Ins.needed,NH,h,b1,b2,b3,b4,b5,b6,b7]
 rw [YQ]
 cases he:x == NH x with
 | false=>simp [Yr,hn,he]
 | true=>simp [Yr,hn,he,h,b1,b2,b3,b4,b5,b6,b7,Zp,JC,Bool.and_assoc,Bool.and_comm,Bool.and_left_comm]
theorem Xbs (h:x.op=7):ZV x locs after=((x == NG x) && (decide (3≤x.mode) && decide (x.mode≤5))):=by
 obtain ⟨b1,b2,b3,b4,b5,b6,b7⟩:X7 (7:UInt8) 1=false∧X7 (7:UInt8) 2=false∧X7 (7:UInt8) 4=false∧X7 (7:UInt8) 8=false∧X7 (7:UInt8) 16=false∧X7 (7:UInt8) 32=true∧X7 (7:UInt8) 64=false:=by decide
 have hn:x.needed=NG x:=by simp [Ins.needed,NG,h,b1,b2,b3,b4,b5,b6,b7]
 rw [YQ,XcA]
 cases he:x == NG x with
 | false=>simp [Yr,hn,he]
 | true=>
   have e:=eq_of_beq he
   have hd:x.dst=0:=by rw [e];rfl
   have ha:x.aR=false:=by rw [e];rfl
   have hb:x.bR=false:=by rw [e];rfl
   simp [Yr,hn,he,h,b1,b2,b3,b4,b5,b6,b7,ZC,ha,hb,Zp,JC,hd]
theorem Ma (h:x.op=8):ZV x locs after=((x == NF x) && ZC x.aR x.aN && ZC x.bR x.bN && (decide (4≤x.fn) && decide (x.fn≤6)) && decide (1≤x.skip) && decide ((x.skip.toNat:Int)≤after)):=by
 obtain ⟨b1,b2,b3,b4,b5,b6,b7⟩:X7 (8:UInt8) 1=false∧X7 (8:UInt8) 2=false∧X7 (8:UInt8) 4=true∧X7 (8:UInt8) 8=true∧X7 (8:UInt8) 16=true∧X7 (8:UInt8) 32=false∧X7 (8:UInt8) 64=true:=by decide
 have hn:x.needed=NF x:=by simp [Ins.needed,NF,h,b1,b2,b3,b4,b5,b6,b7]
 rw [YQ,fn46]
 cases he:x == NF x with
 | false=>simp [Yr,hn,he]
 | true=>
   have e:=eq_of_beq he
   have hd:x.dst=0:=by rw [e];rfl
   simp [Yr,hn,he,h,b1,b2,b3,b4,b5,b6,b7,Zp,JC,hd,Bool.and_assoc,Bool.and_comm,Bool.and_left_comm]
theorem ins_0 (h:¬ (x.op.toNat=1∨x.op.toNat=2∨x.op.toNat=3∨x.op.toNat=4∨x.op.toNat=5∨x.op.toNat=6∨x.op.toNat=7∨x.op.toNat=8)):ZV x locs after=false:=by
 have h0:Yr x locs after 0=false:=by
   have h1:(1:UInt8).toNat=1:=rfl
   have h8:(8:UInt8).toNat=8:=rfl
   simp only [Yr,UInt8.le_iff_toNat_le,h1,h8,Bool.and_eq_false_iff,decide_eq_false_iff_not]
   omega
 rw [YQ,h0];simp
end
mutual
def ZD (threads locs:Int):Cnd→Bool
 | .mk k t n v l=>Qc threads locs l &&
   (if k=0 then (t == 0 && n == 0 && v == 0) && l.length == 0
   else if k=1 then decide ((t.toNat:Int) < threads) && decide (n < 8) && l.length == 0
   else if k=2 then decide ((n.toNat:Int) < locs) && t == 0 && l.length == 0
   else if k=3∨k=4 then (t == 0 && n == 0 && v == 0) && decide (2≤l.length)
   else if k=5 then (t == 0 && n == 0 && v == 0) && l.length == 1
   else false)
def Qc (threads locs:Int):List Cnd→Bool
 | []=>true
 | c :: r=>ZD threads locs c && Qc threads locs r
end
theorem V9 (threads locs:Int):∀ l,Qc threads locs l=l.all (ZD threads locs)
 | []=>by simp [Qc]
 | c :: r=>by simp [Qc,V9 threads locs r]
theorem deepL_le {n:Nat}:∀ {l:List Cnd},VI l≤n ↔ ∀ c ∈ l,Z8 c≤n
 | []=>by simp [VI]
 | c :: r=>by
   simp only [VI,Nat.max_le,List.mem_cons,forall_eq_or_imp]
   rw [deepL_le (l:=r)]
theorem WG (threads locs:Int):∀ (d:Nat) (c:Cnd),Yk threads locs d c=(decide (Z8 c≤d) && ZD threads locs c)
 | 0,.mk k t n v l=>by simp [Yk,Z8]
 | d+1,.mk k t n v l=>by
   have hk:l.all (Yk threads locs d)=(decide (VI l≤d) && Qc threads locs l):=by
     rw [V9];rw [Bool.eq_iff_iff]
     simp only [List.all_eq_true,Bool.and_eq_true,decide_eq_true_eq,deepL_le]
     constructor
     · intro h
       have:∀ c ∈ l,Z8 c≤d∧ZD threads locs c=true:=fun c hc=>by
         have:=h c hc
         rw [WG threads locs d c] at this
         simpa using this
       exact ⟨fun c hc=>(this c hc).1,fun c hc=>(this c hc).2⟩
     · intro h c hc
       rw [WG threads locs d c]
       simp [h.1 c hc,h.2 c hc]
   have h0:l.length=0→VI l=0∧Qc threads locs l=true:=fun h=>by
     have:=List.eq_nil_of_length_eq_zero h
     subst this
     exact ⟨rfl,by simp [Qc]⟩
   have hd:decide (Z8 (.mk k t n v l)≤d+1)=decide (VI l≤d):=by simp [Z8]
   rw [hd,Yk,ZD,hk]
   by_cases h1:l.length=0
   · obtain ⟨e1,e2⟩:=h0 h1
     rw [e1,e2,h1]
     simp
   · have hf:(l.length == 0)=false:=by simpa using h1
     rw [hf]
     cases decide (VI l≤d) <;> cases Qc threads locs l <;> simp
end Go.Proofs.YtagnefpgidbhnaaGreatDoor
