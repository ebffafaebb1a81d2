/- Plain Lean: instructions, and when an instruction and a thread are valid. And more of this kind. Conditions: those of each theorem. -/
import Derived.Test.YtajfpcgbnflceaaGreatDoorVgB
set_option linter.unusedSimpArgs false
set_option linter.unusedVariables false
namespace Go.Proofs.YtajfpcgbnflceaaGreatDoor
open Go.Proofs.Tryz
open Go.RowKit
set_option maxRecDepth 100000
set_option maxHeartbeats 2000000
variable{A:Option Addr}{cs:List Value}{j:Nat}{locs:Int}{rs:List Res}{w w0:World}
structure Ins where
 op:UInt8
 dst:UInt8
 loc:UInt8
 aR:Bool
 aN:UInt8
 bR:Bool
 bN:UInt8
 fn:UInt8
 mode:UInt8
 skip:UInt8
deriving DecidableEq
def Ins.cells(x:Ins):List Value:=[b8 x.op,b8 x.dst,b8 x.loc,.bool x.aR,b8 x.aN,.bool x.bR,b8 x.bN,b8 x.fn,b8 x.mode,b8 x.skip]
def Xfb(b:UInt8):UInt8:=if b=1 then 35 else if b=2 then 38 else if b=3 then 29 else if b=4 then 7 else if b=5 then 7 else if b=6 then 15 else if b=7 then 32 else if b=8 then 92 else 0
def UW(b f:UInt8):Bool:=(Xfb b&&&f)!=0
def Ins.needed(x:Ins):Ins where
 op:=x.op
 dst:=bif UW x.op 1 then x.dst else 0
 loc:=bif UW x.op 2 then x.loc else 0
 aR:=bif UW x.op 4 then x.aR else false
 aN:=bif UW x.op 4 then x.aN else 0
 bR:=bif UW x.op 8 then x.bR else false
 bN:=bif UW x.op 8 then x.bN else 0
 fn:=bif UW x.op 16 then x.fn else 0
 mode:=bif UW x.op 32 then x.mode else 0
 skip:=bif UW x.op 64 then x.skip else 0
def XaU(r:Bool)(n:UInt8):Bool:=!r||decide (n<8)
def NR(b mode:UInt8):Bool:=if b=1 then mode==0||mode==1 else if b=2 then mode==0||mode==2 else if b=7 then mode==3||mode==4||mode==5 else true
def XjN(b fn:UInt8):Bool:=if b=3 then fn==1||fn==2||fn==3 else if b=8 then fn==4||fn==5||fn==6 else true
def Jt(x:Ins)(locs b:Int):Nat->Bool
 |0=>decide (1<=x.op)&&decide (x.op<=8)
 |1=>x==x.needed
 |2=>decide (x.dst<8)
 |3=>!UW x.op 2||decide ((x.loc.toNat:Int)<locs)
 |4=>XaU x.aR x.aN&&XaU x.bR x.bN
 |5=>NR x.op x.mode
 |6=>XjN x.op x.fn
 |7=>!UW x.op 64||(decide (1<=x.skip)&&decide ((x.skip.toNat:Int)<=b))
 |_=>true
def LF(x:Ins)(locs b:Int):Bool:=(List.range 8).all (Jt x locs b)
def GK(locs:Int)(n:Nat):Nat->List Ins->Bool
 |_,[]=>true
 |i,x::r=>LF x locs ((n:Int)-1-i)&&GK locs n (i+1) r
def Ua(locs:Int)(l:List Ins):Bool:=decide (l.length<=12)&&GK locs l.length 0 l
section
theorem U4{a b:Bool}(h:a=b):(Ending.returned (.bool a):Ending)=.returned (.bool b):=by rw[h]
def Ng(w:World)(B:Nat)(x:Ins)(locs b:Int):Prop:=w.rangeAt B 0 (x.cells++[.int .i64 locs,.int .i64 b])
def NeedsAt(w:World):Prop:=∀i:UInt8,i<9->w.cell? ⟨0,i.toNat,none⟩=some (b8 (Xfb i))
theorem NeedsAt.at(h:NeedsAt w)(b:UInt8)(c:b<9):w.cell? ⟨0,0+b.toNat*1,none⟩=some (b8 (Xfb b)):=by
 rw[As,FZ];exact h b c
theorem Eg(r:Bool)(n:UInt8)(w0:World):Va 104 #[.agg #[.bool r,b8 n]] w0 (.bool (XaU r n)):=by
 refine Vb func104 ntmps104 λH a F=>?_
 refine gg 2 λa F=>?_
 refine zBx H F λc a w F H=>?_
 refine gg 8 λa F=>?_
 refine zSp 6 F (λd F=>?_) λd F=>?_
 ·
  refine gg 8 λa F=>?_
  exact⟨U4 (by simp_all[XaU]),H.below⟩
 refine gg 8 λa F=>?_
 exact⟨U4 (by simp_all[XaU]),H.below⟩
theorem QC(B:Nat)(x:Ins)(locs b:Int)(f:UInt8)(w0:World)(j:Ng w0 B x locs b)(g:NeedsAt w0)(d:x.op<9):
 Calls prog 102 #[Vc B 0,b8 f] w0 λe i=>e=.returned (.bool (UW x.op f))/\Below w0.heap.size w0 i:=by
 have H:=Own.start w0 none
 have c:x.op.toNat<9:=d
 refine VU func102 Z ntmps102 Z (λa F=>?_)
 refine gg 11 λa F=>?_
 refine sIa underlying274 Xr F Z Z Z Z ?_ ?_
 focus exact c
 clear F a;intro a F
 refine zLd F (H.arg (g.at _ d)) λa F=>?_
 refine gg 1 λa F=>?_
 refine Xh F Z Z (bAndB) λa F=>?_
 refine gg 5 λa F=>?_
 exact⟨Z,H.below⟩
end
section
theorem Xsc{t:TypeId}{c b:Operand}{x y:Ins}(d:t=43):Gu prog .eql t c b (.agg x.cells.toArray) (.agg y.cells.toArray) (.bool (x==y)):=λw=>by
 subst d
 simp[Ins.cells,go_sem,Xy]
 obtain⟨D,z,G,g,i,e,r,o,n,A⟩:=x
 obtain⟨B,v,m,s,u,j,E,q,C,p⟩:=y
 simp only[Int.natCast_inj,HC]
 repeat' split
 all_goals
  congr 2
  symm
  simp_all[beq_eq_false_iff_ne]
set_option maxRecDepth 10000 in
theorem Xab(B:Nat)(x:Ins)(locs b:Int)(w0:World)(p:Ng w0 B x locs b):Va 105 #[Vc B 0] w0 (.bool (NR x.op x.mode)):=by
 refine Vb func105 ntmps105 λH a F=>?_
 refine gg 20 λa F=>zi (λg=>?_) λg=>?_
 ·
  refine gg 9 λa F=>?_
  refine zSp 16 F (λm F=>?_) λm F=>?_
  ·
   refine gg 11 λa F=>?_
   exact⟨U4 (by simp_all[NR]),H.below⟩
  refine gg 11 λa F=>?_
  exact⟨U4 (by simp_all[NR]),H.below⟩
 refine gg 6 λa F=>zi (λd=>?_) λd=>?_
 ·
  refine gg 9 λa F=>?_
  refine zSp 32 F (λi F=>?_) λi F=>?_
  ·
   refine gg 11 λa F=>?_
   exact⟨U4 (by simp_all[NR]),H.below⟩
  refine gg 11 λa F=>?_
  exact⟨U4 (by simp_all[NR]),H.below⟩
 refine gg 6 λa F=>zi (λc=>?_) λc=>?_
 ·
  refine gg 9 λa F=>?_
  refine zSp 48 F (λj F=>?_) λj F=>?_
  ·
   refine gg 19 λa F=>?_
   exact⟨U4 (by simp_all[NR]),H.below⟩
  refine gg 8 λa F=>?_
  refine zSp 56 F (λo F=>?_) λo F=>?_
  ·
   refine gg 11 λa F=>?_
   exact⟨U4 (by simp_all[NR]),H.below⟩
  refine gg 11 λa F=>?_
  exact⟨U4 (by simp_all[NR]),H.below⟩
 refine gg 7 λa F=>?_
 exact⟨U4 (by simp_all[NR]),H.below⟩
theorem XdR(B:Nat)(x:Ins)(locs b:Int)(w0:World)(o:Ng w0 B x locs b):Va 106 #[Vc B 0] w0 (.bool (XjN x.op x.fn)):=by
 refine Vb func106 ntmps106 λH a F=>?_
 refine gg 20 λa F=>zi (λd=>?_) λd=>?_
 ·
  refine gg 9 λa F=>?_
  refine zSp 16 F (λj F=>?_) λj F=>?_
  ·
   refine gg 19 λa F=>?_
   exact⟨U4 (by simp_all[XjN]),H.below⟩
  refine gg 8 λa F=>?_
  refine zSp 24 F (λn F=>?_) λn F=>?_
  ·
   refine gg 11 λa F=>?_
   exact⟨U4 (by simp_all[XjN]),H.below⟩
  refine gg 11 λa F=>?_
  exact⟨U4 (by simp_all[XjN]),H.below⟩
 refine gg 6 λa F=>zi (λc=>?_) λc=>?_
 ·
  refine gg 9 λa F=>?_
  refine zSp 40 F (λg F=>?_) λg F=>?_
  ·
   refine gg 19 λa F=>?_
   exact⟨U4 (by simp_all[XjN]),H.below⟩
  refine gg 8 λa F=>?_
  refine zSp 48 F (λi F=>?_) λi F=>?_
  ·
   refine gg 11 λa F=>?_
   exact⟨U4 (by simp_all[XjN]),H.below⟩
  refine gg 11 λa F=>?_
  exact⟨U4 (by simp_all[XjN]),H.below⟩
 refine gg 7 λa F=>?_
 exact⟨U4 (by simp_all[XjN]),H.below⟩
theorem XpH{c:Bool}{u:UInt8}:b8 (bif c then u else 0)=bif c then b8 u else .int .u8 0:=by cases c<;>rfl
theorem XbF(x:Ins):x.needed.cells=[b8 x.op,(bif UW x.op 1 then b8 x.dst else .int .u8 0),(bif UW x.op 2 then b8 x.loc else .int .u8 0),.bool (bif UW x.op 4 then x.aR else false),(bif UW x.op 4 then b8 x.aN else .int .u8 0),.bool (bif UW x.op 8 then x.bR else false),(bif UW x.op 8 then b8 x.bN else .int .u8 0),(bif UW x.op 16 then b8 x.fn else .int .u8 0),(bif UW x.op 32 then b8 x.mode else .int .u8 0),(bif UW x.op 64 then b8 x.skip else .int .u8 0)]:=by
 simp only[Ins.cells,Ins.needed,XpH]
theorem Xgv(B:Nat)(x:Ins)(locs c:Int)(w0:World)(n:Ng w0 B x locs c)(o:NeedsAt w0)(p:x.op<9):
 Calls prog 99 #[Vc B 0] w0 λe D=>e=.returned (.agg x.needed.cells.toArray)/\Below w0.heap.size w0 D:=by
 have H:=Own.start w0 none
 rw[XbF];refine VU func99 Z ntmps99 Z (λa F=>?_)
 refine gg 2 λa F=>?_
 refine zAl XW H F λq a w F H=>?_
 refine gg 8 λa F=>?_
 refine sBd (places:=[(0,1),(1,1),(2,1),(3,2),(5,2),(7,1),(8,1),(9,1)]) XW Xy Y F Z Z Z Z λa F=>?_
 refine zAl XW H F λu a w F H=>?_
 refine sSr H 0 ?si F Z Z Z ?s1 Z Z ?_
 case si=>exact VT XA
 case s1=>rfl
 clear H;intro w H
 refine gg 1 λa F=>?_
 refine cSeqS [0,2,3] (λb w=>b=[]/\Own w0 none w [.blk u [b8 x.op,(bif UW x.op 1 then b8 x.dst else .int .u8 0),.int .u8 0,.bool false,.int .u8 0,.bool false,.int .u8 0,.int .u8 0,.int .u8 0,.int .u8 0] 43,.blk q [.int .u8 0,.int .u8 0,.int .u8 0,.bool false,.int .u8 0,.bool false,.int .u8 0,.int .u8 0,.int .u8 0,.int .u8 0] 43]) F ?_ ?_
 ·
  refine gg 3 λa F=>?_
  refine zCa F (QC B x locs c 1 _ (λj v m=>H.arg (n j v m)) (λi d=>H.arg (o i d)) p) H λa w F H=>?_
  refine gg 1 λa F=>?_
  refine cIf F Z (λA=>?_) (λA=>?_)
  ·
   refine gg 7 λa F=>?_
   refine zSt H 0 F λw H=>?_
   refine gg 1 λa F=>?_
   exact⟨[],⟨Z,by rw[A];exact H⟩,F.tt⟩
  refine gg 1 λa F=>?_
  exact⟨[],⟨Z,by rw[A];exact H⟩,F.tt⟩
 clear F H
 intro b a w g F
 obtain⟨rfl,H⟩:=g
 refine cSeqS [0,2,3] (λb w=>b=[]/\Own w0 none w [.blk u [b8 x.op,(bif UW x.op 1 then b8 x.dst else .int .u8 0),(bif UW x.op 2 then b8 x.loc else .int .u8 0),.bool false,.int .u8 0,.bool false,.int .u8 0,.int .u8 0,.int .u8 0,.int .u8 0] 43,.blk q [.int .u8 0,.int .u8 0,.int .u8 0,.bool false,.int .u8 0,.bool false,.int .u8 0,.int .u8 0,.int .u8 0,.int .u8 0] 43]) F ?_ ?_
 ·
  refine gg 3 λa F=>?_
  refine zCa F (QC B x locs c 2 _ (λj v m=>H.arg (n j v m)) (λi d=>H.arg (o i d)) p) H λa w F H=>?_
  refine gg 1 λa F=>?_
  refine cIf F Z (λt=>?_) (λt=>?_)
  ·
   refine gg 7 λa F=>?_
   refine zSt H 0 F λw H=>?_
   refine gg 1 λa F=>?_
   exact⟨[],⟨Z,by rw[t];exact H⟩,F.tt⟩
  refine gg 1 λa F=>?_
  exact⟨[],⟨Z,by rw[t];exact H⟩,F.tt⟩
 clear F H
 intro b a w g F
 obtain⟨rfl,H⟩:=g
 refine cSeqS [0,2,3] (λb w=>b=[]/\Own w0 none w [.blk u [b8 x.op,(bif UW x.op 1 then b8 x.dst else .int .u8 0),(bif UW x.op 2 then b8 x.loc else .int .u8 0),.bool (bif UW x.op 4 then x.aR else false),(bif UW x.op 4 then b8 x.aN else .int .u8 0),.bool false,.int .u8 0,.int .u8 0,.int .u8 0,.int .u8 0] 43,.blk q [.int .u8 0,.int .u8 0,.int .u8 0,.bool false,.int .u8 0,.bool false,.int .u8 0,.int .u8 0,.int .u8 0,.int .u8 0] 43]) F ?_ ?_
 ·
  refine gg 3 λa F=>?_
  refine zCa F (QC B x locs c 4 _ (λj v m=>H.arg (n j v m)) (λi d=>H.arg (o i d)) p) H λa w F H=>?_
  refine gg 1 λa F=>?_
  refine cIf F Z (λz=>?_) (λz=>?_)
  ·
   refine gg 5 λa F=>?_
   refine zLr F (H.argR (Xnm n 3 2)) λa F=>?_
   refine gg 1 λa F=>?_
   refine sSr H 0 ?si F Z Z Z ?s1 Z Z ?_
   case si=>exact VT X6
   case s1=>rfl
   clear H;intro w H
   refine gg 1 λa F=>?_
   exact⟨[],⟨Z,by rw[z];exact H⟩,F.tt⟩
  refine gg 1 λa F=>?_
  exact⟨[],⟨Z,by rw[z];exact H⟩,F.tt⟩
 clear F H
 intro b a w g F
 obtain⟨rfl,H⟩:=g
 refine cSeqS [0,2,3] (λb w=>b=[]/\Own w0 none w [.blk u [b8 x.op,(bif UW x.op 1 then b8 x.dst else .int .u8 0),(bif UW x.op 2 then b8 x.loc else .int .u8 0),.bool (bif UW x.op 4 then x.aR else false),(bif UW x.op 4 then b8 x.aN else .int .u8 0),.bool (bif UW x.op 8 then x.bR else false),(bif UW x.op 8 then b8 x.bN else .int .u8 0),.int .u8 0,.int .u8 0,.int .u8 0] 43,.blk q [.int .u8 0,.int .u8 0,.int .u8 0,.bool false,.int .u8 0,.bool false,.int .u8 0,.int .u8 0,.int .u8 0,.int .u8 0] 43]) F ?_ ?_
 ·
  refine gg 3 λa F=>?_
  refine zCa F (QC B x locs c 8 _ (λj v m=>H.arg (n j v m)) (λi d=>H.arg (o i d)) p) H λa w F H=>?_
  refine gg 1 λa F=>?_
  refine cIf F Z (λr=>?_) (λr=>?_)
  ·
   refine gg 5 λa F=>?_
   refine zLr F (H.argR (Xnm n 5 2)) λa F=>?_
   refine gg 1 λa F=>?_
   refine sSr H 0 ?si F Z Z Z ?s1 Z Z ?_
   case si=>exact VT X6
   case s1=>rfl
   clear H;intro w H
   refine gg 1 λa F=>?_
   exact⟨[],⟨Z,by rw[r];exact H⟩,F.tt⟩
  refine gg 1 λa F=>?_
  exact⟨[],⟨Z,by rw[r];exact H⟩,F.tt⟩
 clear F H
 intro b a w g F
 obtain⟨rfl,H⟩:=g
 refine cSeqS [0,2,3] (λb w=>b=[]/\Own w0 none w [.blk u [b8 x.op,(bif UW x.op 1 then b8 x.dst else .int .u8 0),(bif UW x.op 2 then b8 x.loc else .int .u8 0),.bool (bif UW x.op 4 then x.aR else false),(bif UW x.op 4 then b8 x.aN else .int .u8 0),.bool (bif UW x.op 8 then x.bR else false),(bif UW x.op 8 then b8 x.bN else .int .u8 0),(bif UW x.op 16 then b8 x.fn else .int .u8 0),.int .u8 0,.int .u8 0] 43,.blk q [.int .u8 0,.int .u8 0,.int .u8 0,.bool false,.int .u8 0,.bool false,.int .u8 0,.int .u8 0,.int .u8 0,.int .u8 0] 43]) F ?_ ?_
 ·
  refine gg 3 λa F=>?_
  refine zCa F (QC B x locs c 16 _ (λj v m=>H.arg (n j v m)) (λi d=>H.arg (o i d)) p) H λa w F H=>?_
  refine gg 1 λa F=>?_
  refine cIf F Z (λC=>?_) (λC=>?_)
  ·
   refine gg 7 λa F=>?_
   refine zSt H 0 F λw H=>?_
   refine gg 1 λa F=>?_
   exact⟨[],⟨Z,by rw[C];exact H⟩,F.tt⟩
  refine gg 1 λa F=>?_
  exact⟨[],⟨Z,by rw[C];exact H⟩,F.tt⟩
 clear F H
 intro b a w g F
 obtain⟨rfl,H⟩:=g
 refine cSeqS [0,2,3] (λb w=>b=[]/\Own w0 none w [.blk u [b8 x.op,(bif UW x.op 1 then b8 x.dst else .int .u8 0),(bif UW x.op 2 then b8 x.loc else .int .u8 0),.bool (bif UW x.op 4 then x.aR else false),(bif UW x.op 4 then b8 x.aN else .int .u8 0),.bool (bif UW x.op 8 then x.bR else false),(bif UW x.op 8 then b8 x.bN else .int .u8 0),(bif UW x.op 16 then b8 x.fn else .int .u8 0),(bif UW x.op 32 then b8 x.mode else .int .u8 0),.int .u8 0] 43,.blk q [.int .u8 0,.int .u8 0,.int .u8 0,.bool false,.int .u8 0,.bool false,.int .u8 0,.int .u8 0,.int .u8 0,.int .u8 0] 43]) F ?_ ?_
 ·
  refine gg 3 λa F=>?_
  refine zCa F (QC B x locs c 32 _ (λj v m=>H.arg (n j v m)) (λi d=>H.arg (o i d)) p) H λa w F H=>?_
  refine gg 1 λa F=>?_
  refine cIf F Z (λs=>?_) (λs=>?_)
  ·
   refine gg 7 λa F=>?_
   refine zSt H 0 F λw H=>?_
   refine gg 1 λa F=>?_
   exact⟨[],⟨Z,by rw[s];exact H⟩,F.tt⟩
  refine gg 1 λa F=>?_
  exact⟨[],⟨Z,by rw[s];exact H⟩,F.tt⟩
 clear F H
 intro b a w g F
 obtain⟨rfl,H⟩:=g
 refine cSeqS [2,3] (λb w=>b=[]/\Own w0 none w [.blk u [b8 x.op,(bif UW x.op 1 then b8 x.dst else .int .u8 0),(bif UW x.op 2 then b8 x.loc else .int .u8 0),.bool (bif UW x.op 4 then x.aR else false),(bif UW x.op 4 then b8 x.aN else .int .u8 0),.bool (bif UW x.op 8 then x.bR else false),(bif UW x.op 8 then b8 x.bN else .int .u8 0),(bif UW x.op 16 then b8 x.fn else .int .u8 0),(bif UW x.op 32 then b8 x.mode else .int .u8 0),(bif UW x.op 64 then b8 x.skip else .int .u8 0)] 43,.blk q [.int .u8 0,.int .u8 0,.int .u8 0,.bool false,.int .u8 0,.bool false,.int .u8 0,.int .u8 0,.int .u8 0,.int .u8 0] 43]) F ?_ ?_
 ·
  refine gg 3 λa F=>?_
  refine zCa F (QC B x locs c 64 _ (λj v m=>H.arg (n j v m)) (λi d=>H.arg (o i d)) p) H λa w F H=>?_
  refine gg 1 λa F=>?_
  refine cIf F Z (λy=>?_) (λy=>?_)
  ·
   refine gg 7 λa F=>?_
   refine zSt H 0 F λw H=>?_
   refine gg 1 λa F=>?_
   exact⟨[],⟨Z,by rw[y];exact H⟩,F.tt⟩
  refine gg 1 λa F=>?_
  exact⟨[],⟨Z,by rw[y];exact H⟩,F.tt⟩
 clear F H
 intro b a w g F
 obtain⟨rfl,H⟩:=g
 refine gg 2 λa F=>?_
 refine zLr F (H.range 0 Z _ 10) λa F=>?_
 refine sSr H 1 ?si F Z Z Z ?s1 Z Z ?_
 case si=>exact VT XA
 case s1=>(repeat(first|exact XiV|(apply Xe3;· first|rfl|assumption|exact XiW rfl rfl)))
 clear H;intro w H
 refine gg 2 λa F=>?_
 refine bodyPost_ret (v:=.agg (List.toArray [b8 x.op,(bif UW x.op 1 then b8 x.dst else .int .u8 0),(bif UW x.op 2 then b8 x.loc else .int .u8 0),.bool (bif UW x.op 4 then x.aR else false),(bif UW x.op 4 then b8 x.aN else .int .u8 0),.bool (bif UW x.op 8 then x.bR else false),(bif UW x.op 8 then b8 x.bN else .int .u8 0),(bif UW x.op 16 then b8 x.fn else .int .u8 0),(bif UW x.op 32 then b8 x.mode else .int .u8 0),(bif UW x.op 64 then b8 x.skip else .int .u8 0)])) (Da results99 F Z Xy Z (VT XA) (H.blk 1 Z)) F.nod ?_
 exact⟨Z,H.below⟩
end
section
def Mb(B V:Nat):List Value:=[.func (.func 97) #[] #[.pointer (some ⟨V,0,none⟩)],.func (.func 98) #[] #[.pointer (some ⟨V,0,none⟩)],
 .func (.func 100) #[] #[.pointer (some ⟨V,0,none⟩)],.func (.func 101) #[] #[.pointer (some ⟨V,0,none⟩)],.func (.func 103) #[] #[.pointer (some ⟨V,0,none⟩)],
 .func (.func 105) #[.pointer (some ⟨B,0,none⟩)] #[],.func (.func 106) #[.pointer (some ⟨B,0,none⟩)] #[],.func (.func 107) #[] #[.pointer (some ⟨V,0,none⟩)]]
theorem Bs(B:Nat)(w0:World):
 Calls prog 53 #[Vc B 0] w0 λe b=>∃V F,e=.returned (Vd F 0 8 8)/\Own w0 none b [.blk F (Mb B V) 32,.blk V [Vc B 0] 197]:=by
 refine Vb func53 ntmps53 λH a F=>?_
 refine gg 2 λa F=>?_
 refine zBx H F λd a w F H=>?_
 refine gg 14 λa F=>?_
 refine sBs H underlying132 sizeOf32 zeroValue32 Z F Z Z Z Z Z λc a w F H=>?_
 refine gg 4 λa F=>?_
 exact⟨_,_,Z,H⟩
def Xej(w:World)(V B:Nat):Prop:=w.rangeAt V 0 [.pointer (some ⟨B,0,none⟩)]
theorem Xkq(V B:Nat)(x:Ins)(locs b:Int)(w0:World)(i:Xej w0 V B)(g:Ng w0 B x locs b):
 Va 97 #[Vc V 0] w0 (.bool (Jt x locs b 0)):=by
 refine Vb func97 ntmps97 λH a F=>?_
 refine gg 13 λa F=>?_
 refine zSp 8 F (λd F=>?_) λd F=>?_
 ·
  refine gg 11 λa F=>?_
  exact⟨U4 (by simp_all[Jt]),H.below⟩
 refine gg 11 λa F=>?_
 exact⟨U4 (by simp_all[Jt]),H.below⟩
set_option maxRecDepth 10000 in
theorem Xkp(V B:Nat)(x:Ins)(locs b:Int)(w0:World)(c:Xej w0 V B)(g:Ng w0 B x locs b)(m:NeedsAt w0)(n:x.op<9):
 Va 98 #[Vc V 0] w0 (.bool (Jt x locs b 1)):=by
 refine Vb func98 ntmps98 λH a F=>?_
 refine gg 5 λa F=>?_
 refine D8 Y H ?_;replace H:=H.drew;refine Xj F Z (λw H=>rLd XZ F Z (H.arg (c 0 _ Z))) H qq0 (Xk Z (λa F w H=>rNc F Z) H qq0 (Xk Z (λa F w H=>rFa (f:=0) (k:=0) XP Z XA Z Z F Z) H qq0 λa F=>?_))
 refine Xj (k:=3) F Z (λw H=>rLr Xy Z ?si F Z (H.argR (Xnm g 0 10))) H (λ_ _ _ h=>h) ?_
 case si=>exact VT XA
 clear F a;intro a F;refine Xj F Z (λw H=>rLd XZ F Z (H.arg (c 0 _ Z))) H qq0 λa F=>?_;refine dOne (k:=5) Y F Z (UK call99 F Z Z (Xgv B x locs b _ (λj v q=>H.arg (g j v q)) (λi o=>H.arg (m i o)) n) ?_);rintro e w ⟨rfl,d⟩;replace H:=H.grow d;clear d
 refine zq λa F=>?_
 refine dOnO (j:=5) Z Y H H (λw h=>h) ?_;refine Xj F Z (λw H=>Gt F Z Z (Xsc (x:=x) (y:=x.needed) Z)) H qq0 (Xk Z (λa F w H=>rAs F Z) H qq0 λa F=>?_)
 refine Xhg (k:=8) ?_ Z
 refine gg 2 λa F=>?_
 exact⟨Z,H.below⟩
theorem Xko(V B:Nat)(x:Ins)(locs b:Int)(w0:World)(g:Xej w0 V B)(d:Ng w0 B x locs b):
 Va 100 #[Vc V 0] w0 (.bool (Jt x locs b 2)):=by
 refine Vb func100 ntmps100 λH a F=>?_
 refine gg 16 λa F=>?_
 exact⟨Z,H.below⟩
set_option maxRecDepth 10000 in
theorem Xkn(V B:Nat)(x:Ins)(locs b:Int)(w0:World)(c:Xej w0 V B)(d:Ng w0 B x locs b)(m:NeedsAt w0)(n:x.op<9):
 Va 101 #[Vc V 0] w0 (.bool (Jt x locs b 3)):=by
 refine Vb func101 ntmps101 λH a F=>?_
 refine gg 5 λa F=>?_
 refine D8 Y H ?_;replace H:=H.drew;refine Xj F Z (λw H=>rLd XZ F Z (H.arg (c 0 _ Z))) H qq0 λa F=>?_;refine dOne (k:=1) Y F Z (UK call102 F Z Z (QC B x locs b 2 _ (λj v q=>H.arg (d j v q)) (λi o=>H.arg (m i o)) n) ?_);rintro e w ⟨rfl,g⟩;replace H:=H.grow g;clear g
 refine zq λa F=>?_
 refine Xkh (j:=1) Z Y Y H ?_;refine Xj F Z (λw H=>Xp6 F Z) H qq0 (Xk Z (λa F w H=>rMv F Z) H qq0 λa F=>?_)
 refine zSp 5 F (λr F=>?_) λr F=>?_
 ·
  refine Xg0 Y Y F Z Z Z H qq0 (Xl Z H qq0 (Xl Z H qq0 (Xl Z H qq0 (Xl Z H qq0 (Xl Z H qq0 (Xl Z H qq0 (Xl Z H qq0 (Xl Z H qq0 (Xl Z H qq0 (Xl Z H qq0 (Xk Z (λa F w H=>rPk F Z Z) H qq0 (Xk Z (λa F w H=>rAs F Z) H qq0 λa F=>?_))))))))))))
  refine Xhg (k:=17) ?_ Z
  refine gg 2 λa F=>?_
  exact⟨U4 (by simp_all[Jt]),H.below⟩
 refine Xj F Z (λw H=>rLd XZ F Z (H.arg (c 0 _ Z))) H qq0 (Xk Z (λa F w H=>rNc F Z) H qq0 (Xk Z (λa F w H=>rFa (f:=0) (k:=0) XP Z XA Z Z F Z) H qq0 (Xk Z (λa F w H=>rFa (f:=2) (k:=2) Xy Z Xr Z Z F Z) H qq0 (Xk Z (λa F w H=>rLd XD F Z (H.arg (d 2 _ Z))) H qq0 (Xk Z (λa F w H=>rCv Xq XX F Z (Xoi _)) H qq0 (Xk Z (λa F w H=>rLd XZ F Z (H.arg (c 0 _ Z))) H qq0 (Xk Z (λa F w H=>rNc F Z) H qq0 (Xk Z (λa F w H=>rFa (f:=1) (k:=10) XP Z XM Z Z F Z) H qq0 (Xk Z (λa F w H=>rLd Ye F Z (H.arg (d 10 _ Z))) H qq0 (Xk Z (λa F w H=>Gt F Z Z bLss) H qq0 (Xk Z (λa F w H=>rPk F Z Z) H qq0 (Xk Z (λa F w H=>rAs F Z) H qq0 λa F=>?_))))))))))))
 refine Xhg (k:=17) ?_ Z
 refine gg 2 λa F=>?_
 exact⟨U4 (by simp_all[Jt]),H.below⟩
theorem Xkm(V B:Nat)(x:Ins)(locs b:Int)(w0:World)(i:Xej w0 V B)(c:Ng w0 B x locs b):
 Va 103 #[Vc V 0] w0 (.bool (Jt x locs b 4)):=by
 refine Vb func103 ntmps103 λH a F=>?_
 refine gg 10 λa F=>?_
 refine zLr F (H.argR (Xnm c 3 2)) λa F=>?_
 refine zCa F (Eg x.aR x.aN _) H λa w F H=>?_
 refine gg 1 λa F=>?_
 refine F.split 8 Z (λg F=>?_) λg F=>?_
 ·
  refine gg 4 λa F=>?_
  refine zLr F (H.argR (Xnm c 5 2)) λa F=>?_
  refine zCa F (Eg x.bR x.bN _) H λa w F H=>?_
  refine gg 5 λa F=>?_
  exact⟨U4 (by simp_all[Jt]),H.below⟩
 refine gg 11 λa F=>?_
 exact⟨U4 (by simp_all[Jt]),H.below⟩
set_option maxRecDepth 10000 in
theorem Xkl(V B:Nat)(x:Ins)(locs b:Int)(w0:World)(c:Xej w0 V B)(d:Ng w0 B x locs b)(m:NeedsAt w0)(n:x.op<9):
 Va 107 #[Vc V 0] w0 (.bool (Jt x locs b 7)):=by
 refine Vb func107 ntmps107 λH a F=>?_
 refine gg 5 λa F=>?_
 refine D8 Y H ?_;replace H:=H.drew;refine Xj F Z (λw H=>rLd XZ F Z (H.arg (c 0 _ Z))) H qq0 λa F=>?_;refine dOne (k:=1) Y F Z (UK call102 F Z Z (QC B x locs b 64 _ (λj v r=>H.arg (d j v r)) (λi o=>H.arg (m i o)) n) ?_);rintro e w ⟨rfl,g⟩;replace H:=H.grow g;clear g
 refine zq λa F=>?_
 refine Xkh (j:=1) Z Y Y H ?_;refine Xj F Z (λw H=>Xp6 F Z) H qq0 (Xk Z (λa F w H=>rMv F Z) H qq0 λa F=>?_)
 refine zSp 5 F (λs F=>?_) λs F=>?_
 ·
  refine Xg0 Y Y F Z Z Z H qq0 (Xl Z H qq0 (Xl Z H qq0 (Xl Z H qq0 (Xl Z H qq0 (Xl Z H qq0 (Xl Z H qq0 (Xl Z H qq0 (Xl Z H qq0 (Xl Z H qq0 (Xl Z H qq0 (Xl Z H qq0 (Xl Z H qq0 (Xl Z H qq0 (Xl Z H qq0 (Xl Z H qq0 (Xl Z H qq0 (Xl Z H qq0 (Xl Z H qq0 (Xk Z (λa F w H=>rPk F Z Z) H qq0 (Xk Z (λa F w H=>rAs F Z) H qq0 λa F=>?_))))))))))))))))))))
  refine Xhg (k:=25) ?_ Z
  refine gg 2 λa F=>?_
  exact⟨U4 (by simp_all[Jt]),H.below⟩
 refine Xj F Z (λw H=>rLd XZ F Z (H.arg (c 0 _ Z))) H qq0 (Xk Z (λa F w H=>rNc F Z) H qq0 (Xk Z (λa F w H=>rFa (f:=0) (k:=0) XP Z XA Z Z F Z) H qq0 (Xk Z (λa F w H=>rFa (f:=7) (k:=9) Xy Z Xr Z Z F Z) H qq0 (Xk Z (λa F w H=>rLd XD F Z (H.arg (d 9 _ Z))) H qq0 (Xk Z (λa F w H=>Gt F Z Z (Xsd (y:=1))) H qq0 (Xk Z (λa F w H=>rMv F Z) H qq0 λa F=>?_))))))
 refine zSp 12 F (λp F=>?_) λp F=>?_
 ·
  refine Xj F Z (λw H=>rLd XZ F Z (H.arg (c 0 _ Z))) H qq0 (Xk Z (λa F w H=>rNc F Z) H qq0 (Xk Z (λa F w H=>rFa (f:=0) (k:=0) XP Z XA Z Z F Z) H qq0 (Xk Z (λa F w H=>rFa (f:=7) (k:=9) Xy Z Xr Z Z F Z) H qq0 (Xk Z (λa F w H=>rLd XD F Z (H.arg (d 9 _ Z))) H qq0 (Xk Z (λa F w H=>rCv Xq XX F Z (Xoi _)) H qq0 (Xk Z (λa F w H=>rLd XZ F Z (H.arg (c 0 _ Z))) H qq0 (Xk Z (λa F w H=>rNc F Z) H qq0 (Xk Z (λa F w H=>rFa (f:=2) (k:=11) XP Z XM Z Z F Z) H qq0 (Xk Z (λa F w H=>rLd Ye F Z (H.arg (d 11 _ Z))) H qq0 (Xk Z (λa F w H=>Gt F Z Z bLeq) H qq0 (Xk Z (λa F w H=>rPk F Z Z) H qq0 (Xk Z (λa F w H=>rPk F Z Z) H qq0 (Xk Z (λa F w H=>rAs F Z) H qq0 λa F=>?_)))))))))))))
  refine Xhg (k:=25) ?_ Z
  refine gg 2 λa F=>?_
  exact⟨U4 (by simp_all[Jt]),H.below⟩
 refine Xg0 Y Y F Z Z Z H qq0 (Xl Z H qq0 (Xl Z H qq0 (Xl Z H qq0 (Xl Z H qq0 (Xl Z H qq0 (Xl Z H qq0 (Xl Z H qq0 (Xl Z H qq0 (Xl Z H qq0 (Xl Z H qq0 (Xk Z (λa F w H=>rPk F Z Z) H qq0 (Xk Z (λa F w H=>rPk F Z Z) H qq0 (Xk Z (λa F w H=>rAs F Z) H qq0 λa F=>?_)))))))))))))
 refine Xhg (k:=25) ?_ Z
 refine gg 2 λa F=>?_
 exact⟨U4 (by simp_all[Jt]),H.below⟩
end
section
theorem Xkk(k V B:Nat)(v:Value)(x:Ins)(locs b:Int)(w0:World)(g:Xej w0 V B)(d:Ng w0 B x locs b)(i:NeedsAt w0)(c:(Mb B V)[k]?=some v)(p:∀j,j<k->Jt x locs b j=true):
 JL prog v [] w0 (λe q=>e=.returned (.bool (Jt x locs b k))/\Below w0.heap.size w0 q):=by
 have m:0<k->x.op<9:=λh=>by
  have o:=p 0 h
  simp only[Jt,AJ,decide_eq_true_eq]at o
  have:=Ai.1 o.2
  exact Aa.2 (by simpa using Nat.lt_succ_of_le this)
 match k,c with
 |0,c=>cases c;exact⟨_,[],[Vc V 0],Z,call97,Xkq V B x locs b w0 g d⟩
 |1,c=>cases c;exact⟨_,[],[Vc V 0],Z,call98,Xkp V B x locs b w0 g d i (m (by decide))⟩
 |2,c=>cases c;exact⟨_,[],[Vc V 0],Z,call100,Xko V B x locs b w0 g d⟩
 |3,c=>cases c;exact⟨_,[],[Vc V 0],Z,call101,Xkn V B x locs b w0 g d i (m (by decide))⟩
 |4,c=>cases c;exact⟨_,[],[Vc V 0],Z,call103,Xkm V B x locs b w0 g d⟩
 |5,c=>cases c;exact⟨_,[Vc B 0],[],Z,call105,Xab B x locs b w0 d⟩
 |6,c=>cases c;exact⟨_,[Vc B 0],[],Z,call106,XdR B x locs b w0 d⟩
 |7,c=>cases c;exact⟨_,[],[Vc V 0],Z,call107,Xkl V B x locs b w0 g d i (m (by decide))⟩
 |n+8,c=>simp[Mb]at c
theorem XjD{x:Ins}{b:Int}(h:∀j,j<8->Jt x locs b j=true):LF x locs b=true:=by
 simp only[LF,Ah,Ab];exact h
theorem XjC{x:Ins}{b:Int}{k:Nat}(d:k<8)(h:Jt x locs b k=false):LF x locs b=false:=by
 cases c:LF x locs b with
 |false=>rfl
 |true=>
  simp only[LF,Ah,Ab]at c
  rw[c k d]at h;cases h
theorem NeedsAt.own(c:NeedsAt w0)(H:Own w0 none w rs):NeedsAt w:=λi b=>H.arg (c i b)
theorem B7{l:List Ins}{x:Ins}{n:Nat}(b:l[j]?=some x):GK locs n j (l.drop j)=(LF x locs ((n:Int)-1-j)&&GK locs n (j+1) (l.drop (j+1))):=by
 obtain⟨c,rfl⟩:=AB.1 b
 rw[FA c]
 rfl
theorem BK(A:Option Addr)(C:Nat)(l:List Ins)(locs:Int)(w0:World)(E:RowsAt w0 A 10 (l.map Ins.cells))(G:NeedsAt w0)(N:l.length<=9223372036854775807):
 Va 28 #[.slice A l.length C,Ve locs] w0 (.bool (Ua locs l)):=by
 refine Vb func28 ntmps28 λH a F=>?_
 refine gg 12 λa F=>zi (λy=>?_) λy=>?_
 ·
  refine gg 6 λa F=>?_
  exact⟨U4 (by rw[Ua,decide_eq_false O,Hu]),H.below⟩
 refine gg 4 λa F=>?_
 refine sBd (places:=[(0,10),(10,1),(11,1)]) zeroValue131 XP Y F Z Z Z Z λa F=>?_
 refine zAl zeroValue131 H F λd a w F H=>?_
 refine sSr H 0 ?si F Z Z Z ?s1 Z Z ?_
 case si=>exact VT sizeOf131
 case s1=>rfl
 clear H;intro w H
 refine gg 3 λa F=>?_
 refine Xi call53 F Z (Bs _ _) ?_;rintro e w ⟨V,B,rfl,D⟩;replace H:=H.join D;clear D
 refine zq λa F=>?_
 refine gg 10 λa F=>?_
 refine cLoopS [0,5,6,17,18] (λm c w=>∃(j:Nat)(x:Ins)(g:Int),m=l.length-j/\c=[(19,Ve (j:Int))]/\j<=l.length/\GK locs l.length 0 l=GK locs l.length j (l.drop j)/\Own w0 none w [.blk B (Mb d V) 32,.blk V [Vc d 0] 197,.blk d (x.cells++[Ve locs,Ve g]) 131]) F (l.length) [(19,Ve ((0:Nat):Int))] ?_ ?_
 ·exact⟨0,⟨0,0,0,false,0,false,0,0,0,0⟩,0,Z,Z,AU _,Z,H⟩
 clear F H;intro m c a w t F
 obtain⟨j,M,J,rfl,rfl,L,p,H⟩:=t
 refine gg 6 λa F=>zi (λo=>?_) λo=>?_
 ·
  have v:j<l.length:=O
  obtain⟨x,q⟩:∃x,l[j]?=some x:=⟨_,AA v⟩
  obtain⟨b,I,rfl,P⟩:=E j x.cells (by rw[AD,q];rfl)
  refine gg 8 λa F=>?_
  refine zAl XW H F λb8 a w F H=>?_
  refine gg 1 λa F=>?_
  refine sSr H 0 ?si F Z Z Z ?s1 Z Z ?_
  case si=>exact VT XA
  case s1=>rfl
  clear H;intro w H
  refine gg 3 λa F=>?_
  refine zLr F (H.range 0 Z _ 10) λa F=>?_
  refine gg 2 λa F=>?_
  refine Xh F Z Z (Mf ?_) ?_
  focus omega
  clear F a;intro a F
  refine gg 1 λa F=>?_
  refine Xh F Z Z (Mf ?_) ?_
  focus omega
  clear F a;intro a F
  refine gg 1 λa F=>?_
  refine sSr H 3 ?si F Z Z Z ?s1 Z Z ?_
  case si=>exact VT XA
  case s1=>rfl
  clear H;intro w H
  refine gg 1 λa F=>?_
  refine zSt H 3 F λw H=>?_
  refine gg 8 λa F=>?_
  refine cLoopS [0,5,6,17,18,19,32,33] (λm c w=>∃k:Nat,m=8-k/\c=[(34,Ve (k:Int))]/\k<=8/\(∀i,i<k->Jt x locs ((l.length:Int)-1-j) i=true)/\Own w0 none w [.blk b8 x.cells 43,.blk B (Mb d V) 32,.blk V [Vc d 0] 197,.blk d (x.cells++[Ve locs,Ve ((l.length:Int)-1-j)]) 131]) F (8) [(34,Ve ((0:Nat):Int))] ?_ ?_
  ·exact⟨0,Z,Z,O,λi r=>O,H⟩
  clear F H;intro m c a w t F
  obtain⟨k,rfl,rfl,Q,u,H⟩:=t
  refine gg 6 λa F=>zi (λs=>?_) λs=>?_
  ·
   refine gg 6 λa F=>?_
   refine sLd isAgg32 F Z Z Z (by rw[As,FZ];exact H.cell 1 Z (AA (show k<(Mb d V).length by simp only[Mb,AY,Fw];omega))) λa F=>?_
   refine gg 5 λa F=>?_
   refine NL F Z Z Z Z (Xkk k V d _ x locs ((l.length:Int)-1-j) _ (H.range 2 Z 0 1) (H.range 3 Z 0 12) (G.own H) (AA _) u) ?_
   rintro e w ⟨rfl,z⟩;replace H:=H.grow z;clear z
   refine zq λa F=>?_
   refine gg 3 λa F=>zi (λn=>?_) λn=>?_
   ·
    refine gg 6 λa F=>?_
    exact⟨U4 (by rw[Ua,p,B7 q,XjC O n];simp),H.below⟩
   refine gg 5 λa F=>?_
   exact⟨8-(k+1),O,_,⟨k+1,Z,Z,O,λi r=>by rcases Nat.lt_succ_iff_lt_or_eq.1 r with h|rfl;exact u i h;exact n,H⟩,F.tt⟩
  refine gg 5 λa F=>?_
  exact⟨l.length-(j+1),O,_,⟨j+1,x,_,Z,Z,O,by rw[p,B7 q,XjD (λi r=>u i O),IL],H.tail⟩,F.tt⟩
 refine gg 7 λa F=>?_
 exact⟨U4 (by rw[Ua,p,Fh O];simp only[GK,Bool.and_true];symm;rw[decide_eq_true_eq];omega),H.below⟩
end
section
inductive Cnd where
 |mk (kind thread n val:UInt8) (kids:List Cnd)
def Cnd.kids:Cnd->List Cnd | .mk _ _ _ _ l=>l
def UP(c locs:Int):Nat->Cnd->Bool
 |0,_=>false
 |d+1,.mk k t n v b=>
  if k=0 then(t==0&&n==0&&v==0)&&b.length==0
  else if k=1 then decide ((t.toNat:Int)<c)&&decide (n<8)&&b.length==0
  else if k=2 then decide ((n.toNat:Int)<locs)&&t==0&&b.length==0
  else if k=3\/k=4 then(t==0&&n==0&&v==0)&&decide (2<=b.length)&&b.all (UP c locs d)
  else if k=5 then(t==0&&n==0&&v==0)&&b.length==1&&b.all (UP c locs d)
  else false
def CondAt(w:World):Nat->List Value->Cnd->Prop
 |0,_,_=>False
 |h+1,cs,.mk k t n v c=>∃A C,cs=[b8 k,b8 t,b8 n,b8 v,.slice A c.length C]/\c.length<=9223372036854775807 /\
 ∀j d,c[j]?=some d->∃b g e,A=some ⟨b,g,none⟩/\w.rangeAt b (g+j*5) e/\CondAt w h e d
theorem CondAt.grown{w r:World}{row:Option Nat}(o:w.grownBy r row)(p:row=none):∀(h:Nat)(cs:List Value)(c:Cnd),CondAt w h cs c->CondAt r h cs c
 |0,_,_,m=>m
 |h+1,cs,.mk k t n v q,m=>by
  obtain⟨A,C,I,E,y⟩:=m
  refine⟨A,C,I,E,λj d s=>?_⟩
  obtain⟨b,g,e,z,D,B⟩:=y j d s
  exact⟨b,g,e,z,λi u G=>o.cell (D i u G) (by subst p;simp),CondAt.grown o p h e d B⟩
theorem D1{b:Int}{d:Nat}{k t n v:UInt8}{c:List Cnd}(h:(k=3\/k=4)/\2<=c.length\/k=5/\c.length=1)(hb:(t==0&&n==0&&v==0)=true):
 UP b locs (d+1) (.mk k t n v c)=c.all (UP b locs d):=by
 rcases h with⟨rfl|rfl,h⟩|⟨rfl,h⟩<;>simp[UP,h,hb]<;>simp_all
theorem UH(n:Nat):((n:Int)==0)=(n==0):=by rw[HE];simp
theorem ET{α:Type}(p:α->Bool){l:List α}{x:α}(b:l[j]?=some x):(l.drop j).all p=(p x&&(l.drop (j+1)).all p):=by
 obtain⟨c,rfl⟩:=AB.1 b
 rw[FA c]
 rfl
end
section
theorem XaG(o locs:Int)(d:Nat):∀(_hd:d<=100)(h b G:Nat)(cs:List Value)(c:Cnd)(w0:World),w0.rangeAt b G cs->CondAt w0 h cs c ->
 Calls prog 54 #[Vc b G,Ve o,Ve locs,Ve (d:Int)] w0 λe w'=>e=.returned (.bool (UP o locs d c))/\Below w0.heap.size w0 w':=by
 induction d with
 |zero=>
  intro _hd h b G cs c w0 g R
  have H:=Own.start w0 none
  refine VU func54 Z ntmps54 Z (λa F=>?_)
  refine gg 11 ?_;clear F a;intro a F;refine zi (λE=>?_) λE=>?_
  ·
   refine gg 6 ?_;clear F a;intro a F
   exact⟨Z,H.below⟩
  exact absurd Z E
 |succ d q=>
  intro _hd h b G cs c w0 g R
  obtain⟨k,t,n,v,i⟩:=c
  match h,R with
  |h+1,R=>
  obtain⟨A,C,rfl,a4,p⟩:=R
  have H:=Own.start w0 none
  refine VU func54 Z ntmps54 Z (λa F=>?_)
  refine gg 11 ?_;clear F a;intro a F;refine zi (λE=>?_) λE=>?_
  ·
   omega
  refine gg 1 ?_;clear F a;intro a F
  refine cSeqS [0,1,2,3] (λs w=>∃r,s=[(9,.bool r)]/\r=(t==0&&n==0&&v==0)/\Own w0 none w []) F ?_ ?_
  ·
   refine gg 4 ?_;clear F a;intro a F;refine zLd F (H.arg (g 1 _ Z)) ?_;clear F a;intro a F;refine gg 2 ?_;clear F a;intro a F
   refine zSp 18 F ?_ ?_<;>(clear F;intro a6 F)
   ·
    refine gg 3 ?_;clear F a;intro a F;refine zLd F (H.arg (g 2 _ Z)) ?_;clear F a;intro a F;refine gg 3 ?_;clear F a;intro a F
    refine zSp 25 F ?_ ?_<;>(clear F;intro aA F)
    ·
     refine gg 3 ?_;clear F a;intro a F;refine zLd F (H.arg (g 3 _ Z)) ?_;clear F a;intro a F;refine gg 4 ?_;clear F a;intro a F
     refine⟨_,⟨_,Z,?_,H⟩,F.tt⟩
     simp_all
    refine gg 8 ?_;clear F a;intro a F
    refine⟨_,⟨_,Z,?_,H⟩,F.tt⟩
    simp_all
   refine gg 15 ?_;clear F a;intro a F
   refine⟨_,⟨_,Z,?_,H⟩,F.tt⟩
   simp_all
  clear F H
  intro s a w Q F
  obtain⟨r,rfl,hr,H⟩:=Q
  refine cSeqS [0,1,2,3] (λs w=>s=[]/\r=true/\((k=3\/k=4)/\2<=i.length\/k=5/\i.length=1)/\Own w0 none w []) F ?_ ?_
  ·
   refine gg 5 ?_;clear F a;intro a F;refine zLd F (H.arg (g 0 _ Z)) ?_;clear F a;intro a F
   refine gg 8 ?_;clear F a;intro a F;refine zi (λX=>?_) λX=>?_
   ·
    refine gg 4 ?_;clear F a;intro a F
    refine F.split 39 Z ?_ ?_<;>(clear F;intro a8 F)
    ·
     refine gg 3 ?_;clear F a;intro a F;refine zLd F (H.arg (g 4 _ Z)) ?_;clear F a;intro a F;refine gg 7 ?_;clear F a;intro a F
     exact⟨U4 (by clear F H p q g;simp_all[UP,UH,Aa,Ai]<;>(intros;omega)),H.below⟩
    refine gg 11 ?_;clear F a;intro a F
    exact⟨U4 (by clear F H p q g;simp_all[UP,UH,Aa,Ai]<;>(intros;omega)),H.below⟩
   refine gg 6 ?_;clear F a;intro a F;refine zi (λU=>?_) λU=>?_
   ·
    refine gg 5 ?_;clear F a;intro a F;refine zLd F (H.arg (g 1 _ Z)) ?_;clear F a;intro a F;refine gg 4 ?_;clear F a;intro a F
    refine zSp 56 F ?_ ?_<;>(clear F;intro a9 F)
    ·
     refine gg 3 ?_;clear F a;intro a F;refine zLd F (H.arg (g 2 _ Z)) ?_;clear F a;intro a F;refine gg 3 ?_;clear F a;intro a F
     refine zSp 63 F ?_ ?_<;>(clear F;intro a3 F)
     ·
      refine gg 3 ?_;clear F a;intro a F;refine zLd F (H.arg (g 4 _ Z)) ?_;clear F a;intro a F;refine gg 7 ?_;clear F a;intro a F
      exact⟨U4 (by clear F H p q g;simp_all[UP,UH,Aa,Ai]<;>(intros;omega)),H.below⟩
     refine gg 11 ?_;clear F a;intro a F
     exact⟨U4 (by clear F H p q g;simp_all[UP,UH,Aa,Ai]<;>(intros;omega)),H.below⟩
    refine gg 18 ?_;clear F a;intro a F
    exact⟨U4 (by clear F H p q g;simp_all[UP,UH,Aa,Ai]<;>(intros;omega)),H.below⟩
   refine gg 6 ?_;clear F a;intro a F;refine zi (λS=>?_) λS=>?_
   ·
    refine gg 5 ?_;clear F a;intro a F;refine zLd F (H.arg (g 2 _ Z)) ?_;clear F a;intro a F;refine gg 4 ?_;clear F a;intro a F
    refine zSp 80 F ?_ ?_<;>(clear F;intro a5 F)
    ·
     refine gg 3 ?_;clear F a;intro a F;refine zLd F (H.arg (g 1 _ Z)) ?_;clear F a;intro a F;refine gg 3 ?_;clear F a;intro a F
     refine zSp 87 F ?_ ?_<;>(clear F;intro a7 F)
     ·
      refine gg 3 ?_;clear F a;intro a F;refine zLd F (H.arg (g 4 _ Z)) ?_;clear F a;intro a F;refine gg 7 ?_;clear F a;intro a F
      exact⟨U4 (by clear F H p q g;simp_all[UP,UH,Aa,Ai]<;>(intros;omega)),H.below⟩
     refine gg 11 ?_;clear F a;intro a F
     exact⟨U4 (by clear F H p q g;simp_all[UP,UH,Aa,Ai]<;>(intros;omega)),H.below⟩
    refine gg 18 ?_;clear F a;intro a F
    exact⟨U4 (by clear F H p q g;simp_all[UP,UH,Aa,Ai]<;>(intros;omega)),H.below⟩
   refine gg 7 ?_;clear F a;intro a F;refine zi (λu=>?_) λu=>?_
   ·
    refine gg 2 ?_;clear F a;intro a F;refine zi (λu=>?_) λu=>?_
    ·
     refine gg 5 ?_;clear F a;intro a F
     refine zSp 100 F ?_ ?_<;>(clear F;intro P F)
     ·
      refine gg 8 ?_;clear F a;intro a F;refine cIfT F Z ?_;refine gg 6 ?_;clear F a;intro a F
      exact⟨U4 (by clear F H p q g;simp_all[UP,UH,Aa,Ai]<;>(intros;omega)),H.below⟩
     refine gg 3 ?_;clear F a;intro a F;refine zLd F (H.arg (g 4 _ Z)) ?_;clear F a;intro a F
     refine gg 5 ?_;clear F a;intro a F;refine zi (λB=>?_) λB=>?_
     ·
      refine gg 6 ?_;clear F a;intro a F
      exact⟨U4 (by clear F H p q g;simp_all[UP,UH,Aa,Ai]<;>(intros;omega)),H.below⟩
     refine gg 1 ?_;clear F a;intro a F
     refine⟨_,⟨Z,?_,?_,H⟩,F.tt⟩
     ·simp_all
     ·clear F H p q g;simp_all<;>omega
    refine gg 6 ?_;clear F a;intro a F;refine zi (λD=>?_) λD=>?_
    ·
     refine gg 5 ?_;clear F a;intro a F
     refine zSp 112 F ?_ ?_<;>(clear F;intro N F)
     ·
      refine gg 8 ?_;clear F a;intro a F;refine cIfT F Z ?_;refine gg 6 ?_;clear F a;intro a F
      exact⟨U4 (by clear F H p q g;simp_all[UP,UH,Aa,Ai]<;>(intros;omega)),H.below⟩
     refine gg 3 ?_;clear F a;intro a F;refine zLd F (H.arg (g 4 _ Z)) ?_;clear F a;intro a F
     refine gg 5 ?_;clear F a;intro a F;refine zi (λz=>?_) λz=>?_
     ·
      refine gg 6 ?_;clear F a;intro a F
      exact⟨U4 (by clear F H p q g;simp_all[UP,UH,Aa,Ai]<;>(intros;omega)),H.below⟩
     refine gg 1 ?_;clear F a;intro a F
     refine⟨_,⟨Z,?_,?_,H⟩,F.tt⟩
     ·simp_all
     ·clear F H p q g;simp_all<;>omega
    refine gg 6 ?_;clear F a;intro a F
    exact⟨U4 (by clear F H p q g;simp_all[UP,UH,Aa,Ai]<;>(intros;omega)),H.below⟩
   refine gg 5 ?_;clear F a;intro a F;refine zi (λu=>?_) λu=>?_
   ·
    refine gg 5 ?_;clear F a;intro a F
    refine zSp 100 F ?_ ?_<;>(clear F;intro P F)
    ·
     refine gg 8 ?_;clear F a;intro a F;refine cIfT F Z ?_;refine gg 6 ?_;clear F a;intro a F
     exact⟨U4 (by clear F H p q g;simp_all[UP,UH,Aa,Ai]<;>(intros;omega)),H.below⟩
    refine gg 3 ?_;clear F a;intro a F;refine zLd F (H.arg (g 4 _ Z)) ?_;clear F a;intro a F
    refine gg 5 ?_;clear F a;intro a F;refine zi (λB=>?_) λB=>?_
    ·
     refine gg 6 ?_;clear F a;intro a F
     exact⟨U4 (by clear F H p q g;simp_all[UP,UH,Aa,Ai]<;>(intros;omega)),H.below⟩
    refine gg 1 ?_;clear F a;intro a F
    refine⟨_,⟨Z,?_,?_,H⟩,F.tt⟩
    ·simp_all
    ·clear F H p q g;simp_all<;>omega
   refine gg 6 ?_;clear F a;intro a F;refine zi (λD=>?_) λD=>?_
   ·
    refine gg 5 ?_;clear F a;intro a F
    refine zSp 112 F ?_ ?_<;>(clear F;intro N F)
    ·
     refine gg 8 ?_;clear F a;intro a F;refine cIfT F Z ?_;refine gg 6 ?_;clear F a;intro a F
     exact⟨U4 (by clear F H p q g;simp_all[UP,UH,Aa,Ai]<;>(intros;omega)),H.below⟩
    refine gg 3 ?_;clear F a;intro a F;refine zLd F (H.arg (g 4 _ Z)) ?_;clear F a;intro a F
    refine gg 5 ?_;clear F a;intro a F;refine zi (λz=>?_) λz=>?_
    ·
     refine gg 6 ?_;clear F a;intro a F
     exact⟨U4 (by clear F H p q g;simp_all[UP,UH,Aa,Ai]<;>(intros;omega)),H.below⟩
    refine gg 1 ?_;clear F a;intro a F
    refine⟨_,⟨Z,?_,?_,H⟩,F.tt⟩
    ·simp_all
    ·clear F H p q g;simp_all<;>omega
   refine gg 6 ?_;clear F a;intro a F
   exact⟨U4 (by clear F H p q g;simp_all[UP,UH,Aa,Ai]<;>(intros;omega)),H.below⟩
  clear F H
  intro s a w Q F
  obtain⟨rfl,J,K,H⟩:=Q
  refine gg 6 ?_;clear F a;intro a F;refine zLd F (H.arg (g 4 _ Z)) ?_;clear F a;intro a F;refine gg 4 ?_;clear F a;intro a F
  refine cLoopS [0,1,2,3,124] (λm s w=>∃j:Nat,m=i.length-j/\s=[(125,Ve (j:Int))]/\j<=i.length/\i.all (UP o locs d)=(i.drop j).all (UP o locs d)/\Own w0 none w []) F (i.length) [(125,Ve ((0:Nat):Int))] ?_ ?_
  ·exact⟨0,Z,Z,O,Z,H⟩
  clear F
  clear H
  intro m s a w Q F
  obtain⟨j,rfl,rfl,hj,W,H⟩:=Q
  refine gg 6 ?_;clear F a;intro a F;refine zi (λL=>?_) λL=>?_
  ·
   have a2:j<i.length:=O
   obtain⟨I,hx⟩:∃x,i[j]?=some x:=⟨_,AA a2⟩
   obtain⟨b',M,T,rfl,a1,V⟩:=p j I hx
   refine gg 13 ?_;clear F a;intro a F;refine zLd F (H.arg (g 4 _ Z)) ?_;clear F a;intro a F;refine gg 6 ?_;clear F a;intro a F
   refine zCa F (q O h b' (M+j*5) T I _ (H.argR a1) (CondAt.grown H.grown Z _ _ _ V)) H ?_;clear F a H;intro a w F H
   refine gg 3 ?_;clear F a;intro a F;refine zi (λy=>?_) λy=>?_
   ·
    refine gg 6 ?_;clear F a;intro a F
    exact⟨U4 (by rw[D1 K (by rw[<-hr,J]),W,ET _ hx,y,Hu]),H.below⟩
   refine gg 5 ?_;clear F a;intro a F
   exact⟨i.length-(j+1),O,_,⟨j+1,Z,Z,O,by rw[W,ET _ hx,y,IL],H⟩,F.tt⟩
  refine gg 7 ?_;clear F a;intro a F
  exact⟨U4 (by rw[D1 K (by rw[<-hr,J]),W,Fh O];rfl),H.below⟩
theorem XmS(b locs:Int)(h:Nat)(cs:List Value)(c:Cnd)(w0:World)(d:CondAt w0 h cs c):
 Va 31 #[.agg cs.toArray,Ve b,Ve locs] w0 (.bool (UP b locs 20 c)):=by
 refine Vb func31 ntmps31 λH a F=>?_
 refine gg 2 λa F=>?_
 refine zBx H F λg a w F H=>?_
 refine gg 6 λa F=>?_
 refine zCa F (XaG b locs 20 O h g 0 cs c _ (H.whole 0 Z) (CondAt.grown H.grown Z _ _ _ d)) H λa w F H=>?_
 refine gg 4 λa F=>?_
 exact⟨Z,H.below⟩
end
section
def StrsAt(w:World)(A:Option Addr)(l:List ByteArray):Prop:=RowsAt w A 1 (l.map λs=>[.string s])
theorem StrsAt.get{l:List ByteArray}(h:StrsAt w A l){s:ByteArray}(d:l[j]?=some s):∃b c,A=some ⟨b,c,none⟩/\w.cell? ⟨b,c+j*1,none⟩=some (.string s):=by
 obtain⟨b,c,g,e⟩:=h j [.string s] (by rw[AD,d];rfl)
 exact⟨b,c,g,by have:=e 0 _ Z;rwa [FF]at this⟩
def Bp(s:ByteArray):List ByteArray->Nat->Option Nat
 | [],_=>none
 |x::r,k=>if s.toList==x.toList then some k else Bp s r (k+1)
theorem Xfl{s x:ByteArray}{l:List ByteArray}(b:l[j]?=some x):Bp s (l.drop j) j=if s.toList==x.toList then some j else Bp s (l.drop (j+1)) (j+1):=by
 obtain⟨c,rfl⟩:=AB.1 b
 rw[FA c]
 rfl
def idxI(o:Option Nat):Int:=match o with|some k=>k|none=>-1
theorem XjE(A:Option Addr)(C:Nat)(l:List ByteArray)(s:ByteArray)(w0:World)(q:StrsAt w0 A l)(v:l.length<=9223372036854775807):
 Va 96 #[.slice A l.length C,.string s] w0 (Ve (idxI (Bp s l 0))):=by
 refine Vb func96 ntmps96 λH a F=>?_
 refine gg 12 λa F=>?_
 refine cLoopS [0,1,7] (λm d w=>∃j:Nat,m=l.length-j/\d=[(8,Ve (j:Int))]/\j<=l.length/\Bp s l 0=Bp s (l.drop j) j/\Own w0 none w []) F (l.length) [(8,Ve ((0:Nat):Int))] ?_ ?_
 ·exact⟨0,Z,Z,AU _,Z,H⟩
 clear F H;intro m d a w t F
 obtain⟨j,rfl,rfl,u,i,H⟩:=t
 refine gg 6 λa F=>zi (λr=>?_) λr=>?_
 ·
  have n:j<l.length:=O
  obtain⟨x,g⟩:∃x,l[j]?=some x:=⟨_,AA n⟩
  obtain⟨b,o,rfl,y⟩:=q.get g
  refine gg 15 λa F=>?_
  refine Xh F Z Z Xn5 λa F=>?_
  refine gg 2 λa F=>zi (λc=>?_) λc=>?_
  ·
   refine gg 7 λa F=>?_
   exact⟨by rw[i,Xfl g,if_pos (by simpa using c)];rfl,H.below⟩
  refine gg 5 λa F=>?_
  exact⟨l.length-(j+1),O,_,⟨j+1,Z,Z,O,by rw[i,Xfl g,if_neg (by simpa using c)],H⟩,F.tt⟩
 refine gg 7 λa F=>?_
 exact⟨by rw[i,Fh O];rfl,H.below⟩
theorem Xcp(A:Option Addr)(C:Nat)(l:List ByteArray)(s:ByteArray)(w0:World)(d:StrsAt w0 A l)(b:l.length<=9223372036854775807):
 Va 52 #[.slice A l.length C,.string s] w0 (.bool (Bp s l 0).isSome):=by
 refine Vb func52 ntmps52 λH a F=>?_
 refine gg 8 λa F=>?_
 refine zCa F (XjE A C l s _ d b) H λa w F H=>?_
 refine gg 5 λa F=>?_
 exact⟨U4 (by cases Bp s l 0<;>simp[idxI]),H.below⟩
end
section
structure Prg where
 name:ByteArray
 locs:List ByteArray
 init:List UInt8
 threads:List (List Ins)
 ask:UInt8
 cond:Cnd
def ThreadsAt(w:World)(A:Option Addr)(l:List (List Ins)):Prop:=∀(j:Nat)(t:List Ins),l[j]?=some t->∃b c B C,A=some ⟨b,c,none⟩/\w.cell? ⟨b,c+j*1,none⟩=some (.slice B t.length C)/\RowsAt w B 10 (t.map Ins.cells)/\t.length<=9223372036854775807
structure ProgIn (w:World) (cs:List Value) (p:Prg) (LA:Option Addr) (LC:Nat) (IA:Option Addr) (IC:Nat) (TA:Option Addr) (TC h:Nat) (ccs:List Value):Prop where
 cs:cs=[.string p.name,.slice LA p.locs.length LC,.slice IA p.init.length IC,.slice TA p.threads.length TC,b8 p.ask]++ccs
 name:p.name.size<=maxLen
 locs:StrsAt w LA p.locs
 locsN:p.locs.length<=9223372036854775807
 locsC:p.locs.length<=LC
 locsS:∀s∈p.locs,s.size<=maxLen
 init:RowsAt w IA 1 (p.init.map λx=>[b8 x])
 initN:p.init.length<=9223372036854775807
 threads:ThreadsAt w TA p.threads
 threadsN:p.threads.length<=9223372036854775807
 cond:CondAt w h ccs p.cond
def ProgAt(w:World)(cs:List Value)(p:Prg):Prop:=∃c e g j d i h b,ProgIn w cs p c e g j d i h b
theorem RowsAt.own{e:Nat}{c:List (List Value)}(h:RowsAt w0 A e c)(H:Own w0 none w rs):RowsAt w A e c:=λj cs g=>by
 obtain⟨b,d,m,i⟩:=h j cs g
 exact⟨b,d,m,H.argR i⟩
theorem ThreadsAt.own{l:List (List Ins)}(h:ThreadsAt w0 A l)(H:Own w0 none w rs):ThreadsAt w A l:=λj t d=>by
 obtain⟨b,c,B,C,m,g,e,i⟩:=h j t d
 exact⟨b,c,B,C,m,H.arg g,e.own H,i⟩
theorem ProgIn.own{p:Prg}{d i e:Option Addr}{g m j h:Nat}{c:List Value}(b:ProgIn w0 cs p d g i m e j h c)(H:Own w0 none w rs):ProgIn w cs p d g i m e j h c:=
 ⟨b.cs,b.name,RowsAt.own b.locs H,b.locsN,b.locsC,b.locsS,RowsAt.own b.init H,b.initN,b.threads.own H,b.threadsN,CondAt.grown H.grown Z _ _ _ b.cond⟩
theorem ProgAt.own{p:Prg}(h:ProgAt w0 cs p)(H:Own w0 none w rs):ProgAt w cs p:=by
 obtain⟨c,g,i,m,e,j,h,b,d⟩:=h
 exact⟨c,g,i,m,e,j,h,b,d.own H⟩
theorem Uk{w:World}:∀{h:Nat}{cs:List Value}{c:Cnd},CondAt w h cs c->cs.length=5
 |0,_,_,h=>h.elim
 |_+1,cs,.mk _ _ _ _ _,h=>by obtain⟨A,C,rfl,_⟩:=h;rfl
theorem Xa2:∀{l:List Value},l.length=5->∃a b c d e,l=[a,b,c,d,e]
 | [a,b,c,d,e],_=>⟨a,b,c,d,e,Z⟩
theorem ProgAt.len10{p:Prg}(h:ProgAt w cs p):∃e o n m j q g d8 r c,cs=[e,o,n,m,j,q,g,d8,r,c]:=by
 obtain⟨s,y,C,E,A,D,h,i,d⟩:=h
 obtain⟨z,t,u,B,v,rfl⟩:=Xa2 (Uk d.cond)
 have b:=d.cs
 subst b
 exact⟨_,_,_,_,_,_,_,_,_,_,Z⟩
def Gi(p:Prg):Bool:=decide (1<=p.threads.length)&&decide (p.threads.length<=4)&&p.threads.all (λl=>decide (l.length<=12))
def J7(p:Prg):Bool:=p.threads.all (Ua p.locs.length)
def Xeg(p:Prg):Bool:=p.ask==1||p.ask==2||p.ask==3
end
section
structure PvAt (w:World) (V B:Nat) (cs:List Value) (p:Prg):Prop where
 var:w.rangeAt V 0 [.pointer (some ⟨B,0,none⟩)]
 blk:w.rangeAt B 0 cs
 prg:ProgAt w cs p
theorem PvAt.own{V B:Nat}{p:Prg}(h:PvAt w0 V B cs p)(H:Own w0 none w rs):PvAt w V B cs p:=⟨H.argR h.var,H.argR h.blk,h.prg.own H⟩
def Xp1(P:Program)(f:List Ins->Bool)(b:Value)(w0:World):Prop:=∀(w:World)(rs:List Res)(A:Option Addr)(C:Nat)(l:List Ins),Own w0 none w rs->RowsAt w A 10 (l.map Ins.cells)->l.length<=9223372036854775807 ->
 JL P b [.slice A l.length C] w (λe c=>e=.returned (.bool (f l))/\Below w.heap.size w c)
theorem Xcb(f:List Ins->Bool)(u:Value)(V B:Nat)(cs:List Value)(p:Prg)(w0:World)(G:PvAt w0 V B cs p)(y:Xp1 prog f u w0):
 Calls prog 19 #[u,Vc V 0] w0 λe I=>e=.returned (.bool (p.threads.all f))/\Below w0.heap.size w0 I:=by
 obtain⟨L,N,Q,R,T,W,M,U,h,v,q⟩:=G
 have g:=q.cs
 subst g
 have H:=Own.start w0 none
 have P:=q.threadsN
 refine VU func19 Z ntmps19 Z (λa F=>?_)
 refine gg 15 λa F=>?_
 refine cLoopS [0,9,10] (λm d w=>∃j:Nat,m=p.threads.length-j/\d=[(11,Ve (j:Int))]/\j<=p.threads.length/\p.threads.all f=(p.threads.drop j).all f/\Own w0 none w []) F (p.threads.length) [(11,Ve ((0:Nat):Int))] ?_ ?_
 ·exact⟨0,Z,Z,AU _,Z,H⟩
 clear F H;intro m d a w J F
 obtain⟨j,rfl,rfl,K,n,H⟩:=J
 refine gg 6 λa F=>zi (λi=>?_) λi=>?_
 ·
  have r:j<p.threads.length:=O
  obtain⟨t,o⟩:∃x,p.threads[j]?=some x:=⟨_,AA r⟩
  obtain⟨b,C,A,D,rfl,S,E,z⟩:=q.threads j t o
  refine gg 13 λa F=>?_
  refine NL F Z Z Z Z (y _ _ A D t H (RowsAt.own E H) z) ?_;rintro e w ⟨rfl,s⟩;replace H:=H.grow s;clear s
  refine zq λa F=>?_
  refine gg 3 λa F=>zi (λc=>?_) λc=>?_
  ·
   refine gg 6 λa F=>?_
   exact⟨U4 (by rw[n,ET _ o,c,Hu]),H.below⟩
  refine gg 5 λa F=>?_
  exact⟨p.threads.length-(j+1),O,_,⟨j+1,Z,Z,O,by rw[n,ET _ o,c,IL],H⟩,F.tt⟩
 refine gg 7 λa F=>?_
 exact⟨U4 (by rw[n,Fh O];rfl),H.below⟩
theorem Xic(w0:World):Xp1 prog (λl=>decide (l.length<=12)) (.func (.func 25) #[] #[]) w0:=by
 intro w0 _ A C l _ _ b
 refine⟨_,[],[],Z,call25,?_⟩
 have H:=Own.start w0 none
 refine VU func25 Z ntmps25 Z (λa F=>?_)
 refine gg 13 λa F=>?_
 exact⟨U4 (by rw[HE];simp;omega),H.below⟩
theorem Xix(V B:Nat)(cs:List Value)(p:Prg)(w0:World)(g:PvAt w0 V B cs p)(b:NeedsAt w0):Xp1 prog (Ua p.locs.length) (.func (.func 27) #[] #[Vc V 0]) w0:=by
 intro e _ A C l c j i
 refine⟨_,[],[Vc V 0],Z,call27,?_⟩
 replace g:=g.own c
 replace b:=b.own c
 clear c w0
 obtain⟨w0,rfl⟩:∃w0,w0=e:=⟨_,Z⟩
 obtain⟨r,v,o,s,u,y,t,q,h,m,n⟩:=g
 have d:=n.cs
 subst d
 have H:=Own.start w0 none
 refine VU func27 Z ntmps27 Z (λa F=>?_)
 refine gg 12 λa F=>?_
 refine zCa F (BK A C l p.locs.length _ (RowsAt.own j H) (b.own H) i) H λa w F H=>?_
 refine gg 4 λa F=>?_
 exact⟨Z,H.below⟩
theorem Xd6(E V B:Nat)(cs:List Value)(p:Prg)(w0:World)(i:PvAt w0 V B cs p)(r:w0.rangeAt E 0 [.func (.func 19) #[] #[Vc V 0]]):
 Calls prog 24 #[Vc V 0,Vc E 0] w0 λe o=>e=.returned (.bool (Gi p))/\Below w0.heap.size w0 o:=by
 have b:=i
 obtain⟨t,d,q,u,z,A,v,s,h,m,n⟩:=i
 have c:=n.cs
 subst c
 have H:=Own.start w0 none
 refine VU func24 Z ntmps24 Z (λa F=>?_)
 refine gg 13 λa F=>?_
 refine zSp 9 F (λy F=>?_) λy F=>?_
 ·
  refine gg 8 λa F=>?_
  refine zSp 17 F (λj F=>?_) λj F=>?_
  ·
   refine gg 1 λa F=>?_
   refine Xbn F Z Z Z call19 Z (Xcb _ _ V B _ p _ (b.own H) (Xic _)) ?_;rintro e w ⟨rfl,g⟩;replace H:=H.grow g;clear g
   refine zq λa F=>?_
   refine gg 5 λa F=>?_
   exact⟨U4 (by clear F b d;simp_all[Gi]<;>(intros;omega)),H.below⟩
  refine gg 7 λa F=>?_
  exact⟨U4 (by clear F b d;simp_all[Gi]<;>(intros;omega)),H.below⟩
 refine gg 15 λa F=>?_
 exact⟨U4 (by clear F b d;simp_all[Gi]<;>(intros;omega)),H.below⟩
theorem Xd5(E V B:Nat)(cs:List Value)(p:Prg)(w0:World)(c:PvAt w0 V B cs p)(d:NeedsAt w0)(i:w0.rangeAt E 0 [.func (.func 19) #[] #[Vc V 0]]):
 Va 26 #[Vc E 0,Vc V 0] w0 (.bool (J7 p)):=by
 refine Vb func26 ntmps26 λH a F=>?_
 refine gg 8 λa F=>?_
 refine Xbn F Z Z Z call19 Z (Xcb _ _ V B _ p _ (c.own H) (Xix V B cs p _ (c.own H) (d.own H))) ?_;rintro e w ⟨rfl,b⟩;replace H:=H.grow b;clear b
 refine zq λa F=>?_
 refine gg 4 λa F=>?_
 exact⟨Z,H.below⟩
theorem Xd4(V B:Nat)(cs:List Value)(p:Prg)(w0:World)(j:PvAt w0 V B cs p):
 Calls prog 29 #[Vc V 0] w0 λe m=>e=.returned (.bool (Xeg p))/\Below w0.heap.size w0 m:=by
 obtain⟨q,c,n,r,u,v,s,o,h,g,i⟩:=j
 have b:=i.cs
 subst b
 have H:=Own.start w0 none
 refine VU func29 Z ntmps29 Z (λa F=>?_)
 refine gg 12 λa F=>?_
 refine zSp 7 F (λt F=>?_) λt F=>?_
 ·
  refine gg 17 λa F=>?_
  exact⟨U4 (by clear F c;simp_all[Xeg]),H.below⟩
 refine gg 7 λa F=>?_
 refine zSp 14 F (λd F=>?_) λd F=>?_
 ·
  refine gg 10 λa F=>?_
  exact⟨U4 (by clear F c;simp_all[Xeg]),H.below⟩
 refine gg 10 λa F=>?_
 exact⟨U4 (by clear F c;simp_all[Xeg]),H.below⟩
set_option maxRecDepth 10000 in
theorem Xd3(V B:Nat)(cs:List Value)(p:Prg)(w0:World)(s:PvAt w0 V B cs p):
 Calls prog 30 #[Vc V 0] w0 λe u=>e=.returned (.bool (UP p.threads.length p.locs.length 20 p.cond))/\Below w0.heap.size w0 u:=by
 obtain⟨b,g,v,z,C,D,A,y,h,q,d⟩:=s
 have c:=d.cs
 subst c
 obtain⟨r,o,n,m,t,rfl⟩:=Xa2 (Uk d.cond)
 have H:=Own.start w0 none
 refine VU func30 Z ntmps30 Z (λa F=>?_)
 refine gg 5 λa F=>?_
 refine D8 Y H ?_;replace H:=H.drew;refine Xj F Z (λw H=>rLd isAgg47 F Z (H.arg (b 0 _ Z))) H qq0 (Xk Z (λa F w H=>rNc F Z) H qq0 (Xk Z (λa F w H=>rFa (f:=5) (k:=5) XJ Z sizeOf27 Z Z F Z) H qq0 λa F=>?_))
 refine Xj (k:=3) F Z (λw H=>rLr underlying27 Z ?si F Z (H.argR (Xnm g 5 5))) H (λ_ _ _ h=>h) ?_
 case si=>exact VT sizeOf27
 clear F a;intro a F;refine Xj F Z (λw H=>rLd isAgg47 F Z (H.arg (b 0 _ Z))) H qq0 (Xk Z (λa F w H=>rNc F Z) H qq0 (Xk Z (λa F w H=>rFa (f:=3) (k:=3) XJ Z sizeOf24 Z Z F Z) H qq0 (Xk Z (λa F w H=>rLd isAgg24 F Z (H.arg (g 3 _ Z))) H qq0 (Xk Z (λa F w H=>Xns underlying24 F Z) H qq0 (Xk Z (λa F w H=>rLd isAgg47 F Z (H.arg (b 0 _ Z))) H qq0 (Xk Z (λa F w H=>rNc F Z) H qq0 (Xk Z (λa F w H=>rFa (f:=1) (k:=1) XJ Z sizeOf22 Z Z F Z) H qq0 (Xk Z (λa F w H=>rLd isAgg22 F Z (H.arg (g 1 _ Z))) H qq0 (Xk Z (λa F w H=>Xns X0 F Z) H qq0 λa F=>?_)))))))));refine dOne (k:=14) Y F Z (UK call31 F Z Z (XmS _ _ h [r,o,n,m,t] p.cond _ (CondAt.grown H.grown Z _ _ _ d.cond)) ?_);rintro e w ⟨rfl,i⟩;replace H:=H.grow i;clear i
 refine zq λa F=>?_
 refine Xkh (j:=14) Z Y Y H ?_;refine Xj F Z (λw H=>rAs F Z) H qq0 λa F=>?_
 refine Xhg (k:=16) ?_ Z
 refine gg 2 λa F=>?_
 exact⟨Z,H.below⟩
end
end Go.Proofs.YtajfpcgbnflceaaGreatDoor
