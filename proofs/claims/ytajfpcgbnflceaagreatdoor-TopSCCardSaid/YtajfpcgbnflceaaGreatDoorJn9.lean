/- WALK2. slices.Contains at ints; package cand: odometer and what its iterator does. Conditions: the sizes lie in memory. -/
import Derived.Test.YtajfpcgbnflceaaGreatDoorJn8
set_option linter.unusedSimpArgs false
set_option linter.unusedVariables false
namespace Go.Proofs.YtajfpcgbnflceaaGreatDoor
open Go.Proofs.Tryz
open Go.RowKit
set_option maxRecDepth 100000
set_option maxHeartbeats 4000000
variable{b d f i j k n x y:Nat}{l:List Nat}{w:World}
theorem XgN(A:Option Addr)(C:Nat)(l:List Nat)(w0:World)(u:RowsAt w0 A 1 (Uo l))(D:l.length<=9223372036854775807):
 Calls prog 170 #[.slice A l.length C,Ve 0] w0 λe t=>∃k:Int,e=.returned (Ve k)/\(0<=k↔0∈l)/\Below w0.heap.size w0 t:=by
 refine Vb func170 ntmps170 λH a F=>?_
 refine gg 12 λa F=>?_
 refine cLoopS [0,1,7] (λm c w=>∃j:Nat,m=l.length-j/\c=[(8,Ve ((j:Nat):Int))]/\j<=l.length/\(∀i x,i<j->l[i]?=some x->x≠0)/\Own w0 none w []) F (l.length) [(8,Ve ((0:Nat):Int))] ?_ ?_
 ·exact⟨0,Z,Z,O,λi x h=>absurd h O,H⟩
 clear F H;intro m c a w z F
 obtain⟨j,rfl,rfl,B,d,H⟩:=z
 refine gg 6 λa F=>zi (λv=>?_) λv=>?_
 ·
  have r:j<l.length:=O
  obtain⟨x,g⟩:∃x,l[j]?=some x:=⟨_,AA r⟩
  obtain⟨b,o,rfl,s⟩:=u j _ (UQ g)
  refine gg 14 λa F=>?_
  refine zLd F (H.arg (s 0 _ Z)) λa F=>?_
  refine gg 3 λa F=>zi (λn=>?_) λn=>?_
  ·
   refine gg 7 λa F=>?_
   (refine⟨(j:Int),Z,⟨λ_=>?_,λ_=>O⟩,H.below⟩
    have:x=0:=O
    subst this
    exact AF g)
  refine gg 5 λa F=>?_
  refine⟨_,O,_,⟨j+1,Z,Z,O,λi y p q=>?_,H⟩,F.tt⟩
  by_cases e:i=j
  ·subst e;rw[g]at q;cases q;omega
  ·exact d i y O q
 refine gg 7 λa F=>?_
 (refine⟨-1,Z,⟨λh=>absurd h (by decide),λh=>?_⟩,H.below⟩
  obtain⟨i,p⟩:=Af.1 h
  have:=(AB.1 p).1
  exact absurd Z (d i 0 O p))
theorem XaF(A:Option Addr)(C:Nat)(l:List Nat)(w0:World)(i:RowsAt w0 A 1 (Uo l))(c:l.length<=9223372036854775807):
 Va 114 #[.slice A l.length C,Ve 0] w0 (.bool (decide (0∈l))):=by
 refine Vb func114 ntmps114 λH a F=>?_
 refine gg 8 λa F=>?_
 refine Xi call170 F Z (XgN A C l _ (i.own H) c) ?_;rintro e w ⟨k,rfl,d,b⟩;replace H:=H.grow b;clear b
 refine zq λa F=>?_
 refine gg 5 λa F=>?_
 exact⟨by rw[show decide (0∈l)=decide (0<=k)from decide_eq_decide.2 d.symm],H.below⟩
theorem Xll{o:Nat}(h:RowsAt w (some ⟨b,o,none⟩) 1 (Uo l))(c:l[j]?=some x):w.cell? ⟨b,o+j*1,none⟩=some (Ve (x:Int)):=by
 obtain⟨i,g,d,e⟩:=h j _ (UQ c)
 cases d
 exact e 0 _ Z
theorem N4(h:l[i]?=some x):(Ji l)[0+i*1]?=some (Ve (x:Int)):=by
 rw[As,FZ];unfold Ji;rw[AD,h];rfl
theorem Xfc:(Ji l).set (0+i*1) (Ve (x:Int))=Ji (l.set i x):=by
 rw[As,FZ];unfold Ji;rw[List.map_set]
theorem Xgw(n:Nat):List.replicate n (Ve 0)=Ji (UY n):=by unfold Ji UY;rw[List.map_replicate];rfl
theorem XfD{x:List Nat}(h:x[i]?=some d):(x.take (i+1)++UY n)[i]?=some d:=by
 have b:=(AB.1 h).1
 rw[AP (by rw[Aj];omega),F7 O]
 exact h
theorem Xkg{x:List Nat}{v:Nat}(h:x[i]?=some d):(x.take (i+1)++UY n).set i v=x.take i++v::UY n:=by
 have b:=(AB.1 h).1
 rw[At,h,FW,AO,HM _ _ (by rw[Aj];omega)]
 have e:i-(x.take i).length=0:=by rw[Aj];omega
 rw[e];rfl
theorem MX{x:List Nat}(h:x[i]?=some d):x.drop i=d::x.drop (i+1):=by
 obtain⟨b,rfl⟩:=AB.1 h
 exact FA b
theorem L7(A:Option Addr)(n C:Nat)(w0:World):
 Calls prog 59 #[.slice A n C] w0 λe c=>∃b,e=.returned (.func (.func 113) #[] #[Vc b 0])/\Own w0 none c [.blk b [.slice A n C] 70]:=by
 refine Vb func59 ntmps59 λH a F=>?_
 refine gg 2 λa F=>?_
 refine zBx H F λb a w F H=>?_
 refine gg 9 λa F=>?_
 exact⟨_,Z,H⟩
namespace Md
theorem odo_iter(S:List Nat)(A:Option Addr)(C:Nat)(w0:World)(hn:S.length<=1000)(K:∀s∈S,s<=1000000)(q:List Res)(T:Nat)(hb:∀w,Own w0 none w q->w.cell? ⟨T,0,none⟩=some (.slice A S.length C))(R:∀w,Own w0 none w q->RowsAt w A 1 (Uo S)):
 Xp2 prog 113 #[Vc T 0] OrdY (JA S) w0 q:=by
 intro lp J Jx w1 U H hJ hY
 refine callsIn_wide.2 ?_
 show Calls prog 113 #[.func (.yield lp) #[] #[],Vc T 0] w1 _
 refine VU func113 Z ntmps113 Z (λa F=>?_);refine Xp4 F ?_;refine gg 3 ?_;clear F a;intro a F;refine zLd F (hb _ H.suf) ?_;clear F a;intro a F
 refine zCa F (XaF A C S _ (R _ H.suf) O) H ?_;clear F a H;intro a w F H
 refine gg 1 ?_;clear F a;intro a F
 refine cIf F Z (λP=>?_) (λP=>?_)
 ·
  have M:0∈S:=of_decide_eq_true P
  refine gg 1 ?_;clear F a;intro a F;refine bEndR results113 F ?_
  refine⟨⟨_,Z⟩,?_⟩
  exact⟨U,H,.inl (by rw[EE S M];exact hJ)⟩
 have M:0∉S:=of_decide_eq_false P
 refine gg 3 ?_;clear F a;intro a F;refine zLd F (hb _ H.suf) ?_;clear F a;intro a F;refine gg 1 ?_;clear F a;intro a F;refine sMk (z:=Ve 0) (bytes:=8) H underlying70 Y Z F Z Z Z Z O O ?_;clear F a H;intro r a w F H;refine gg 2 ?_;clear F a;intro a F
 replace H:Own w0 none w (.blk r (Ji (UY S.length)) 3::(U++q)):=by rw[<-Xgw];exact H
 refine gg 1 ?_;clear F a;intro a F
 refine cLoopR [0,1,3] (λm p w=>∃(pre:List (List Nat)) (x:List Nat) (t:List Res),m=(Bw S x).length/\p=[]/\pre++x::Bw S x=JA S/\J pre t/\Own w0 none w (.blk r (Ji x) 3::(t++q))) F ((Bw S (UY S.length)).length) [] (by repeat(first|exact SubR.nil|(apply SubR.cons;· rfl))) ?_ ?_ ?_
 ·exact⟨[],_,U,Z,Z,(MG S M).symm,hJ,H⟩
 ·repeat(exact trivial)
 clear F
 clear H
 intro m p a w hI F
 obtain⟨pre,x,t,rfl,rfl,j,W,H⟩:=hI
 have L:x∈JA S:=by rw[<-j];simp
 obtain⟨I,X⟩:=mem_odo.1 L
 have G:pre++[x] <+: JA S:=by rw[<-j];exact⟨Bw S x,by simp⟩
 refine gg 2 ?_;clear F a;intro a F;refine wpIn_region_lit ?_;refine iV F Z Z Z (λc h=>by cases h) (rMv F Z) ?_;clear F a;intro a F;refine iV F Z Z Z (λc h=>by cases h) (rMv F Z) ?_;clear F a;intro a F;refine iY F Z Z Z Z (hY pre x [Vd r 0 S.length S.length] [.blk r (Ji x) 3] _ t q W G ⟨r,by rw[I],Z⟩ H) ?_;rintro e w ⟨g,H2,hc⟩
 obtain⟨N,rfl,n⟩:∃N:Bool,e=.returned (.bool N)/\((N=true/\J (pre++[x]) g)\/(N=false/\Jx (pre++[x]) g)):=by
  rcases hc with⟨v,B⟩|⟨v,B⟩
  ·exact⟨_,v,.inl ⟨Z,B⟩⟩
  ·exact⟨_,v,.inr ⟨Z,B⟩⟩
 refine⟨_,Z,?_⟩
 replace H:Own w0 none w (.blk r (Ji x) 3::(g++q)):=H2
 clear H2
 clear F a;intro a F;refine iNil ?_;refine gg 0 ?_;clear F a;intro a F
 refine cIf F Z (λo=>?_) (λo=>?_)
 ·
  replace n:J (pre++[x]) g:=by
   rcases n with⟨_,B⟩|⟨v,_⟩
   ·exact B
   ·rw[v]at o;cases o
  refine gg 6 ?_;clear F a;intro a F
  refine Xh F Z Z (Mf ?_) ?_
  focus omega
  clear F a;intro a F;refine gg 4 ?_;clear F a;intro a F
  refine cLoopS [0,1,3] (λm p w=>∃(i:Int)(k:Nat),m=k/\p=[(4,Ve i)]/\i+1=(k:Int)/\k<=S.length/\XlX (S.drop k) (x.drop k)/\Own w0 none w (.blk r (Ji (x.take k++UY (S.length-k))) 3::(g++q))) F (S.length) [(4,Ve ((S.length:Int)-1))] ?_ ?_
  ·refine⟨_,S.length,Z,Z,O,O,?_,?_⟩
   ·rw[List.drop_length,<-I,List.drop_length];trivial
   ·rw[Ih,FD O]
    simpa[UY]using H
  clear F
  clear H
  intro m p a w hI F
  obtain⟨i,k,rfl,rfl,a5,hk,u,H⟩:=hI
  refine gg 2 ?_;clear F a;intro a F;refine cRegRO Y H ?_;replace H:=H.drew;refine gg 3 ?_;clear F a;intro a F
  refine zSp 18 F ?_ ?_<;>(clear F;intro a4 F)
  ·
   obtain⟨b,rfl⟩:∃b:Nat,i=(b:Int):=⟨i.toNat,O⟩
   obtain rfl:m=b+1:=O
   obtain⟨d,hd⟩:∃d,x[b]?=some d:=⟨_,AA O⟩
   obtain⟨z,E⟩:∃z,S[b]?=some z:=⟨_,AA O⟩
   have a2:=K z (AF E)
   have a3:=X b d z hd E
   obtain⟨bS,oS,rfl,a1⟩:=R _ H.tail.suf b _ (UQ E)
   refine gg 3 ?_;clear F a;intro a F;refine Xe 6 Z F Z Z (λw H=>rLd isAgg3 F Z (H.cell 0 Z (N4 (XfD hd)))) H qq0 (qT 7 Z Y Z Z Z Z (λa F w H=>rLd isAgg70 F Z (hb _ H.tail.suf)) H qq0 ?_);clear F a;intro a F;refine gg 2 ?_;clear F a;intro a F;refine Xe 10 Z F Z Z (λw H=>rLd isAgg3 F Z (Xll (R _ H.tail.suf) E)) H qq0 ?_;clear F a;intro a F
   refine Xf (k:=11) (i:=11) Z F Z (λw=>Gt F Z Z (Mf ?_)) H (λ_ _ _ h=>h) ?_
   focus omega
   clear F a;intro a F
   refine gg 4 ?_;clear F a;intro a F;refine zi (λV=>?_) λV=>?_
   ·
    have D:d+1=z:=O
    refine gg 7 ?_;clear F a;intro a F;refine sSt H 0 sizeOf3 F Z Z Z Z Z (N4 (XfD hd)) ?_;clear H;intro w H;refine gg 1 ?_;clear F a;intro a F
    replace H:Own w0 none w (.blk r ((Ji (x.take (b+1)++UY (S.length-(b+1)))).set (0+b*1) (Ve ((0:Nat):Int))) 3::(g++q)):=H
    rw[Xfc,Xkg hd]at H;refine gg 2 ?_;clear F a;intro a F
    refine Xh F Z Z (Mf ?_) ?_
    focus omega
    clear F a;intro a F;refine gg 2 ?_;clear F a;intro a F
    refine⟨_,Fc _,_,⟨(b:Int)-1,b,Z,Z,O,O,?_,?_⟩,F.toD (by repeat(first|exact trivial|refine Le.cons rfl ?_))⟩
    ·rw[MX hd,MX E];exact⟨D,u⟩
    ·have e:0::UY (S.length-(b+1))=UY (S.length-b):=by rw[show S.length-b=S.length-(b+1)+1 by omega];rfl
     rw[e]at H;exact H
   have D:d+1<z:=O
   refine gg 8 ?_;clear F a;intro a F;refine zi (λy=>?_) λy=>?_
   ·
    omega
   refine gg 5 ?_;clear F a;intro a F;refine zLd F (H.cell 0 Z (N4 (XfD hd))) ?_;clear F a;intro a F;refine gg 2 ?_;clear F a;intro a F;refine sSt H 0 sizeOf3 F Z Z Z Z Z (N4 (XfD hd)) ?_;clear H;intro w H;refine gg 1 ?_;clear F a;intro a F
   replace H:Own w0 none w (.blk r ((Ji (x.take (b+1)++UY (S.length-(b+1)))).set (0+b*1) (Ve ((d+1:Nat):Int))) 3::(g++q)):=H
   rw[Xfc,Xkg hd]at H
   have e1:S=S.take b++z::S.drop (b+1):=by rw[<-MX E,FL]
   have e2:x=x.take b++d::x.drop (b+1):=by rw[<-MX hd,FL]
   have Q:=XfR (S.take b) (x.take b) z d (S.drop (b+1)) (x.drop (b+1)) (by simp;omega) u D (λh=>M (List.mem_of_mem_drop h))
   rw[<-e1,<-e2,Fm]at Q
   exact⟨_,by rw[Q];exact Fc _,_,⟨pre++[x],_,g,Z,Z,by rw[<-j,Q];simp,n,H⟩,F.toD (by repeat(first|exact trivial|refine Le.cons rfl ?_))⟩
  refine gg 12 ?_;clear F a;intro a F;refine cIfF F Z ?_
  refine gg 8 ?_;clear F a;intro a F;refine zi (λy=>?_) λy=>?_
  ·
   refine gg 1 ?_;clear F a;intro a F;refine bEndR results113 F ?_
   refine⟨⟨_,Z⟩,?_⟩
   (obtain rfl:m=0:=O
    rw[Bg S x u]at j
    exact⟨g,H.tail,.inl (by rw[<-j];exact n)⟩)
  omega
 replace n:Jx (pre++[x]) g:=by
  rcases n with⟨v,_⟩|⟨_,B⟩
  ·rw[v]at o;cases o
  ·exact B
 refine gg 1 ?_;clear F a;intro a F;refine bEnd results113 F ?_
 refine⟨⟨_,Z⟩,?_⟩
 exact⟨g,H.tail,.inr ⟨_,G,n⟩⟩
end Md
structure EvT where
 thr:Int
 ev:Ev
def EvT.cells(e:EvT):List Value:=.int .i64 e.thr::e.ev.cells.tail
theorem Xq2{q r:Rl}(b:q.n=r.n)(h:∀x y,q.has x y=r.has x y):q.cells=r.cells:=by
 have:q.to=r.to:=funext λx=>Q8 λy _=>h x y
 unfold Rl.cells;rw[b,this]
def poB(l:List EvT)(x y:Nat):Bool:=decide (x<y)&&(match l[x]?,l[y]? with|some e,some f=>e.thr != -1&&f.thr==e.thr|_,_=>false)
def poR(l:List EvT):Rl:=⟨l.length,λx=>ofW ((List.range l.length).filter λy=>poB l x y)⟩
theorem XeT{l:List EvT}(h:poB l x y=true):x<y/\y<l.length:=by
 unfold poB at h
 rw[AJ]at h
 refine⟨of_decide_eq_true h.1,?_⟩
 rcases AN y l.length with h1|h1
 ·exact h1
 ·have b:=h.2
  rw[AV h1]at b
  cases e:l[x]?<;>rw[e]at b<;>cases b
theorem Xbv{l:List EvT}(b:l.length<=48)(x y:Nat):(poR l).has x y=poB l x y:=by
 show has (ofW _) y=_
 rw[XdP (λi c=>by have:=Ab.1 (Az.1 c).1;omega)]
 cases e:poB l x y with
 |true=>exact decide_eq_true (Az.2 ⟨Ab.2 (XeT e).2,e⟩)
 |false=>exact decide_eq_false λh=>by have:=(Az.1 h).2;rw[e]at this;cases this
theorem Xnv{l:List EvT}{e f:EvT}(b:l[x]?=some e)(c:l[y]?=some f):poB l x y=(decide (x<y)&&(e.thr != -1&&f.thr==e.thr)):=by unfold poB;rw[b,c]
theorem XrW{o:Nat}{l:List EvT}{f:EvT}(h:RowsAt w (some ⟨b,o,none⟩) 7 (l.map EvT.cells))(e:l[i]?=some f):w.cell? ⟨b,o+i*7+0,none⟩=some (Ve f.thr):=by
 obtain⟨j,g,c,d⟩:=h i f.cells (by rw[AD,e];rfl)
 cases c
 exact d 0 _ Z
theorem Xnu(A:Option Addr)(C:Nat)(l:List EvT)(w0:World)(X:RowsAt w0 A 7 (l.map EvT.cells))(P:l.length<=48):
 Va 68 #[.slice A l.length C] w0 (.agg (poR l).cells.toArray):=by
 refine Vb func68 ntmps68 λH a F=>?_
 refine gg 2 λa F=>?_
 refine zAl zeroValue58 H F λz a w F H=>?_
 refine gg 1 λa F=>?_
 replace H:Own w0 none w [.blk z (zR 0).cells 58]:=H
 refine gg 4 λa F=>?_
 refine sBd (cs:=(zR l.length).cells) (places:=[(0,1),(1,48)]) zeroValue58 underlying58 Y F Z Z Z Z λa F=>?_
 refine zAl zeroValue58 H F λI a w F H=>?_
 refine sSr H 0 ?si F Z Z Z ?s1 Z Z ?_
 case si=>exact VT sizeOf58
 case s1=>rfl
 clear H;intro w H
 refine gg 1 λa F=>?_
 replace H:Own w0 none w [.blk I (VZ (zR 0).cells 0 (zR l.length).cells) 58,.blk z (zR 0).cells 58]:=H
 rw[Us (Rl.len _)]at H
 refine gg 8 λa F=>?_
 refine cLoopS [0,2,3,10,11] (λm o w=>∃(j:Nat)(q:Rl),m=l.length-j/\o=[(12,Ve ((j:Nat):Int))]/\j<=l.length/\q.n=l.length/\(∀x y,q.has x y=(poB l x y&&decide (x<j)))/\Own w0 none w [.blk I q.cells 58,.blk z (zR 0).cells 58]) F (l.length) [(12,Ve ((0:Nat):Int))] ?_ ?_
 ·exact⟨0,zR l.length,Z,Z,O,Z,λx y=>by rw[Xhj];simp,H⟩
 clear F H;intro m o a w W F
 obtain⟨j,q,rfl,rfl,hj,E,S,H⟩:=W
 refine gg 6 λa F=>zi (λU=>?_) λU=>?_
 ·
  have L:j<l.length:=O
  obtain⟨e,M⟩:∃e,l[j]?=some e:=⟨_,AA L⟩
  obtain⟨bE,oE,rfl,a1⟩:=X j e.cells (by rw[AD,M];rfl)
  refine gg 8 λa F=>?_
  refine zAl zeroValue156 H F λQ a w F H=>?_
  refine gg 1 λa F=>?_
  refine sSr H 0 ?si F Z Z Z ?s1 Z Z ?_
  case si=>exact VT sizeOf156
  case s1=>rfl
  clear H;intro w H
  refine gg 1 λa F=>?_
  replace H:Own w0 none w [.blk Q e.cells 156,.blk I q.cells 58,.blk z (zR 0).cells 58]:=H
  refine gg 8 λa F=>zi (λs=>?_) λs=>?_
  ·
   refine gg 5 λa F=>?_
   have b:∀x,decide (x<j+1)=(decide (x<j)||decide (x=j)):=λx=>by
    by_cases B:x=j<;>by_cases r:x<j<;>simp[B,r]<;>omega
   (refine⟨_,O,_,⟨j+1,q,Z,Z,O,E,λx y=>?_,H.tail⟩,F.tt⟩
    rw[S,b]
    cases p:poB l x y with
    |false=>rfl
    |true=>
     by_cases d:x=j
     ·subst d
      unfold poB at p
      rw[M]at p
      have J:e.thr = -1:=s
      cases u:l[y]?<;>rw[u]at p<;>simp[J]at p
     ·simp[d])
  refine gg 8 λa F=>?_
  refine cLoopS [0,2,3,4,5,10,11,12] (λm o w=>∃(i:Nat)(c:Rl),m=l.length-i/\o=[(6,Ve ((i:Nat):Int))]/\j<i/\i<=l.length/\c.n=l.length/\(∀x y,c.has x y=(poB l x y&&(decide (x<j)||(decide (x=j)&&decide (y<i)))))/\Own w0 none w [.blk Q e.cells 156,.blk I c.cells 58,.blk z (zR 0).cells 58]) F (l.length-(j+1)) [(6,Ve ((j+1:Nat):Int))] ?_ ?_
  ·refine⟨j+1,q,Z,Z,O,O,E,λx y=>?_,H⟩
   rw[S]
   cases p:poB l x y with
   |false=>rfl
   |true=>
    have:=(XeT p).1
    by_cases d:x=j
    ·subst d
     have r:¬y<x+1:=O
     simp[r]
    ·simp[d]
  clear F H;intro m o a w W F
  obtain⟨i,c,rfl,rfl,K,hi,g,t,H⟩:=W
  refine gg 9 λa F=>zi (λV=>?_) λV=>?_
  ·
   have D:i<l.length:=O
   obtain⟨f,R⟩:∃f,l[i]?=some f:=⟨_,AA D⟩
   refine gg 4 λa F=>?_
   refine zRO H λH=>?_
   refine gg 4 λa F=>?_
   refine Xe 4 Z F Z Z (λw H=>rLd isAgg3 F Z (H.arg (XrW X R))) H qq0 λa F=>?_
   refine gg 5 λa F=>zi (λG=>?_) λG=>?_
   ·
    refine zRO H λH=>?_
    refine gg 3 λa F=>?_
    refine Xe 3 Z F Z Z (λw H=>rLd isAgg55 F Z (H.cell 1 Z (Qw O))) H qq0 λa F=>?_
    refine gg 1 λa F=>?_
    refine Xf (k:=5) (i:=5) Z F Z (λw=>Gt F Z Z (Xef ?_)) H (λ_ _ _ h=>h) ?_
    focus omega
    clear F a;intro a F;refine Xb 6 Z F Z (λw=>Gt F Z Z (XcF)) H qq0 λa F=>?_
    refine gg 2 λa F=>?_
    refine Xd (k:=9) (i:=9) Z F (oSt H 1 sizeOf55 F Z Z Z Z (Qw (a:=j) O) λw H=>?_)
    refine gg 2 λa F=>?_
    replace H:Own w0 none w [.blk Q e.cells 156,.blk I (c.cells.set (1+j) (d8 (c.to j|||bit i))) 58,.blk z (zR 0).cells 58]:=H
    rw[Xbp]at H
    refine gg 5 λa F=>?_
    have v:poB l j i=(f.thr==e.thr):=by
     have J:(e.thr != -1)=true:=by simpa using s
     rw[Xnv M R,decide_eq_true K,J];rfl
    have b:∀x y,(decide (x<j)||(decide (x=j)&&decide (y<i+1)))=((decide (x<j)||(decide (x=j)&&decide (y<i)))||(decide (x=j)&&decide (y=i))):=λx y=>by
     by_cases B:x=j<;>by_cases r:y=i<;>by_cases N:y<i<;>simp[B,r,N]<;>omega
    (refine⟨_,O,_,⟨i+1,c.put j (c.to j|||bit i),rfl,rfl,O,O,g,λx y=>?_,H⟩,F.tt⟩
     rw[Xan,b]
     by_cases d:x=j
     ·subst d
      rw[if_pos Z,GR,Gx O,show has (c.to x) y=c.has x y from Z,t]
      by_cases u:i=y
      ·subst u
       have:(f.thr==e.thr)=true:=by simpa using G
       rw[v,this];simp
      ·have T:¬y=i:=λh=>u h.symm
       simp[u,T]
     ·rw[if_neg d,t];simp[d])
   refine gg 6 λa F=>?_
   have v:poB l j i=(f.thr==e.thr):=by
    have J:(e.thr != -1)=true:=by simpa using s
    rw[Xnv M R,decide_eq_true K,J];rfl
   have b:∀x y,(decide (x<j)||(decide (x=j)&&decide (y<i+1)))=((decide (x<j)||(decide (x=j)&&decide (y<i)))||(decide (x=j)&&decide (y=i))):=λx y=>by
    by_cases B:x=j<;>by_cases r:y=i<;>by_cases N:y<i<;>simp[B,r,N]<;>omega
   (refine⟨_,O,_,⟨i+1,c,Z,Z,O,O,g,λx y=>?_,H⟩,F.tt⟩
    rw[t,b]
    by_cases d:x=j
    ·subst d
     by_cases u:y=i
     ·subst u
      have:(f.thr==e.thr)=false:=by simpa using G
      rw[v,this];rfl
     ·simp[u]
    ·simp[d])
  have D:i=l.length:=O
  refine gg 5 λa F=>?_
  have b:∀x,decide (x<j+1)=(decide (x<j)||decide (x=j)):=λx=>by
   by_cases B:x=j<;>by_cases r:x<j<;>simp[B,r]<;>omega
  (refine⟨_,O,_,⟨j+1,c,Z,Z,O,g,λx y=>?_,H.tail⟩,F.tt⟩
   rw[t,b]
   cases p:poB l x y with
   |false=>rfl
   |true=>have:=(XeT p).2;simp[D,this])
 have L:j=l.length:=O
 refine gg 4 λa F=>?_
 refine sSr H 1 ?si F Z Z Z ?s1 Z Z ?_
 case si=>exact VT sizeOf58
 case s1=>rfl
 clear H;intro w H
 refine gg 1 λa F=>?_
 replace H:Own w0 none w [.blk I q.cells 58,.blk z (VZ (zR 0).cells 0 q.cells) 58]:=H
 rw[Us (Rl.len _)]at H
 refine gg 1 λa F=>?_
 refine Nf results68 F Z underlying58 Z H 1 Z sizeOf58 Z ?_
 refine⟨?_,H.below⟩
 have e9:q.cells=(poR l).cells:=Xq2 E λx y=>by
  rw[S,Xbv P]
  cases p:poB l x y with
  |false=>rfl
  |true=>have:=XeT p;simp;omega
 rw[<-e9]
abbrev Hd:=Option Addr×Nat×Nat
abbrev hdR(hs:List Hd):List (List Value):=hs.map λh=>[.slice h.1 h.2.1 h.2.2]
abbrev XgH(hs:List Hd):List Nat:=hs.map λh=>h.2.1
def Xgx(b:Nat)(n k:Nat):Nat:=min (n*k) b
def Xqd(b n c:Nat):Nat:=(List.range' 2 (c-2)).foldl (Xgx b) n
def Xr4(b d:List Nat)(c:Nat):Nat:=if 0∈b then 0 else d.foldl (Xqd c) (b.foldl (Xgx c) 1)
theorem DD{α β:Type}{f:β->α->β}{z:β}{l:List α}{x:α}(h:l[j]?=some x):(l.take (j+1)).foldl f z=f ((l.take j).foldl f z) x:=by
 rw[At,h,FW,Fs];rfl
theorem Xmt{b:Nat}(h:2<=k):(List.range' 2 (k+1-2)).foldl (Xgx b) n=Xgx b ((List.range' 2 (k-2)).foldl (Xgx b) n) k:=by
 rw[show k+1-2=(k-2)+1 by omega,List.range'_concat,Fs,show 2+1*(k-2)=k by omega];rfl
theorem XbH(c:n<=20001)(b:k<=1000000):n*k<=9223372036854775807:=AW (Nat.mul_le_mul c b) (by decide)
theorem Xg1(b o c C3 C4:Nat)(V A4:Option Addr)(hs ws:List Hd)(w0:World)(h3:w0.cell? ⟨b,o+334,none⟩=some (.slice V hs.length C3))(h4:w0.cell? ⟨b,o+335,none⟩=some (.slice A4 ws.length C4))(hS:RowsAt w0 V 1 (hdR hs))(hW:RowsAt w0 A4 1 (hdR ws))(hl:1<=c/\c<=20001)(L:∀h∈hs,h.2.1<=1000000)(D:∀h∈ws,h.2.1<=1000000)(a1:hs.length<=1000000)(a2:ws.length<=1000000):
 Calls prog 34 #[Vc b o,Ve (c:Int)] w0 λe w'=>e=.returned (Ve (Xr4 (XgH hs) (XgH ws) c:Int))/\Below w0.heap.size w0 w':=by
 have H:=Own.start w0 none
 have p:∀n k,Xgx c n k<=20001:=λn k=>AW (Nat.min_le_right _ _) hl.2
 refine VU func34 Z ntmps34 Z (λa F=>?_)
 refine gg 14 λa F=>?_
 refine zLd F (H.arg h3) λa F=>?_
 refine gg 4 λa F=>?_
 refine cLoopS [0,1,14,15] (λm d w=>∃j n:Nat,m=hs.length-j/\d=[(5,Ve (n:Int)),(16,Ve ((j:Nat):Int))]/\j<=hs.length/\n=((XgH hs).take j).foldl (Xgx c) 1/\n<=20001/\0∉(XgH hs).take j/\Own w0 none w []) F (hs.length) [(5,Ve ((1:Nat):Int)),(16,Ve ((0:Nat):Int))] ?_ ?_
 ·exact⟨0,1,Z,Z,O,Z,O,by simp,H⟩
 clear F H;intro m d a w C F
 obtain⟨j,n,rfl,rfl,hj,X,y,r,H⟩:=C
 refine gg 6 λa F=>zi (λT=>?_) λT=>?_
 ·
  have g:j<hs.length:=O
  obtain⟨⟨xA,B,xc⟩,N⟩:∃x,hs[j]?=some x:=⟨_,AA g⟩
  have q:(XgH hs)[j]?=some B:=by rw[AD,N];rfl
  have K:B<=1000000:=L _ (AF N)
  obtain⟨bS,oS,rfl,E⟩:=hS j [.slice xA B xc] (by rw[AD,N];rfl)
  refine gg 6 λa F=>?_
  refine zLd F (H.arg (E 0 _ Z)) λa F=>?_
  refine gg 10 λa F=>zi (λQ=>?_) λQ=>?_
  ·
   have h0:B=0:=O
   refine gg 6 λa F=>?_
   (have u:0∈XgH hs:=AF (h0▸q)
    unfold Xr4
    rw[if_pos u]
    exact⟨Z,H.below⟩)
  refine gg 5 λa F=>?_
  refine Xh F Z Z (XaR ?_) ?_
  focus exact XbH y K
  clear F a;intro a F
  refine gg 1 λa F=>?_
  refine XoJ F Z Z Z Z λa F=>?_
  refine gg 6 λa F=>?_
  exact⟨_,O,_,⟨j+1,Xgx c n B,Z,Z,O,by rw[DD q,X],p _ _,by rw[At,q,FW,A8,Ay];exact λh=>h.elim r (λe=>O),H⟩,F.tt⟩
 have g:j=hs.length:=O
 refine gg 7 λa F=>?_
 refine zLd F (H.arg h4) λa F=>?_
 refine gg 4 λa F=>?_
 refine cLoopS [1,33,34] (λm d w=>∃i z:Nat,m=ws.length-i/\d=[(5,Ve (z:Int)),(35,Ve ((i:Nat):Int))]/\i<=ws.length/\z=((XgH ws).take i).foldl (Xqd c) ((XgH hs).foldl (Xgx c) 1)/\z<=20001/\Own w0 none w []) F (ws.length) [(5,Ve (n:Int)),(35,Ve ((0:Nat):Int))] ?_ ?_
 ·exact⟨0,n,Z,Z,O,by rw[X,g,FD (by simp)];rfl,y,H⟩
 clear F H;intro m d a w C F
 obtain⟨i,z,rfl,rfl,hi,U,J,H⟩:=C
 refine gg 6 λa F=>zi (λM=>?_) λM=>?_
 ·
  have s:i<ws.length:=O
  obtain⟨⟨yA,t,yc⟩,G⟩:∃x,ws[i]?=some x:=⟨_,AA s⟩
  have R:(XgH ws)[i]?=some t:=by rw[AD,G];rfl
  have a3:t<=1000000:=D _ (AF G)
  obtain⟨bW,oW,rfl,S⟩:=hW i [.slice yA t yc] (by rw[AD,G];rfl)
  refine gg 6 λa F=>?_
  refine zLd F (H.arg (S 0 _ Z)) λa F=>?_
  refine gg 7 λa F=>?_
  refine cLoopS [1,9,33,34,35] (λm d w=>∃k v:Nat,m=t-k/\d=[(5,Ve (v:Int)),(10,Ve ((k:Nat):Int))]/\2<=k/\(k<=t\/k=2)/\v=(List.range' 2 (k-2)).foldl (Xgx c) z/\v<=20001/\Own w0 none w []) F (t-2) [(5,Ve (z:Int)),(10,Ve ((2:Nat):Int))] ?_ ?_
  ·exact⟨2,z,Z,Z,O,.inr Z,Z,J,H⟩
  clear F H;intro m d a w C F
  obtain⟨k,v,rfl,rfl,I,hk,W,A,H⟩:=C
  refine gg 9 λa F=>zi (λP=>?_) λP=>?_
  ·
   refine gg 6 λa F=>?_
   refine Xh F Z Z (XaR ?_) ?_
   focus exact XbH A O
   clear F a;intro a F
   refine gg 1 λa F=>?_
   refine XoJ F Z Z Z Z λa F=>?_
   refine gg 7 λa F=>?_
   exact⟨_,O,_,⟨k+1,Xgx c v k,Z,Z,O,.inl O,by rw[Xmt I,W],p _ _,H⟩,F.tt⟩
  refine gg 5 λa F=>?_
  exact⟨_,O,_,⟨i+1,v,Z,Z,O,by rw[DD R,<-U,W];unfold Xqd;congr 2;omega,A,H⟩,F.tt⟩
 have s:i=ws.length:=O
 refine gg 8 λa F=>?_
 (rw[g,FD (by simp)]at r
  rw[s,FD (by simp)]at U
  unfold Xr4
  rw[if_neg r,<-U]
  exact⟨Z,H.below⟩)
theorem XcB(A:Option Addr)(n C:Nat)(w0:World):
 Calls prog 121 #[.slice A n C] w0 λe c=>∃b,e=.returned (.func (.func 176) #[] #[Vc b 0])/\Own w0 none c [.blk b [.slice A n C] 70]:=by
 refine Vb func121 ntmps121 λH a F=>?_
 refine gg 2 λa F=>?_
 refine zBx H F λb a w F H=>?_
 refine gg 9 λa F=>?_
 exact⟨_,Z,H⟩
def BwY(p:Nat×Nat)(b:List Value)(c:List Res):Prop:=b=[.int .i64 (p.2:Int),.int .i64 (p.1:Int)]/\c=[]
namespace Md
variable{P:Program}{l:List Oper}{Q:Exit->Act->World->Prop}{N:Nat}{a:Act}{env:List (Nat×Value)}{w:World}{ds:List Deferred}{rest:List Oper}{d:Tmp}{ty:TypeId}{pos:String}{af:Array Edge}{g:Option (Nat×Bool)}
theorem iYs{x:Operand}{n:List Operand}{p:Nat}{s:List Value}{R:Ending->World->Prop}(F:Has N a env)(u:V2 l env g=true)(z:Nat.blt d N=true)(t:ev env x=some (.func (.yield p) #[] #[]))(C:evL env n=some s){q:Array TypeId}(A:YieldAt Fence.wide 0 P p s.toArray w R)(K:∀e w,R e w->∃v,e=.returned v/\∀a,Has N a ((d,v)::env)->wpListIn Fence.wide 0 P l.toArray Q rest (wD a ds) w):
 wpListIn Fence.wide 0 P l.toArray Q (⟨some d,.call ⟨.value x,n.toArray,q⟩,ty,pos,af,g⟩::rest) (wD a ds) w:=by
 unfold wpListIn
 rw[if_pos (UB (o:=⟨some d,.call ⟨.value x,n.toArray,q⟩,ty,pos,af,g⟩) F u)]
 refine⟨λf _=>trivial,?_⟩
 obtain⟨fn,i,r,j,m,b⟩:=A
 have B:(execOp a.eval ⟨some d,.call ⟨.value x,n.toArray,q⟩,ty,pos,af,g⟩).run P w=.ok (.round p fn i r j) w:=by
  simp only[execOp,resolve,FK,F.evals C,F.eval t]
  simp[Deferred.ofValue,invoke,m,go_sem]
 rw[Oper.semAt_eq _ _ _ (λc h=>by cases h),Jk,B,Oper.uponIn_round]
 refine⟨λh=>(by cases h),b.mono λe E y=>?_⟩
 obtain⟨v,rfl,D⟩:=K e E y
 show wpListIn _ _ _ _ _ _ ((wD a ds).put _ _) _
 rw[QY]
 exact D _ (F.put z)
theorem zip_step{l:List Nat}(h:l[i]?=some x):(l.zipIdx.drop i).reverse=(l.zipIdx.drop (i+1)).reverse++[(x,i)]:=by
 have c:l.zipIdx[i]?=some (x,i):=by rw[List.getElem?_zipIdx,h];simp
 obtain⟨b,e⟩:=AB.1 c
 rw[FA b,e,List.reverse_cons]
theorem zip_pre{l:List Nat}(i:Nat):(l.zipIdx.drop i).reverse <+: l.zipIdx.reverse:=by
 have e:l.zipIdx.reverse=(l.zipIdx.drop i).reverse++(l.zipIdx.take i).reverse:=by rw[<-List.reverse_append,FL]
 rw[e];exact IF _ _
theorem bw_iter(l:List Nat)(A:Option Addr)(C:Nat)(w0:World)(row:Option Nat)(hn:l.length<=1000)(q:List Res)(E:Nat)(hb:∀w,Own w0 row w q->w.cell? ⟨E,0,none⟩=some (.slice A l.length C))(R:∀w,Own w0 row w q->RowsAt w A 1 (Uo l)):
 IterR prog 176 #[Vc E 0] BwY l.zipIdx.reverse w0 row q:=by
 intro U J L Q G H N T
 refine callsIn_wide.2 ?_
 show Calls prog 176 #[.func (.yield U) #[] #[],Vc E 0] Q _
 have n:∀{G:List Res}{w:World},Own w0 row w (G++q)->Own w0 row w q:=λh=>h.suf
 refine VU func176 Z ntmps176 Z (λa F=>?_);refine Xp4 F ?_;refine gg 2 ?_;clear F a;intro a F;refine zLd F (hb _ (n H)) ?_;clear F a;intro a F;refine gg 1 ?_;clear F a;intro a F
 refine Xh F Z Z (Mf ?_) ?_
 focus omega
 clear F a;intro a F;refine gg 3 ?_;clear F a;intro a F
 refine cLoopS [0,1] (λm v w=>∃(i:Int)(k:Nat)(o:List Res),m=k/\v=[(3,Ve i)]/\i+1=(k:Int)/\k<=l.length/\J (l.zipIdx.drop k).reverse o/\Own w0 row w (o++q)) F (l.length) [(3,Ve ((l.length:Int)-1))] ?_ ?_
 ·exact⟨_,l.length,G,Z,Z,O,O,by rw[List.drop_of_length_le (by simp)];exact N,H⟩
 clear F
 clear H
 intro m v a w W F
 obtain⟨i,k,o,P,rfl,S,hk,u,H⟩:=W
 refine gg 7 ?_;clear F a;intro a F;refine zi (λM=>?_) λM=>?_
 ·
  obtain⟨b,rfl⟩:∃b:Nat,i=(b:Int):=⟨i.toNat,O⟩
  obtain⟨x,I⟩:∃x,l[b]?=some x:=⟨_,AA O⟩
  have D:k=b+1:=O
  subst D
  obtain⟨bS,X,rfl,B⟩:=R _ (n H) b _ (UQ I)
  have t:(l.zipIdx.drop (b+1)).reverse++[(x,b)] <+: l.zipIdx.reverse:=by rw[<-zip_step I];exact zip_pre b
  refine gg 4 ?_;clear F a;intro a F;refine wpIn_region_lit ?_;refine iV F Z Z Z (λc h=>by cases h) (rMv F Z) ?_;clear F a;intro a F;refine iV F Z Z Z (λc h=>by cases h) (rMv F Z) ?_;clear F a;intro a F;refine iV F Z Z Z (λc h=>by cases h) (rLd isAgg70 F Z (hb _ (n H))) ?_;clear F a;intro a F;refine iV F Z Z Z (λc h=>by cases h) (rMv F Z) ?_;clear F a;intro a F;refine iV F Z Z Z (λc h=>by cases h) (rIx (j:=b) underlying70 sizeOf3 F Z Z O) ?_;clear F a;intro a F;refine iV F Z Z Z (λc h=>by cases h) (rLd isAgg3 F Z (B 0 _ Z)) ?_;clear F a;intro a F;refine iYs F Z Z Z Z (T _ (x,b) [Ve (b:Int),Ve (x:Int)] [] _ o q u t ⟨Z,Z⟩ H) ?_;rintro e w ⟨d,K,V⟩
  obtain⟨y,rfl,g⟩:∃y:Bool,e=.returned (.bool y)/\((y=true/\J (l.zipIdx.drop b).reverse d)\/(y=false/\L ((l.zipIdx.drop (b+1)).reverse++[(x,b)]) d)):=by
   rcases V with⟨s,r⟩|⟨s,r⟩
   ·exact⟨_,s,.inl ⟨Z,by rw[zip_step I];exact r⟩⟩
   ·exact⟨_,s,.inr ⟨Z,r⟩⟩
  refine⟨_,Z,?_⟩
  replace H:Own w0 row w (d++q):=K
  clear K
  clear F a;intro a F;refine iV F Z Z Z (λc h=>by cases h) (Xp6 F Z) ?_;clear F a;intro a F;refine iNil ?_;refine gg 0 ?_;clear F a;intro a F
  refine cIf F Z (λp=>?_) (λp=>?_)
  ·
   replace g:L ((l.zipIdx.drop (b+1)).reverse++[(x,b)]) d:=by
    rcases g with⟨s,_⟩|⟨_,r⟩
    ·rw[s]at p;cases p
    ·exact r
   refine gg 1 ?_;clear F a;intro a F;refine bEndR results176 F ?_
   refine⟨⟨_,Z⟩,?_⟩
   exact⟨d,H,.inr ⟨_,t,g⟩⟩
  replace g:J (l.zipIdx.drop b).reverse d:=by
   rcases g with⟨_,r⟩|⟨s,_⟩
   ·exact r
   ·rw[s]at p;cases p
  refine gg 3 ?_;clear F a;intro a F
  refine Xh F Z Z (Mf ?_) ?_
  focus omega
  clear F a;intro a F;refine gg 2 ?_;clear F a;intro a F
  exact⟨b,O,_,⟨(b:Int)-1,b,d,Z,Z,O,O,g,H⟩,F.toD (by repeat(first|exact trivial|refine Le.cons rfl ?_))⟩
 refine gg 1 ?_;clear F a;intro a F;refine bEnd results176 F ?_
 refine⟨⟨_,Z⟩,?_⟩
 (have z:k=0:=O
  subst z
  exact⟨o,H,.inl u⟩)
end Md
section
variable{P:Program}{w w0:World}{row:Option Nat}{rs:List Res}{fn:Func}{R:Ending->World->Prop}{ds:List Deferred}
theorem markR{D:Nat}{b:Array Value}(H:Own w0 row w rs)(i:Nat)(hb:w0.heap.size<=D)(c:rs[i]?=some (.obj D (.deferred (some []))))(K:∀w,Own w0 row w (rs.set i (.obj D (.deferred none)))->LeavesInM Fence.wide 0 P fn b R ds .returning w):LeavesInM Fence.wide 0 P fn b R (NG D::ds) .returning w:=
 ⟨by simp,.inl ⟨D,_,Z,run_takeDeferred (H.pred i _ c),K _ (H.putR i hb c _)⟩⟩
theorem XoO{b:Array Value}(c:fn.results=#[])(h:R (.returned (.tuple #[])) w):LeavesInM Fence.wide 0 P fn b R [] .returning w:=by
 exact⟨.tuple #[],results_none c _ _ _,h⟩
end
def lnS(off:Nat)(b:List Value)(l:List Nat):List Value×UInt64:=l.foldl (λp x=>(p.1.set (off+1+x) (d8 p.2),p.2|||bit x)) (b,0)
theorem Xl4{off:Nat}{b:List Value}:lnS off b (l++[x])=((lnS off b l).1.set (off+1+x) (d8 (lnS off b l).2),(lnS off b l).2|||bit x):=by unfold lnS;rw[Fs];rfl
theorem Xpc{off:Nat}{cs:List Value}(l:List Nat):(lnS off cs l).1.length=cs.length:=by
 have:∀(l:List Nat)(p:List Value×UInt64),(l.foldl (λp x=>(p.1.set (off+1+x) (d8 p.2),p.2|||bit x)) p).1.length=p.1.length:=λl=>by
  induction l with
  |nil=>intro p;rfl
  |cons x l b=>intro p;rw[Fa,b,F9]
 exact this l _
theorem Xhi(l:List Nat):l.zipIdx.reverse.map (·.1)=l.reverse:=by rw[List.map_reverse,List.zipIdx_map_fst]
namespace Md
theorem line_any(b off:Nat)(d:List Value)(T:TypeId)(A:Option Addr)(C:Nat)(l:List Nat)(w0:World)(hB:Blk w0 b d T)(hA:RowsAt w0 A 1 (Uo l))(G:∀n o,A=some ⟨n,o,none⟩->n≠b)(hl:l.length<=48)(r:∀x∈l,x<48)(N:off+49<=d.length):
 Calls prog 64 #[Vc b off,.slice A l.length C] w0 λe w'=>e=.returned (.tuple #[])/\Own w0 (some b) w' [.blk b (lnS off d l.reverse).1 T]:=by
 have H:=Own.startR hB
 have u:∀w S,Own w0 (some b) w S->RowsAt w A 1 (Uo l):=λw S H j d W=>by
  obtain⟨n,o,Q,h2⟩:=hA j d W
  exact⟨n,o,Q,λk v hv=>H.old (h2 k v hv) (λe=>G n o Q (Ac e))⟩
 refine Ec func64 Z ntmps64 Z (λa F=>?_)
 refine gg 2 λa F=>?_
 refine zBx H F λs a w F H=>?_
 refine gg 3 λa F=>?_
 refine zAl zeroValue55 H F λy a w F H=>?_
 refine gg 1 λa F=>?_
 replace H:Own w0 (some b) w [.blk y [d8 0] 55,.blk s [Vc b off] 158,.blk b d T]:=H
 refine gg 3 λa F=>?_
 refine Xi call121 F Z (XcB A l.length C _) ?_;rintro e w ⟨X,rfl,P⟩;replace H:=H.join P;clear P
 refine zq λa F=>?_
 refine gg 2 λa F=>?_
 have B:=(H.sel [1,3,2,0] Z Z)
 refine Xdm (pl:=[9,10]) 3 F (by decide) (λ_ _ _ h=>by rw[h.1];rfl) Z (enters_of func176 Y Z) B (bw_iter l A C w0 (some b) O _ X (λw H=>H.cell 0 Z Z) (λw H=>u w _ H)) (λpre g=>g=[.blk y [d8 (lnS off d (pre.map (·.1))).2] 55,.blk b (lnS off d (pre.map (·.1))).1 T,.blk s [Vc b off] 158]) (λ_ _ _=>False) (rfl) (λL=>[(6,L.getD 1 undef)]) ?_ ?_ ?_ ?_
 ·
  clear B H F a;intro I a w L K E q hK
  obtain⟨v0,v1,rfl⟩:=len2Y E
  refine Md.cReg ?_;refine sAs q Z Z Z λa q=>?_
  refine Md.sNil ?_ q
  exact hK _ q
 ·
  clear B H F a;intro I pre x R yr w V qs a p m t H F
  obtain rfl:=p
  obtain⟨x,ix⟩:=x
  obtain⟨rfl,rfl⟩:=t
  have z:x∈l:=by
   have h9:(x,ix)∈l.zipIdx.reverse:=m.subset (by simp)
   have J:=List.mem_map_of_mem (f:=(·.1)) h9
   rw[Xhi]at J
   exact List.mem_reverse.1 J
  have U:=r x z
  have M:=Xpc (off:=off) (cs:=d) (pre.map (·.1))
  refine gg 2 λa F=>?_
  refine cRegRO Y H ?_;replace H:=H.drew
  refine gg 4 λa F=>?_
  refine Xb 4 Z F Z (λw=>rFa (f:=1) (k:=_+1) underlying58 Z sizeOf56 Z Z F Z) H qq0 λa F=>?_
  refine gg 1 λa F=>?_
  refine Xd (k:=6) (i:=6) Z F (oSt H 1 sizeOf55 F Z Z Z Z (AA O) ?_)
  clear H;intro w H
  refine gg 2 λa F=>?_
  refine cRegRO Y H ?_;replace H:=H.drew
  refine gg 2 λa F=>?_
  refine Xf (k:=2) (i:=2) Z F Z (λw=>Gt F Z Z (Xef ?_)) H (λ_ _ _ h=>h) ?_
  focus omega
  clear F a;intro a F;refine Xb 3 Z F Z (λw=>Gt F Z Z (XcF)) H qq0 λa F=>?_;refine Xd (k:=4) (i:=4) Z F (oSt H 0 sizeOf55 F Z Z Z Z Z λw H=>?_)
  refine gg 2 λa F=>?_
  repeat(first|rw[if_pos rfl]|rw[if_neg (by decide)])
  replace H:Own w0 (some b) w ([.blk y [d8 (lnS off d (pre.map (·.1)++[x])).2] 55,.blk b (lnS off d (pre.map (·.1)++[x])).1 T,.blk s [Vc b off] 158]++qs):=by rw[Xl4];exact H
  exact Xbt _ (by rw[Ae]) H
 ·
  intro D w g p H
  obtain rfl:=p
  have hD:w0.heap.size<=D:=(H.foot 0 _ Z D Z).1.resolve_right (λe=>H.apart 0 2 _ _ Z Z (by decide) D Z (Ac e))
  refine endM ?_;refine markR H 0 hD Z λw H=>?_;refine XoO results64 ?_
  refine⟨Z,?_⟩
  rw[Xhi]at H
  exact H.sel [2] Z Z
 ·
  intro D c pre w g m p H
  exact p.elim
end Md
section
variable{pre post:List Value}{q:Rl}{off a:Nat}{s:UInt64}
theorem XhW(b:pre.length=off)(c:a<48):(pre++(q.cells++post))[off+1+a]?=some (d8 (q.to a)):=by
 subst b
 rw[AQ O,show pre.length+1+a-pre.length=1+a by omega,AP (by rw[Rl.len];omega)]
 exact Qw c
theorem Xda(b:pre.length=off)(c:a<48):(pre++(q.cells++post)).set (off+1+a) (d8 s)=pre++((q.put a s).cells++post):=by
 subst b
 rw[HM _ _ O,show pre.length+1+a-pre.length=1+a by omega,List.set_append_left _ _ (by rw[Rl.len];omega),Xbp]
end
def prB(q:Pr):By:=λi=>if i=0 then q.1 else q.2
def Xre(f:Nat)(q:Rl)(p:Pr):Rl:=q.put (f+p.1.toNat) (q.to (f+p.1.toNat)|||bit (f+p.2.toNat))
def putR(f:Nat)(q:Rl)(b:List Pr):Rl:=b.foldl (Xre f) q
theorem Xrd(b:List Pr):∀q:Rl,(putR f q b).n=q.n:=by
 induction b with
 |nil=>intro q;rfl
 |cons p b c=>intro q;exact(c _).trans Z
theorem Xlz{q:Rl}{p:Pr}(h:f+p.2.toNat<64):(Xre f q p).has x y=(q.has x y||(decide (x=f+p.1.toNat)&&decide (y=f+p.2.toNat))):=by
 unfold Xre
 rw[Xan]
 by_cases b:x=f+p.1.toNat
 ·subst b
  rw[if_pos Z,GR,Gx h]
  by_cases c:f+p.2.toNat=y
  ·subst c;simp[Rl.has]
  ·have d:¬y=f+p.2.toNat:=λe=>c e.symm
   simp[Rl.has,c,d]
 ·rw[if_neg b];simp[b]
theorem Xly(b:List Pr)(h:∀p∈b,f+p.2.toNat<64):∀q:Rl,(putR f q b).has x y=true↔(q.has x y=true\/∃p∈b,x=f+p.1.toNat/\y=f+p.2.toNat):=by
 induction b with
 |nil=>intro q;simp[putR]
 |cons p b e=>
  intro q
  have c:=e (λp d=>h p (IV _ d)) (Xre f q p)
  rw[Xlz (h p IT)]at c;refine c.trans ?_
  simp[or_assoc]
theorem XlP{g:World}{i:Nat}{A:Option Addr}{d:List (List Value)}(h:JK g b A i d):RowsAt g A i d:=λj m n=>by
 obtain⟨c,off,e,_,o⟩:=h j m n
 exact⟨c,off,e,o⟩
theorem Xdn(b off:Nat)(pre post:List Value)(q:Rl)(T:TypeId)(A:Option Addr)(C f:Nat)(c:List Pr)(w0:World)(y:pre.length=off)(J:Blk w0 b (pre++(q.cells++post)) T)(D:JK w0 b A 2 (c.map prC))(U:c.length<=1000000000000)(s:∀p∈c,f+p.1.toNat<48/\f+p.2.toNat<48)(S:f<=48):
 Calls prog 116 #[Vc b off,.slice A c.length C,Ve (f:Int)] w0 λe P=>e=.returned (.tuple #[])/\Own w0 (some b) P [.blk b (pre++((putR f q c).cells++post)) T]:=by
 have H:=Own.startR J
 have u:∀w n,Own w0 (some b) w n->RowsAt w A 2 (c.map prC):=λw n H=>XlP (H.notR D)
 refine VU func116 Z ntmps116 Z (λa F=>?_)
 refine gg 7 λa F=>?_
 refine cLoopS [0,2,8,9] (λm o w=>∃(j:Nat),m=c.length-j/\o=[(10,Ve ((j:Nat):Int))]/\j<=c.length/\Own w0 (some b) w [.blk b (pre++((putR f q (c.take j)).cells++post)) T]) F (c.length) [(10,Ve ((0:Nat):Int))] ?_ ?_
 ·exact⟨0,Z,Z,O,H⟩
 clear F H;intro m o a w L F
 obtain⟨j,rfl,rfl,Q,H⟩:=L
 refine gg 6 λa F=>zi (λz=>?_) λz=>?_
 ·
  have g:j<c.length:=O
  obtain⟨x,r⟩:∃x,c[j]?=some x:=⟨_,AA g⟩
  obtain⟨G,E,rfl,_,K⟩:=D j (bs 2 (prB x)) (by rw[AD,r];rfl)
  have M:∀w n,Own w0 (some b) w n->w.rangeAt G (E+j*2) (bs 2 (prB x)):=λw n H=>by
   obtain⟨R,V,e,h⟩:=u w n H j (bs 2 (prB x)) (by rw[AD,r];rfl)
   cases e;exact h
  obtain⟨d,v⟩:f+(prB x 0).toNat<48/\f+(prB x 1).toNat<48:=s x (AF r)
  have I:f+(prB x (0+0*1)).toNat<48:=d
  have N:f+(prB x (0+1*1)).toNat<48:=v
  have t:putR f q (c.take (j+1))=Xre f (putR f q (c.take j)) x:=DD r
  refine gg 6 λa F=>?_
  refine Qo underlying281 Z sizeOf281 F Z Z Z (M _ _ H) λa F=>?_
  refine Mj Xqo H F λB a w F H=>?_
  refine Gp H 0 F λw H=>?_
  rw[V3]at H
  refine gg 1 λa F=>?_
  replace H:Own w0 (some b) w [.blk B (bs 2 (prB x)) 281,.blk b (pre++((putR f q (c.take j)).cells++post)) T]:=H
  refine zRO H λH=>?_
  refine gg 2 λa F=>?_
  refine Xf (k:=2) (i:=2) Z F Z (λw=>rIa (j:=0) underlying281 sizeOf5 F Z Z ?_) H (λ_ _ _ h=>h) ?_
  focus(omega)
  clear F a;intro a F
  refine gg 2 λa F=>?_
  refine Xf (k:=5) (i:=5) Z F Z (λw=>Gt F Z Z (JN ?_)) H (λ_ _ _ h=>h) ?_
  focus omega
  clear F a;intro a F
  refine gg 1 λa F=>?_
  refine Xb 7 Z F Z (λw=>rFa (f:=1) (k:=_+1) underlying58 Z sizeOf56 Z Z F Z) H qq0 λa F=>?_
  refine gg 1 λa F=>?_
  refine Xe 9 Z F Z Z (λw H=>rLd isAgg55 F Z (H.cell 1 Z (XhW y d))) H qq0 λa F=>?_
  refine gg 1 λa F=>?_
  refine Xf (k:=11) (i:=11) Z F Z (λw=>rIa (j:=1) underlying281 sizeOf5 F Z Z ?_) H (λ_ _ _ h=>h) ?_
  focus(omega)
  clear F a;intro a F
  refine gg 2 λa F=>?_
  refine Xf (k:=14) (i:=14) Z F Z (λw=>Gt F Z Z (JN ?_)) H (λ_ _ _ h=>h) ?_
  focus omega
  clear F a;intro a F
  refine Xf (k:=15) (i:=15) Z F Z (λw=>Gt F Z Z (Xef ?_)) H (λ_ _ _ h=>h) ?_
  focus omega
  clear F a;intro a F;refine Xb 16 Z F Z (λw=>Gt F Z Z (XcF)) H qq0 λa F=>?_
  refine gg 1 λa F=>?_
  refine Xb 18 Z F Z (λw=>rFa (f:=1) (k:=_+1) underlying58 Z sizeOf56 Z Z F Z) H qq0 λa F=>?_
  refine gg 1 λa F=>?_
  refine Xd (k:=20) (i:=20) Z F (oSt H 1 sizeOf55 F Z Z Z Z (XhW y d) λw H=>?_)
  refine gg 2 λa F=>?_
  replace H:Own w0 (some b) w [.blk B (bs 2 (prB x)) 281,.blk b ((pre++((putR f q (c.take j)).cells++post)).set (off+1+(f+x.1.toNat)) (d8 ((putR f q (c.take j)).to (f+x.1.toNat)|||bit (f+x.2.toNat)))) T]:=H
  rw[Xda y (show f+x.1.toNat<48 from d)]at H
  refine gg 4 λa F=>?_
  exact⟨_,O,_,⟨j+1,Z,Z,O,by rw[t];exact H.sel [1] Z Z⟩,F.tt⟩
 have g:j=c.length:=O
 refine gg 1 λa F=>?_
 refine bEnd results116 F ?_;rw[g,FD (AI _)]at H
 exact⟨Z,H⟩
structure Xc where
 ev:Value
 po:Rl
 rf:Rl
 co:Rl
 da:Rl
 ct:Rl
 rm:Rl
 fi:By
def Xc.cells(x:Xc):List Value:=x.ev::(x.po.cells++(x.rf.cells++(x.co.cells++(x.da.cells++(x.ct.cells++(x.rm.cells++bs 38 x.fi))))))
theorem Xc.len(x:Xc):x.cells.length=333:=by
 unfold Xc.cells
 rw[AY];iterate 6 rw[AK,Rl.len]
 rw[bs_length]
theorem Xe2{x:Xc}(h:x.ev.oneCell'=true):x.cells.all (·.oneCell')=true:=by
 unfold Xc.cells
 rw[List.all_cons,h];iterate 6 rw[List.all_append,Gr]
 rw[Xcx];rfl
theorem Xnn{c:List Value}{x:Xc}(h:c.length=333):VZ c 0 x.cells=x.cells:=Ju (by rw[h,Xc.len])
def zX(n:Nat):Xc:=⟨.slice none 0 0,zR n,zR n,zR n,zR n,zR n,zR n,λ_=>0⟩
theorem Li:(Value.agg zeroCells65).cells.toList=(zX 0).cells:=by kernel_rfl
theorem XgX(n:Nat)(w0:World):
 Va 115 #[Ve (n:Int)] w0 (.agg (zX n).cells.toArray):=by
 refine Vb func115 ntmps115 λH a F=>?_
 refine gg 2 λa F=>?_
 refine zAl zeroValue65 H F λc a w F H=>?_
 refine gg 1 λa F=>?_
 rw[Li]at H
 refine gg 3 λa F=>?_
 refine sBd (cs:=(zR n).cells) (places:=[(0,1),(1,48)]) zeroValue58 underlying58 Y F Z Z Z Z λa F=>?_
 refine zAl zeroValue58 H F λb a w F H=>?_
 refine sSr H 0 ?si F Z Z Z ?s1 Z Z ?_
 case si=>exact VT sizeOf58
 case s1=>rfl
 clear H;intro w H
 refine gg 1 λa F=>?_
 replace H:Own w0 none w [.blk b (VZ (zR 0).cells 0 (zR n).cells) 58,.blk c (zX 0).cells 65]:=H
 rw[Us (Rl.len _)]at H
 refine gg 8 λa F=>?_
 refine sBd (cs:=(zX n).cells) (places:=[(0,1),(1,49),(50,49),(99,49),(148,49),(197,49),(246,49),(295,38)]) zeroValue65 underlying65 Y F Z Z Z Y λa F=>?_
 refine sSr H 1 ?si F Z Z Z ?s1 Z (by rw[Xc.len,Xc.len];rfl) ?_
 case si=>rw[Xc.len];exact VT sizeOf65
 case s1=>exact Xe2 Z
 clear H;intro w H
 refine gg 1 λa F=>?_
 replace H:Own w0 none w [.blk b (zR n).cells 58,.blk c (VZ (zX 0).cells 0 (zX n).cells) 65]:=H
 rw[Xnn (Xc.len _)]at H
 refine gg 1 λa F=>?_
 refine Nf results115 F Z underlying65 Z H 1 Z sizeOf65 (by rw[Xc.len];rfl) ?_
 exact⟨Z,H.below⟩
structure Mx where
 x:Xc
 rd:Value
 sr:Value
 wr:Value
def Mx.cells(m:Mx):List Value:=m.x.cells++[m.rd,m.sr,m.wr]
section
variable{m:Mx}{v:Value}
theorem Mx.len:m.cells.length=336:=by unfold Mx.cells;rw[AK,Xc.len];rfl
theorem Dn(i:Nat):m.cells[333+i]?=[m.rd,m.sr,m.wr][i]?:=by
 unfold Mx.cells
 rw[AQ (by rw[Xc.len];omega),Xc.len,show 333+i-333=i by omega]
theorem Xo3:m.cells[0]?=some m.x.ev:=rfl
theorem Xi7(i:Nat):m.cells.set (333+i) v=m.x.cells++[m.rd,m.sr,m.wr].set i v:=by
 unfold Mx.cells
 rw[HM _ _ (by rw[Xc.len];omega),Xc.len,show 333+i-333=i by omega]
end
def plL(b:List EvT)(f:EvT->Bool)(j:Nat):List Nat:=(List.range j).filter λi=>match b[i]? with|some e=>f e|none=>false
def wrF(l:Nat)(e:EvT):Bool:=e.ev.kind==2&&e.ev.loc.toNat==l
def rdF(e:EvT):Bool:=e.ev.kind==1
theorem N2{b:List EvT}{f:EvT->Bool}{e:EvT}(h:b[j]?=some e):plL b f (j+1)=plL b f j++if f e then[j]else[]:=by
 unfold plL
 rw[HB,Fz]
 congr 1
 rw[Hi,h]
 cases c:f e<;>simp[c]
theorem mem_pl{b:List EvT}{f:EvT->Bool}:i∈plL b f j↔i<j/\∃e,b[i]?=some e/\f e=true:=by
 unfold plL
 rw[Az,Ab]
 cases h:b[i]? with
 |none=>simp
 |some e=>simp
theorem GH{b:List EvT}{f:EvT->Bool}:(plL b f j).length<=j:=by
 unfold plL;exact AW (Fy _ _) (by simp)
def wrL(b:List EvT)(l:Nat):List Nat:=plL b (wrF l) b.length
def Lg(b:List EvT)(v:UInt8)(w:Nat):Bool:=match b[w]? with|some e=>e.ev.val==v|none=>false
def srcE(b:List EvT)(e:EvT):List Nat:=(wrL b e.ev.loc.toNat).filter (Lg b e.ev.val)
def QQ(b:List EvT)(i:Nat):List Nat:=match b[i]? with|some e=>srcE b e|none=>[]
def rdL(b:List EvT):List Nat:=plL b rdF b.length
def hdV(x:Ln):Value:=.slice x.A x.l.length x.c
section
variable{w0 w:World}{row:Option Nat}{rs hd qs:List Res}{ws:List Ln}{x:Ln}{l:Nat}
theorem XeZ(H:Own w0 row w rs):∀n,Own w0 row w (rs++((List.replicate n (⟨none,0,[]⟩:Ln)).map Ln.part++[]))
 |0=>by simpa using H
 |n+1=>by
  have h:=(XeZ H n).nilRws 3 1
  refine h.perm ?_;rw[List.replicate_succ,FH,Ak,Ak]
  exact FS.symm
theorem Xro(H:Own w0 row w (hd++(ws.map Ln.part++qs)))(h:ws[l]?=some x):RowsAt w x.A 1 (Uo x.l):=by
 refine H.rowsAt (hd.length+l) (e:=3) (n:=x.l.length) (c:=x.c) ?_ Uu O
 have b:=(AB.1 h).1
 rw[AQ O,Fq,AP (by simpa using b),AD,h];rfl
theorem Xl3(h:ws[l]?=some x):ws=ws.take l++x::ws.drop (l+1):=by
 obtain⟨b,rfl⟩:=AB.1 h
 rw[<-FA b,FL]
theorem XrN{y:Ln}(h:ws[l]?=some x):ws.set l y=ws.take l++y::ws.drop (l+1):=by
 have b:=(AB.1 h).1
 exact List.set_eq_take_append_cons_drop.trans (if_pos b)
theorem XjI(h:ws[l]?=some x):(ws.map hdV)[0+l*1]?=some (hdV x):=by
 rw[As,FZ,AD,h];rfl
theorem Xpk{y:Ln}:(ws.map hdV).set (0+l*1) (hdV y)=(ws.set l y).map hdV:=by
 rw[As,FZ,List.map_set]
end
theorem Xqt{b:List EvT}{ws:List Ln}{e:EvT}{x y:Ln}(c:ws.map Ln.l=(List.range n).map λl=>plL b (wrF l) j)(o:b[j]?=some e)(p:e.ev.kind=2)(m:ws[e.ev.loc.toNat]?=some x)(q:y.l=x.l++[j]):(ws.set e.ev.loc.toNat y).map Ln.l=(List.range n).map λl=>plL b (wrF l) (j+1):=by
 have t:ws.length=n:=by have:=congrArg List.length c;simpa using this
 refine Ar λi=>?_
 rw[AD,AD,Am]
 have d:(ws.map Ln.l)[i]?=((List.range n).map λl=>plL b (wrF l) j)[i]?:=by rw[c]
 rw[AD,AD]at d
 by_cases g:e.ev.loc.toNat=i
 ·subst g
  have s:=(AB.1 m).1
  rw[m,Av O]at d
  have r:x.l=plL b (wrF e.ev.loc.toNat) j:=Ac d
  rw[if_pos Z,if_pos s,Av O]
  show some y.l=some (plL b (wrF e.ev.loc.toNat) (j+1))
  rw[N2 o,q,r,show wrF e.ev.loc.toNat e=true by unfold wrF;rw[p];simp];rfl
 ·rw[if_neg g,d]
  rcases AN i n with h|h
  ·rw[Av h]
   show some (plL b (wrF i) j)=some (plL b (wrF i) (j+1))
   rw[N2 o,show wrF i e=false by unfold wrF;rw[p];simpa using g];simp
  ·rw[AV (by simpa using h)];rfl
theorem Xoj{b:List EvT}{e:EvT}(c:b[j]?=some e)(d:¬e.ev.kind=2):((List.range n).map λl=>plL b (wrF l) j)=(List.range n).map λl=>plL b (wrF l) (j+1):=
 H9 λl _=>by rw[N2 c,show wrF l e=false by unfold wrF;simp[d]];simp
theorem Xq6{b:List EvT}{e:EvT}(d:b[j]?=some e)(c:e.ev.kind=1):plL b rdF (j+1)=plL b rdF j++[j]:=by rw[N2 d,show rdF e=true by unfold rdF;rw[c];rfl];rfl
theorem XoQ{b:List EvT}{e:EvT}(d:b[j]?=some e)(c:¬e.ev.kind=1):plL b rdF (j+1)=plL b rdF j:=by rw[N2 d,show rdF e=false by unfold rdF;simp[c]];simp
theorem Xh3{b:List EvT}{e:EvT}(c:b[j]?=some e):QQ b j=srcE b e:=by unfold QQ;rw[c]
theorem Xh2{b:List EvT}{v:UInt8}{f:EvT}(c:l[k]?=some i)(d:b[i]?=some f):(l.take (k+1)).filter (Lg b v)=(l.take k).filter (Lg b v)++if f.ev.val==v then[i]else[]:=by
 rw[At,c,FW,Fz]
 congr 1
 rw[Hi,show Lg b v i=(f.ev.val==v) by unfold Lg;rw[d]]
 cases h:f.ev.val==v<;>rfl
theorem Own.addN2{α:Type}{part:α->Res}{w0:World}{row:Option Nat}{q:α}{c:List α}{b qs hd:List Res}(H:Own w0 row w (part q::(hd++(b++(c.map part++qs))))):Own w0 row w (hd++(b++((c++[q]).map part++qs))):=by
 rw[<-AO]at H⊢
 exact H.addN
end Go.Proofs.YtajfpcgbnflceaaGreatDoor
