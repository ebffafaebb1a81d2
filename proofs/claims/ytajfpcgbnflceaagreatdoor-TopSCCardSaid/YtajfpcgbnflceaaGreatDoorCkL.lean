/- Package check: isWord, locsRight. And more of this kind. Conditions: those of each theorem. -/
import Derived.Test.YtajfpcgbnflceaaGreatDoorCkK
import Derived.Test.YtajfpcgbnflceaaGreatDoorLexK
set_option linter.unusedSimpArgs false
set_option linter.unusedVariables false
namespace Go.Proofs.YtajfpcgbnflceaaGreatDoor
open Go.Proofs.Tryz
open Go.RowKit
set_option maxRecDepth 100000
set_option maxHeartbeats 1000000
variable{p:Prg}{w:World}
section
def Q2(s:ByteArray):Bool:=(Jf s).isNone&&(match Bl s with | [t,_]=>t.kind==1&&t.text.toList==s.toList|_=>false)
theorem XbT{s:ByteArray}{g:World}{e:Ending}(h:XaY s w e g):∃(c:Value)(p:Nat)(f:Int),e=.returned (.tuple #[c,Ve (p:Int),Ve f])/\Below w.heap.size w g /\
 ((f=0/\Jf s=none/\g.ownsRow w.heap.size 128 3 c (Bl s).length (cellsOf (Bl s)))\/(f≠0/\Jf s≠none/\c=.slice none 0 0)):=by
 obtain⟨i,⟨p,f,b,d⟩|⟨b,c,d,n,_⟩⟩:=h
 ·refine⟨_,p,f,d,i,.inr ⟨?_,by rw[b];simp,Z⟩⟩
  unfold Jf at b
  split at b
  ·cases b;decide
  ·obtain⟨t,o,j⟩:=FN.1 b
   cases j
   have:∀l t,UO l=some t->UR t≠0:=by
    intro l
    induction l with
    |nil=>intro t h;cases h
    |cons a r m=>
     intro t h
     unfold UO at h
     split at h
     ·exact m t h
     ·cases h;assumption
   exact this _ _ o
 ·exact⟨c,0,0,d,i,.inl ⟨Z,b,n⟩⟩
theorem XiP{c n:Nat}{e:TypeId}{s:Nat}{m:Value}{o:List Value}(h:w.ownsRow c e s m n o):∃A C,m=.slice A n C/\(∀j v,o[j]?=some v->∃g,A=some ⟨g,0,none⟩/\w.cell? ⟨g,j,none⟩=some v):=by
 obtain⟨i,⟨rfl,rfl⟩|⟨g,d,q,rfl,_,r,_,_,t,p⟩⟩:=h
 ·exact⟨none,0,Z,λj v b=>by rw[IZ]at i;rw[List.length_eq_zero_iff.1 i]at b;simp at b⟩
 ·refine⟨_,d,Z,λj v b=>⟨g,Z,?_⟩⟩
  rw[<-p,FV]at b
  split at b
  ·simp[World.cell?,r];simpa using b
  ·cases b
theorem XgJ(s:ByteArray)(r:World)(hs:s.size<=maxLen):Va 21 #[.string s] r (.bool (Q2 s)):=by
 refine Vb func21 ntmps21 λH a F=>?_
 refine gg 7 λa F=>?_
 refine Xi call50 F Z (Xpe s _ hs) ?_;rintro e w z
 obtain⟨J,p,f,rfl,E,z⟩:=XbT z
 replace H:=H.grow E;clear E
 obtain⟨A,n,C,rfl,G⟩:∃A n C,J=.slice A n C/\((f=0/\Jf s=none/\n=(Bl s).length/\(∀j v,(cellsOf (Bl s))[j]?=some v->∃g,A=some ⟨g,0,none⟩/\w.cell? ⟨g,j,none⟩=some v))\/(f≠0/\Jf s≠none)):=by
  rcases z with⟨B,b,y⟩|⟨B,b,y⟩
  ·obtain⟨A,C,K,N⟩:=XiP y
   exact⟨A,_,C,K,.inl ⟨B,b,Z,N⟩⟩
  ·exact⟨_,_,_,y,.inr ⟨B,b⟩⟩
 refine zq λa F=>?_
 refine gg 13 λa F=>?_
 refine zSp 14 F (λo F=>?_) λo F=>?_
 ·
  have R:Jf s=none/\n=(Bl s).length/\(∀j v,(cellsOf (Bl s))[j]?=some v->∃g,A=some ⟨g,0,none⟩/\w.cell? ⟨g,j,none⟩=some v):=by
   rcases G with⟨_,b⟩|⟨b,_⟩
   ·exact b
   ·exact absurd o b
  obtain⟨c,T,d⟩:=R
  refine gg 5 λa F=>?_
  refine zSp 19 F (λQ F=>?_) λQ F=>?_
  ·
   have b:(Bl s).length=2:=O
   obtain⟨t,u,i⟩:∃t u,Bl s=[t,u]:=by match Bl s,b with | [t,u],_=>exact⟨t,u,Z⟩
   rw[i]at d
   obtain⟨q,rfl,L⟩:=d 0 _ Z
   obtain⟨U,D,I⟩:=d 1 _ Z
   cases D
   refine gg 1 λa F=>?_
   refine sIx (j:=0) underlying123 sizeOf128 F Z Z Z Z ?_ ?_
   focus(omega)
   clear F a;intro a F
   refine gg 1 λa F=>?_
   refine sLd isAgg126 F Z Z Z L λa F=>?_
   refine gg 3 λa F=>?_
   refine zSp 26 F (λP F=>?_) λP F=>?_
   ·
    have m:(t.kind==1)=true:=by simp;omega
    refine gg 1 λa F=>?_
    refine sIx (j:=0) underlying123 sizeOf128 F Z Z Z Z ?_ ?_
    focus(omega)
    clear F a;intro a F
    refine gg 1 λa F=>?_
    refine sLd isAgg9 F Z Z Z I λa F=>?_
    refine gg 1 λa F=>?_
    refine Xh F Z Z Xn5 λa F=>?_
    refine gg 5 λa F=>?_
    exact⟨U4 (by rw[Q2,c,i];simp only[m];rfl),H.below⟩
   have m:(t.kind==1)=false:=by simp;omega
   refine gg 11 λa F=>?_
   exact⟨U4 (by rw[Q2,c,i];simp only[m];rfl),H.below⟩
  have b:(Bl s).length≠2:=O
  refine gg 18 λa F=>?_
  exact⟨U4 (by rw[Q2,c];symm;rw[HG];right;split<;>simp_all),H.below⟩
 have c:(Jf s).isNone=false:=by
  rcases G with⟨b,_⟩|⟨_,b⟩
  ·exact absurd b o
  ·cases M:Jf s with
   |none=>exact absurd M b
   |some _=>rfl
 refine gg 23 λa F=>?_
 exact⟨U4 (by rw[Q2,c,Hu]),H.below⟩
def Lx(l:List ByteArray):Nat->List ByteArray->Bool
 |_,[]=>true
 |j,x::r=>(NQ x && !(Bp x (l.take j) 0).isSome)&&Lx l (j+1) r
theorem Lw{l m:List ByteArray}{j:Nat}{x:ByteArray}(b:l[j]?=some x):Lx m j (l.drop j)=((NQ x && !(Bp x (m.take j) 0).isSome)&&Lx m (j+1) (l.drop (j+1))):=by
 obtain⟨c,rfl⟩:=AB.1 b
 rw[FA c]
 rfl
def Q6(p:Prg):Bool:=(decide (1<=p.locs.length)&&decide (p.locs.length<=6)&&p.init.length==p.locs.length)&&Lx p.locs 0 p.locs
theorem StrsAt.take{A:Option Addr}{l:List ByteArray}(h:StrsAt w A l)(j:Nat):StrsAt w A (l.take j):=by
 intro k c b
 refine h k c ?_;rw[AD]at b⊢;rw[FV]at b
 split at b
 ·exact b
 ·cases b
set_option maxRecDepth 10000 in
theorem Xah(B:Nat)(C:List Value)(p:Prg)(g:World)(d:g.rangeAt B 0 C)(L:ProgAt g C p):
 Calls prog 23 #[Vc B 0] g λe M=>e=.returned (.bool (Q6 p))/\Below g.heap.size g M:=by
 obtain⟨R,J,U,W,P,V,h,D,n⟩:=L
 have r:=n.cs
 subst r
 have Q:=n.locsN
 have S:=n.initN
 have I:=n.locsC
 have H:=Own.start g none
 refine VU func23 Z ntmps23 Z (λa F=>?_)
 refine gg 4 λa F=>?_
 refine cSeqS [0] (λc w=>(decide (1<=p.locs.length)&&decide (p.locs.length<=6)&&p.init.length==p.locs.length)=true/\c=[]/\Own g none w []) F ?_ ?_
 ·
  refine gg 1 λa F=>?_
  refine D8 Y H ?_;replace H:=H.drew;refine Xj F Z (λw H=>rMv F Z) H qq0 (Xk Z (λa F w H=>rNc F Z) H qq0 (Xk Z (λa F w H=>rFa (f:=1) (k:=1) XJ Z sizeOf22 Z Z F Z) H qq0 (Xk Z (λa F w H=>rLd isAgg22 F Z (H.arg (d 1 _ Z))) H qq0 (Xk Z (λa F w H=>Xns X0 F Z) H qq0 (Xk Z (λa F w H=>Gt F Z Z bLss) H qq0 (Xk Z (λa F w H=>rMv F Z) H qq0 λa F=>?_))))))
  refine zSp 11 F (λE F=>?_) λE F=>?_
  ·
   refine Xg0 Y Y F Z Z Z H qq0 (Xl Z H qq0 (Xl Z H qq0 (Xl Z H qq0 (Xl Z H qq0 (Xl Z H qq0 (Xk Z (λa F w H=>rPk F Z Z) H qq0 (Xk Z (λa F w H=>rMv F Z) H qq0 (Xl Z H qq0 (Xl Z H qq0 (Xl Z H qq0 (Xl Z H qq0 (Xl Z H qq0 (Xl Z H qq0 (Xl Z H qq0 (Xl Z H qq0 (Xl Z H qq0 (Xl Z H qq0 (Xl Z H qq0 (Xk Z (λa F w H=>rPk F Z Z) H qq0 λa F=>?_)))))))))))))))))))
   refine Xhg (k:=27) ?_ Z
   refine gg 0 λa F=>?_
   refine cIfT F Z ?_
   refine gg 6 λa F=>?_
   exact⟨U4 (by clear F d;rw[Q6];symm;rw[HG];left;simp_all<;>omega),H.below⟩
  refine Xj F Z (λw H=>rMv F Z) H qq0 (Xk Z (λa F w H=>rNc F Z) H qq0 (Xk Z (λa F w H=>rFa (f:=1) (k:=1) XJ Z sizeOf22 Z Z F Z) H qq0 (Xk Z (λa F w H=>rLd isAgg22 F Z (H.arg (d 1 _ Z))) H qq0 (Xk Z (λa F w H=>Xns X0 F Z) H qq0 (Xk Z (λa F w H=>Gt F Z Z bGtr) H qq0 (Xk Z (λa F w H=>rPk F Z Z) H qq0 (Xk Z (λa F w H=>rMv F Z) H qq0 λa F=>?_)))))))
  refine zSp 19 F (λK F=>?_) λK F=>?_
  ·
   refine Xg0 Y Y F Z Z Z H qq0 (Xl Z H qq0 (Xl Z H qq0 (Xl Z H qq0 (Xl Z H qq0 (Xl Z H qq0 (Xl Z H qq0 (Xl Z H qq0 (Xl Z H qq0 (Xl Z H qq0 (Xl Z H qq0 (Xk Z (λa F w H=>rPk F Z Z) H qq0 λa F=>?_)))))))))))
   refine Xhg (k:=27) ?_ Z
   refine gg 0 λa F=>?_
   refine cIfT F Z ?_
   refine gg 6 λa F=>?_
   exact⟨U4 (by clear F d;rw[Q6];symm;rw[HG];left;simp_all<;>omega),H.below⟩
  refine Xj F Z (λw H=>rMv F Z) H qq0 (Xk Z (λa F w H=>rNc F Z) H qq0 (Xk Z (λa F w H=>rFa (f:=2) (k:=2) XJ Z sizeOf23 Z Z F Z) H qq0 (Xk Z (λa F w H=>rLd isAgg23 F Z (H.arg (d 2 _ Z))) H qq0 (Xk Z (λa F w H=>Xns underlying23 F Z) H qq0 (Xk Z (λa F w H=>rMv F Z) H qq0 (Xk Z (λa F w H=>rNc F Z) H qq0 (Xk Z (λa F w H=>rFa (f:=1) (k:=1) XJ Z sizeOf22 Z Z F Z) H qq0 (Xk Z (λa F w H=>rLd isAgg22 F Z (H.arg (d 1 _ Z))) H qq0 (Xk Z (λa F w H=>Xns X0 F Z) H qq0 (Xk Z (λa F w H=>Gt F Z Z bNeq) H qq0 (Xk Z (λa F w H=>rPk F Z Z) H qq0 λa F=>?_)))))))))))
  refine Xhg (k:=27) ?_ Z
  refine gg 1 λa F=>zi (λu=>?_) λu=>?_
  ·
   refine gg 6 λa F=>?_
   exact⟨U4 (by clear F d;rw[Q6];symm;rw[HG];left;simp_all<;>omega),H.below⟩
  refine gg 1 λa F=>?_
  refine⟨[],⟨?_,Z,H⟩,F.tt⟩
  clear F d
  simp_all<;>omega
 clear F H
 intro c a w A F
 obtain⟨i,rfl,H⟩:=A
 refine gg 11 λa F=>?_
 refine cLoopS [0,35,36] (λm c w=>∃j:Nat,m=p.locs.length-j/\c=[(37,Ve (j:Int))]/\j<=p.locs.length/\Lx p.locs 0 p.locs=Lx p.locs j (p.locs.drop j)/\Own g none w []) F (p.locs.length) [(37,Ve ((0:Nat):Int))] ?_ ?_
 ·exact⟨0,Z,Z,AU _,Z,H⟩
 clear F H;intro m c a w A F
 obtain⟨j,rfl,rfl,N,q,H⟩:=A
 refine gg 6 λa F=>zi (λs=>?_) λs=>?_
 ·
  have y:j<p.locs.length:=O
  obtain⟨x,o⟩:∃x,p.locs[j]?=some x:=⟨_,AA y⟩
  obtain⟨b,v,rfl,T⟩:=n.locs.get o
  have z:(p.locs.take j).length=j:=by rw[Aj];omega
  refine gg 14 λa F=>?_
  refine Xi call51 F Z (XlU x _ (n.locsS x (AF o)) _ Z) ?_;rintro e w ⟨rfl,rfl⟩
  refine zq λa F=>?_
  refine gg 2 λa F=>?_
  refine zSp 45 F (λG F=>?_) λG F=>?_
  ·
   refine gg 10 λa F=>?_
   refine cIfT F Z ?_
   refine gg 6 λa F=>?_
   exact⟨U4 (by rw[Q6,i,IL,q,Lw o];clear F d;simp_all),H.below⟩
  refine gg 5 λa F=>?_
  refine XqN X0 (λw=>⟨_,sizeOf9 w⟩) F Z Z Z Z ?_ ?_
  focus(omega)
  clear F a;intro a F
  refine gg 1 λa F=>?_
  refine zCa F ((by have:=Xcp (some ⟨b,v,none⟩) J (p.locs.take j) x w (RowsAt.own (n.locs.take j) H) O;rw[z]at this;exact this)) H λa w F H=>?_
  refine gg 2 λa F=>?_
  refine cIf F Z (λt=>?_) (λt=>?_)
  ·
   refine gg 6 λa F=>?_
   exact⟨U4 (by rw[Q6,i,IL,q,Lw o];clear F d;simp_all),H.below⟩
  refine gg 5 λa F=>?_
  exact⟨p.locs.length-(j+1),O,_,⟨j+1,Z,Z,O,by rw[q,Lw o];simp_all,H⟩,F.tt⟩
 refine gg 7 λa F=>?_
 exact⟨U4 (by rw[Q6,i,IL,q,Fh O];rfl),H.below⟩
end
section
theorem Xd8(V B:Nat)(g:List Value)(p:Prg)(b:World)(j:PvAt b V B g p):
 Calls prog 20 #[Vc V 0] b λe m=>e=.returned (.bool (Q2 p.name))/\Below b.heap.size b m:=by
 obtain⟨q,u,n,r,t,v,s,o,h,i,d⟩:=j
 have c:=d.cs
 subst c
 have H:=Own.start b none
 refine VU func20 Z ntmps20 Z (λa F=>?_)
 refine gg 10 λa F=>?_
 refine zCa F (XgJ p.name _ d.name) H λa w F H=>?_
 refine gg 4 λa F=>?_
 exact⟨Z,H.below⟩
theorem Xd7(V B:Nat)(c:List Value)(p:Prg)(b:World)(g:PvAt b V B c p):
 Calls prog 22 #[Vc V 0] b λe i=>e=.returned (.bool (Q6 p))/\Below b.heap.size b i:=by
 obtain⟨m,j,d⟩:=g
 have H:=Own.start b none
 refine VU func22 Z ntmps22 Z (λa F=>?_)
 refine gg 7 λa F=>?_
 refine zCa F (Xah B c p _ (H.argR j) (d.own H)) H λa w F H=>?_
 refine gg 4 λa F=>?_
 exact⟨Z,H.below⟩
def GN(V E:Nat):List (Int×Value):=[(70,.func (.func 20) #[] #[.pointer (some ⟨V,0,none⟩)]),(71,.func (.func 22) #[] #[.pointer (some ⟨V,0,none⟩)]),
 (72,.func (.func 24) #[] #[.pointer (some ⟨V,0,none⟩),.pointer (some ⟨E,0,none⟩)]),(73,.func (.func 26) #[] #[.pointer (some ⟨E,0,none⟩),.pointer (some ⟨V,0,none⟩)]),
 (75,.func (.func 29) #[] #[.pointer (some ⟨V,0,none⟩)]),(74,.func (.func 30) #[] #[.pointer (some ⟨V,0,none⟩)])]
def N9(V E:Nat):List Value:=(GN V E).flatMap λq=>[.int .i64 q.1,q.2]
theorem Xd2(B:Nat)(b:World):
 Calls prog 13 #[Vc B 0] b λe c=>∃V E D,e=.returned (Vd D 0 6 6) /\
  Own b none c [.blk D (N9 V E) 49,.blk E [.func (.func 19) #[] #[Vc V 0]] 87,.blk V [Vc B 0] 47]:=by
 refine Vb func13 ntmps13 λH a F=>?_
 refine gg 2 λa F=>?_
 refine zBx H F λi a w F H=>?_
 refine gg 5 λa F=>?_
 refine zAl zeroValue87 H F λg a w F H=>?_
 refine zSt H 0 F λw H=>?_
 refine gg 4 λa F=>?_
 refine sBd (places:=[(0,1),(1,1)]) XS XT Y F Z Z Z Z λa F=>?_
 refine gg 1 λa F=>?_
 refine sBd (places:=[(0,1),(1,1)]) XS XT Y F Z Z Z Z λa F=>?_
 refine gg 1 λa F=>?_
 refine sBd (places:=[(0,1),(1,1)]) XS XT Y F Z Z Z Z λa F=>?_
 refine gg 1 λa F=>?_
 refine sBd (places:=[(0,1),(1,1)]) XS XT Y F Z Z Z Z λa F=>?_
 refine gg 1 λa F=>?_
 refine sBd (places:=[(0,1),(1,1)]) XS XT Y F Z Z Z Z λa F=>?_
 refine gg 1 λa F=>?_
 refine sBd (places:=[(0,1),(1,1)]) XS XT Y F Z Z Z Z λa F=>?_;refine sBs H underlying45 sizeOf49 XS Z F Z Z Z Z Z λd a w F H=>?_
 refine gg 4 λa F=>?_
 exact⟨_,_,_,Z,H⟩
def Jl(p:Prg):Nat->Bool
 |0=>Q2 p.name
 |1=>Q6 p
 |2=>Gi p
 |3=>J7 p
 |4=>Xeg p
 |5=>UP p.threads.length p.locs.length 20 p.cond
 |_=>true
def XaC:Nat->Int
 |0=>70|1=>71|2=>72|3=>73|4=>75|5=>74|_=>0
def Ja(p:Prg):Nat->Nat->Int
 |0,_=>0
 |n+1,k=>if Jl p k then Ja p n (k+1)else XaC k
def VX(p:Prg):Int:=Ja p 6 0
theorem XjH(k V E B:Nat)(q:Int×Value)(d:List Value)(p:Prg)(c:World)(g:PvAt c V B d p)(i:c.rangeAt E 0 [.func (.func 19) #[] #[Vc V 0]])(j:NeedsAt c)(b:(GN V E)[k]?=some q):
 q.1=XaC k/\JL prog q.2 [] c (λe m=>e=.returned (.bool (Jl p k))/\Below c.heap.size c m):=by
 match k,b with
 |0,b=>cases b;exact⟨Z,_,[],[Vc V 0],Z,call20,Xd8 V B d p c g⟩
 |1,b=>cases b;exact⟨Z,_,[],[Vc V 0],Z,call22,Xd7 V B d p c g⟩
 |2,b=>cases b;exact⟨Z,_,[],[Vc V 0,Vc E 0],Z,call24,Xd6 E V B d p c g i⟩
 |3,b=>cases b;exact⟨Z,_,[],[Vc E 0,Vc V 0],Z,call26,Xd5 E V B d p c g j i⟩
 |4,b=>cases b;exact⟨Z,_,[],[Vc V 0],Z,call29,Xd4 V B d p c g⟩
 |5,b=>cases b;exact⟨Z,_,[],[Vc V 0],Z,call30,Xd3 V B d p c g⟩
 |n+6,b=>simp[GN]at b
theorem Xcn(V E k:Nat)(q:Int×Value)(b:(GN V E)[k]?=some q):((N9 V E).drop (k*2)).take 2=[Ve q.1,q.2]:=by
 match k,b with
 |0,b=>cases b;rfl
 |1,b=>cases b;rfl
 |2,b=>cases b;rfl
 |3,b=>cases b;rfl
 |4,b=>cases b;rfl
 |5,b=>cases b;rfl
 |n+6,b=>simp[GN]at b
theorem XgY(V E k:Nat)(q:Int×Value)(b:(GN V E)[k]?=some q):q.2.oneCell'=true:=by
 match k,b with
 |0,b=>cases b;rfl
 |1,b=>cases b;rfl
 |2,b=>cases b;rfl
 |3,b=>cases b;rfl
 |4,b=>cases b;rfl
 |5,b=>cases b;rfl
 |n+6,b=>simp[GN]at b
theorem L0{k:Nat}(b:k<6):Ja p (6-k) k=if Jl p k then Ja p (6-(k+1)) (k+1)else XaC k:=by
 have:6-k=(6-(k+1))+1:=O
 rw[this];rfl
theorem Qb(j:List Value)(p:Prg)(c:World)(z:ProgAt c j p)(y:NeedsAt c):
 Va 7 #[.agg j.toArray] c (Ve (VX p)):=by
 refine Vb func7 ntmps7 λH a F=>?_
 refine gg 2 λa F=>?_
 refine zBx H F λr a w F H=>?_
 refine gg 5 λa F=>?_
 refine Xi call13 F Z (Xd2 _ _) ?_;rintro e w ⟨V,E,D,rfl,u⟩;replace H:=H.join u;clear u
 refine zq λa F=>?_
 refine gg 4 λa F=>?_
 refine cLoopS [5,6] (λm d w=>∃k:Nat,m=6-k/\d=[(7,Ve (k:Int))]/\k<=6/\VX p=Ja p (6-k) k/\Own c none w [.blk D (N9 V E) 49,.blk E [.func (.func 19) #[] #[Vc V 0]] 87,.blk V [Vc r 0] 47,.blk r j 29]) F (6) [(7,Ve ((0:Nat):Int))] ?_ ?_
 ·exact⟨0,Z,Z,O,Z,H⟩
 clear F H;intro m d a w C F
 obtain⟨k,rfl,rfl,I,o,H⟩:=C
 refine gg 6 λa F=>zi (λv=>?_) λv=>?_
 ·
  have g:k<6:=O
  obtain⟨q,s⟩:∃q,(GN V E)[k]?=some q:=⟨_,AA (by simp only[GN,AY,Fw];omega)⟩
  have A:=XgY V E k q s
  refine gg 6 λa F=>?_
  refine sLr XT Z ?si F Z Z Z (by have:=H.range 0 Z (0+k*2) 2;rw[As]at this⊢;rw[Xcn V E k q s]at this;exact this) ?_
  case si=>exact VT sizeOf49
  clear F a;intro a F
  refine zAl XS H F λG a w F H=>?_
  refine sSr H 0 ?si F Z Z Z ?s1 Z Z ?_
  case si=>exact VT sizeOf49
  case s1=>(repeat(first|exact XiV|(apply Xe3;· first|rfl|assumption|exact XiW rfl rfl)))
  clear H;intro w H
  refine gg 5 λa F=>?_
  obtain⟨n,i⟩:=XjH k V E r q j p w ⟨H.whole 3 Z,H.whole 4 Z,z.own H⟩ (H.whole 2 Z) (y.own H) s
  refine NL F Z Z Z Z i ?_;rintro e w ⟨rfl,t⟩
  replace H:=H.grow t;clear t i
  refine zq λa F=>?_
  refine gg 3 λa F=>zi (λb=>?_) λb=>?_
  ·
   refine gg 8 λa F=>?_
   exact⟨by rw[o,L0 g,if_neg (by simp[b]),<-n],H.below⟩
  refine gg 5 λa F=>?_
  exact⟨6-(k+1),O,_,⟨k+1,Z,Z,O,by rw[o,L0 g,if_pos b],H.tail⟩,F.tt⟩
 refine gg 7 λa F=>?_
 exact⟨by rw[o,(by omega:6-k=0)];rfl,H.below⟩
end
theorem XgZ:∀k,k<6->XaC k≠0
 |0,_=>by decide
 |1,_=>by decide
 |2,_=>by decide
 |3,_=>by decide
 |4,_=>by decide
 |5,_=>by decide
 |k+6,h=>O
theorem NM{p:Prg}:∀(n k:Nat),n+k<=6->Ja p n k=0->∀i,k<=i->i<k+n->Jl p i=true
 |0,_,_,_,i,c,b=>O
 |n+1,k,e,h,i,c,b=>by
  unfold Ja at h
  split at h
  ·rename_i d
   rcases AN k i with h3|h3
   ·exact NM n (k+1) O h i O O
   ·obtain rfl:k=i:=O
    exact d
  ·exact absurd h (XgZ k O)
theorem U3(h:VX p=0)(i:Nat)(b:i<6):Jl p i=true:=NM 6 0 O h i O O
structure Valid (p:Prg):Prop where
 locs1:1<=p.locs.length
 locs6:p.locs.length<=6
 init:p.init.length=p.locs.length
 thr1:1<=p.threads.length
 thr4:p.threads.length<=4
 long:∀(t:Nat)(l:List Ins),p.threads[t]?=some l->l.length<=12
 ins:∀(t:Nat)(l:List Ins),p.threads[t]?=some l->GK p.locs.length l.length 0 l=true
 ask:p.ask=1\/p.ask=2\/p.ask=3
theorem valid(h:VX p=0):Valid p:=by
 have c:Q6 p=true:=U3 h 1 O
 have b:Gi p=true:=U3 h 2 O
 have e:J7 p=true:=U3 h 3 O
 have g:Xeg p=true:=U3 h 4 O
 simp only[Q6,Gi,J7,Xeg,AJ,decide_eq_true_eq,beq_iff_eq,FM,Ah]at c b e g
 refine⟨c.1.1.1,c.1.1.2,c.1.2,b.1.1,b.1.2,λt l d=>b.2 l (AF d),λt l d=>?_,by rcases g with(h|h)|h<;>simp[h]⟩
 have:=e l (AF d)
 simp only[Ua,AJ]at this
 exact this.2
theorem Jo{b:Int}{n:Nat}:∀{l:List Ins}{i k:Nat}{x:Ins},GK b n i l=true->l[k]?=some x->LF x b ((n:Int)-1-((i+k:Nat):Int))=true
 | [],_,_,_,_,c=>by simp at c
 |y::r,i,0,x,h,c=>by
  simp only[GK,AJ]at h
  simp only[I0,FE]at c
  subst c
  exact h.1
 |y::r,i,k+1,x,h,c=>by
  simp only[GK,AJ]at h
  have:=Jo (k:=k) h.2 (by simpa using c)
  rwa [show i+1+k=i+(k+1) by omega]at this
theorem U8{x:Ins}{c b:Int}(h:LF x c b=true)(k:Nat)(d:k<8):Jt x c b k=true:=by
 simp only[LF,Ah,Ab]at h
 exact h k d
theorem MF(x:UInt8)(h:(decide (1<=x)&&decide (x<=8))=true):x=1\/x=2\/x=3\/x=4\/x=5\/x=6\/x=7\/x=8:=by
 simp only[AJ,decide_eq_true_eq,Ai]at h
 have b:x=UInt8.ofNat x.toNat:=by simp
 have d:(1:UInt8).toNat=1:=rfl
 have c:(8:UInt8).toNat=8:=rfl
 rw[d,c]at h
 rcases(by omega:x.toNat=1\/x.toNat=2\/x.toNat=3\/x.toNat=4\/x.toNat=5\/x.toNat=6\/x.toNat=7\/x.toNat=8)with h|h|h|h|h|h|h|h<;>rw[h]at b<;>simp[b]
end Go.Proofs.YtajfpcgbnflceaaGreatDoor
