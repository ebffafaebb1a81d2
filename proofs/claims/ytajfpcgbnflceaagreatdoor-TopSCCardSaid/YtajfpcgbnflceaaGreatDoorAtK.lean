/- Plain Lean: threads and states by place (a thread: its Pc at 0, its registers from 1 on; a state: thread t from 9 t on, memory from 36 on, US from 42 on, their  And more of this kind. Conditions: those of each theorem. -/
import Derived.Test.YtajfpcgbnflceaaGreatDoorCkL
set_option linter.unusedSimpArgs false
set_option linter.unusedVariables false
namespace Go.Proofs.YtajfpcgbnflceaaGreatDoor
open Go.Proofs.Tryz
open Go.RowKit
set_option maxRecDepth 100000
set_option maxHeartbeats 2000000
variable{a b s:By}{i j k n t:Nat}{l:List Ins}{p:Prg}{x:Ins}
def JO(r:Bool)(n:UInt8)(b:By):UInt8:=if r then(if n.toNat<8 then b n.toNat else 0)else n
def L9(c a b:UInt8):UInt8:=if c=1 then a+b else if c=2 then a-b else if c=3 then a^^^b else 0
def NK(c a b:UInt8):Bool:=if c=4 then a==b else if c=5 then a != b else if c=6 then decide (a<b)else false
def Qq(x:Ins)(t:By):UInt8:=JO x.aR x.aN (cut t 1)
def XaZ(x:Ins)(t:By):UInt8:=JO x.bR x.bN (cut t 1)
def NV(t:By)(b v:UInt8):By:=if b.toNat<8 then put t (1+b.toNat) v else t
def Je(x:Ins)(t:By):By:=
 if x.op=3 then put (NV t x.dst (L9 x.fn (Qq x t) (XaZ x t))) 0 (t 0+1)
 else if x.op=8 then put t 0 (if NK x.fn (Qq x t) (XaZ x t)then t 0+x.skip+1 else t 0+1)
 else if x.op=7 then put t 0 (t 0+1)
 else t
def VV(x:Ins):Bool:=x.op==3||x.op==8||x.op==7
def EM(x:Ins)(t:By)(b:UInt8):UInt8:=
 if x.op=2\/x.op=4 then Qq x t else if x.op=5 then b+Qq x t else if x.op=6 then(if b=Qq x t then XaZ x t else b)else b
def XgU(x:Ins)(t:By)(b:UInt8):By:=put (if x.op=2 then t else NV t x.dst b) 0 (t 0+1)
def N5(x:Ins)(s:By)(t:Nat):By:=
 if VV x then lay s (t*9) 9 (Je x (cut s (t*9)))
 else lay (put s (36+x.loc.toNat) (EM x (cut s (t*9)) (s (36+x.loc.toNat)))) (t*9) 9 (XgU x (cut s (t*9)) (s (36+x.loc.toNat)))
section
theorem Xgh{a b:UInt8}(h:a=b):(Ending.returned (b8 a):Ending)=.returned (b8 b):=by rw[h]
theorem QR(r:Bool)(n:UInt8)(s:By)(b:World):Va 159 #[.agg #[.bool r,b8 n],.agg (bs 8 s).toArray] b (b8 (JO r n s)):=by
 refine Vb func159 ntmps159 λH a F=>?_
 refine gg 2 λa F=>?_
 refine zBx H F λj a w F H=>?_
 refine Eo H F λi a w F H=>?_
 refine gg 10 λa F=>zi (λg=>?_) λg=>?_
 ·
  refine gg 8 λa F=>?_
  exact⟨by exact Xgh (by simp_all[JO,cut];skip),H.below⟩
 refine gg 10 λa F=>zi (λc=>?_) λc=>?_
 ·
  refine gg 6 λa F=>?_
  exact⟨by exact Xgh (a:=0) (by simp_all[JO,cut];omega),H.below⟩
 refine gg 5 λa F=>?_
 refine XqS XI Xr F Z Z Z Z ?_ ?_
 focus(omega)
 clear F a;intro a F
 refine gg 5 λa F=>?_
 exact⟨by exact Xgh (by simp_all[JO,cut];omega),H.below⟩
theorem Xja(i a b:UInt8)(c:World):Va 203 #[b8 i,b8 a,b8 b] c (b8 (L9 i a b)):=by
 refine Vb func203 ntmps203 λH a F=>?_
 refine gg 16 λa F=>zi (λj=>?_) λj=>?_
 ·
  refine gg 9 λa F=>?_
  exact⟨by exact Xgh (by simp_all[L9]),H.below⟩
 refine gg 6 λa F=>zi (λg=>?_) λg=>?_
 ·
  refine gg 9 λa F=>?_
  exact⟨by exact Xgh (by simp_all[L9]),H.below⟩
 refine gg 6 λa F=>zi (λd=>?_) λd=>?_
 ·
  refine gg 9 λa F=>?_
  exact⟨by exact Xgh (by simp_all[L9]),H.below⟩
 refine gg 7 λa F=>?_
 exact⟨by exact Xgh (a:=0) (by simp_all[L9]),H.below⟩
theorem Xh8(i a b:UInt8)(c:World):Va 204 #[b8 i,b8 a,b8 b] c (.bool (NK i a b)):=by
 refine Vb func204 ntmps204 λH a F=>?_
 refine gg 16 λa F=>zi (λj=>?_) λj=>?_
 ·
  refine gg 9 λa F=>?_
  exact⟨U4 (by simp_all[NK]),H.below⟩
 refine gg 6 λa F=>zi (λg=>?_) λg=>?_
 ·
  refine gg 9 λa F=>?_
  exact⟨U4 (by simp_all[NK]),H.below⟩
 refine gg 6 λa F=>zi (λd=>?_) λd=>?_
 ·
  refine gg 9 λa F=>?_
  exact⟨U4 (by simp_all[NK]),H.below⟩
 refine gg 7 λa F=>?_
 exact⟨U4 (by simp_all[NK]),H.below⟩
end
section
theorem Xgg{t:By}{v:Value}(h:∀i,i<n->s i=t i):(Ending.returned (.tuple #[.agg (bs n s).toArray,v]):Ending)=.returned (.tuple #[.agg (bs n t).toArray,v]):=by rw[XfK h]
theorem ML(x:Ins)(t:By)(g:World):
 Va 162 #[.agg x.cells.toArray,.agg (bs 9 t).toArray] g (.tuple #[.agg (bs 9 (Je x t)).toArray,.bool (VV x)]):=by
 refine Vb func162 ntmps162 λH a F=>?_
 refine gg 2 λa F=>?_
 refine zBx H F λq a w F H=>?_
 refine Eo H F λs a w F H=>?_
 refine Mj Xof H F λr a w F H=>?_
 refine gg 3 λa F=>?_
 refine zRO H λH=>?_
 refine gg 1 λa F=>?_
 refine Xa (k:=1) (i:=1) Z F Z Z (λw H=>rLr X8 Z ?si F Z (H.range 2 Z _ 2)) H (λ_ _ _ h=>h) ?_
 case si=>exact VT X6
 clear F a;intro a F
 refine gg 2 λa F=>?_
 refine Xb 5 Z F Z (λw=>rFa (f:=4) (k:=5) Xy Z X6 Z Z F Z) H qq0 λa F=>?_
 refine Xa (k:=5) (i:=6) Z F Z Z (λw H=>rLr X8 Z ?si F Z (H.range 2 Z _ 2)) H (λ_ _ _ h=>h) ?_
 case si=>exact VT X6
 clear F a;intro a F;refine Xb 7 Z F Z (λw=>rFa (f:=1) (k:=1) Xn Z XF Z Z F Z) H qq0 (qT 8 Z Y Z Z Z Z (λa F w H=>L3 XI Z XF F Z (H.rangeB 1 _ 8 Z O)) H qq0 λa F=>?_)
 refine zEc 4 F (QR x.aR x.aN (cut t 1) _) H λa w F H=>?_
 refine V6 H ?_
 refine zEc 9 F (QR x.bR x.bN (cut t 1) _) H λa w F H=>?_
 refine gg 17 λa F=>zi (λn=>?_) λn=>?_
 ·
  refine gg 8 λa F=>zi (λd=>?_) λd=>?_
  ·
   replace d:x.dst.toNat<8:=O
   refine zRO H λH=>?_
   refine gg 6 λa F=>?_
   refine Xb 7 Z F Z (λw=>rFa (f:=1) (k:=1) Xn Z XF Z Z F Z) H qq0 λa F=>?_
   refine zEc 6 F (Xja x.fn _ _ _) H λa w F H=>?_
   refine V6 H ?_
   refine gg 1 λa F=>?_
   refine Xd (k:=9) (i:=9) Z F (oStB H 1 Xr F Z Z Z O λw H=>?_)
   refine gg 8 λa F=>?_
   refine Ct H 1 F λw H=>?_
   refine gg 4 λa F=>?_
   refine Gp H 0 F λw H=>?_
   rw[V3]at H
   refine gg 3 λa F=>?_
   refine QM X9 F Z Z Xn Z Xo H 0 Z ?_
   refine⟨?_,H.below⟩
   clear F H
   (have c:VV x=true:=by simp[VV, *]
    rw[c];refine Xgg λi _=>?_;by_cases b:i=0<;>simp[Je,NV,Qq,XaZ,put,b, *]<;>omega)
  replace d:¬x.dst.toNat<8:=O
  refine gg 7 λa F=>?_
  refine Ct H 1 F λw H=>?_
  refine gg 4 λa F=>?_
  refine Gp H 0 F λw H=>?_
  rw[V3]at H
  refine gg 3 λa F=>?_
  refine QM X9 F Z Z Xn Z Xo H 0 Z ?_
  refine⟨?_,H.below⟩
  clear F H
  (have c:VV x=true:=by simp[VV, *]
   rw[c];refine Xgg λi _=>?_;by_cases b:i=0<;>simp[Je,NV,Qq,XaZ,put,b, *]<;>omega)
 refine gg 6 λa F=>zi (λo=>?_) λo=>?_
 ·
  refine gg 6 λa F=>?_
  refine zCa F (Xh8 x.fn _ _ _) H λa w F H=>?_
  refine gg 1 λa F=>?_
  refine cIf F Z (λm=>?_) (λm=>?_)
  ·
   refine gg 7 λa F=>?_
   refine Ct H 1 F λw H=>?_
   refine gg 7 λa F=>?_
   refine Ct H 1 F λw H=>?_
   refine gg 4 λa F=>?_
   refine Gp H 0 F λw H=>?_
   rw[V3]at H
   refine gg 3 λa F=>?_
   refine QM X9 F Z Z Xn Z Xo H 0 Z ?_
   refine⟨?_,H.below⟩
   clear F H
   (have c:VV x=true:=by simp[VV, *]
    rw[c];refine Xgg λi _=>?_;by_cases b:i=0<;>simp[Je,NV,Qq,XaZ,put,b, *]<;>omega)
  refine gg 7 λa F=>?_
  refine Ct H 1 F λw H=>?_
  refine gg 4 λa F=>?_
  refine Gp H 0 F λw H=>?_
  rw[V3]at H
  refine gg 3 λa F=>?_
  refine QM X9 F Z Z Xn Z Xo H 0 Z ?_
  refine⟨?_,H.below⟩
  clear F H
  (have c:VV x=true:=by simp[VV, *]
   rw[c];refine Xgg λi _=>?_;by_cases b:i=0<;>simp[Je,NV,Qq,XaZ,put,b, *]<;>omega)
 refine gg 6 λa F=>zi (λj=>?_) λj=>?_
 ·
  refine gg 7 λa F=>?_
  refine Ct H 1 F λw H=>?_
  refine gg 4 λa F=>?_
  refine Gp H 0 F λw H=>?_
  rw[V3]at H
  refine gg 3 λa F=>?_
  refine QM X9 F Z Z Xn Z Xo H 0 Z ?_
  refine⟨?_,H.below⟩
  clear F H
  (have c:VV x=true:=by simp[VV, *]
   rw[c];refine Xgg λi _=>?_;by_cases b:i=0<;>simp[Je,NV,Qq,XaZ,put,b, *]<;>omega)
 refine gg 3 λa F=>?_
 refine Gp H 0 F λw H=>?_
 rw[V3]at H
 refine gg 3 λa F=>?_
 refine QM X9 F Z Z Xn Z Xo H 0 Z ?_
 refine⟨?_,H.below⟩
 clear F H
 (have c:VV x=false:=by simp[VV, *]
  rw[c];refine Xgg λi _=>?_;by_cases b:i=0<;>simp[Je,NV,Qq,XaZ,put,b, *]<;>omega)
end
section
def XmI(d c a b:UInt8):UInt8:=if d=2\/d=4 then a else if d=5 then c+a else if d=6 then(if c=a then b else c)else c
def effs:List (UInt8×Value):=[(1,.func (.func 240) #[] #[]),(2,.func (.func 241) #[] #[]),(4,.func (.func 242) #[] #[]),(5,.func (.func 243) #[] #[]),(6,.func (.func 244) #[] #[])]
def NH(b:UInt8):Prop:=b=1\/b=2\/b=4\/b=5\/b=6
theorem Xd1(c:World):Calls prog 231 #[] c λe d=>∃b,e=.returned (.map (some b))/\Own c none d [.mpB b effs]:=by
 refine Vb func231 ntmps231 λH a F=>?_
 refine gg 6 λa F=>?_
 refine sMkM H F Z Z λg a w F H=>?_;refine XqQ (k:=1) H 0 XU Xq F Z Z Z Z Z Z λw H=>?_;refine XqQ (k:=2) H 0 XU Xq F Z Z Z Z Z Z λw H=>?_;refine XqQ (k:=4) H 0 XU Xq F Z Z Z Z Z Z λw H=>?_;refine XqQ (k:=5) H 0 XU Xq F Z Z Z Z Z Z λw H=>?_;refine XqQ (k:=6) H 0 XU Xq F Z Z Z Z Z Z λw H=>?_
 refine gg 5 λa F=>?_
 exact⟨_,Z,H⟩
theorem XmN(c a b:UInt8)(d:World):Va 240 #[b8 c,b8 a,b8 b] d (b8 (XmI 1 c a b)):=by
 refine Vb func240 ntmps240 λH a F=>?_
 refine gg 11 λa F=>?_
 exact⟨Xgh Z,H.below⟩
theorem XmM(c a b:UInt8)(d:World):Va 241 #[b8 c,b8 a,b8 b] d (b8 (XmI 2 c a b)):=by
 refine Vb func241 ntmps241 λH a F=>?_
 refine gg 11 λa F=>?_
 exact⟨Xgh Z,H.below⟩
theorem XmL(c a b:UInt8)(d:World):Va 242 #[b8 c,b8 a,b8 b] d (b8 (XmI 4 c a b)):=by
 refine Vb func242 ntmps242 λH a F=>?_
 refine gg 11 λa F=>?_
 exact⟨Xgh Z,H.below⟩
theorem XmK(c a b:UInt8)(d:World):Va 243 #[b8 c,b8 a,b8 b] d (b8 (XmI 5 c a b)):=by
 refine Vb func243 ntmps243 λH a F=>?_
 refine gg 13 λa F=>?_
 exact⟨Xgh Z,H.below⟩
theorem XmJ(c a b:UInt8)(d:World):Va 244 #[b8 c,b8 a,b8 b] d (b8 (XmI 6 c a b)):=by
 refine Vb func244 ntmps244 λH a F=>?_
 refine gg 12 λa F=>zi (λi=>?_) λi=>?_
 ·
  refine gg 7 λa F=>?_
  exact⟨Xgh (by simp[XmI, *]),H.below⟩
 refine gg 8 λa F=>?_
 exact⟨Xgh (by simp[XmI, *]),H.below⟩
theorem XrY{d:UInt8}(h:NH d):∃v,XdS d effs=some (d,v)/\∀c a b w,JL prog v [b8 c,b8 a,b8 b] w λe g=>e=.returned (b8 (XmI d c a b))/\Below w.heap.size w g:=by
 rcases h with rfl|rfl|rfl|rfl|rfl
 ·exact⟨_,Z,λc a b w=>⟨_,[],[],Z,call240,XmN c a b w⟩⟩
 ·exact⟨_,Z,λc a b w=>⟨_,[],[],Z,call241,XmM c a b w⟩⟩
 ·exact⟨_,Z,λc a b w=>⟨_,[],[],Z,call242,XmL c a b w⟩⟩
 ·exact⟨_,Z,λc a b w=>⟨_,[],[],Z,call243,XmK c a b w⟩⟩
 ·exact⟨_,Z,λc a b w=>⟨_,[],[],Z,call244,XmJ c a b w⟩⟩
end
section
theorem Xbr{t:By}(h:∀i,i<n->s i=t i):(Ending.returned (.agg (bs n s).toArray):Ending)=.returned (.agg (bs n t).toArray):=by rw[XfK h]
def XeA(x:Ins):Prop:=VV x=true\/(VV x=false/\NH x.op/\x.loc.toNat<6/\(x.op≠2->x.dst.toNat<8))
theorem Xfo(x:Ins)(t:By)(b:UInt8):EM x t b=XmI x.op b (Qq x t) (XaZ x t):=rfl
theorem Xla(D:List Value)(p:Prg)(j:World)(Q:ProgAt j D p)(s:By)(t:Nat)(l:List Ins)(x:Ins)(ht:t<4)(I:p.threads[t]?=some l)(G:l[(s (t*9)).toNat]?=some x)(K:XeA x):
 Calls prog 202 #[.agg D.toArray,.agg (bs 142 s).toArray,Ve (t:Int)] j λe R=>e=.returned (.agg (bs 142 (N5 x s t)).toArray)/\Below j.heap.size j R:=by
 have H:=Own.start j none
 obtain⟨LA,LC,IA,IC,TA,TC,h,J,z⟩:=Q
 obtain⟨c1,c2,T,c4,c5,rfl⟩:=Xa2 (Uk z.cond)
 have o:=z.cs
 subst o
 obtain⟨bT,oT,BT,CT,rfl,q,u,N⟩:=z.threads t l I
 have g:(s (t*9)).toNat<l.length:=(AB.1 G).1
 obtain⟨bI,U,rfl,S⟩:=u (s (t*9)).toNat x.cells (by rw[AD,G];rfl)
 have L:t<p.threads.length:=(AB.1 I).1
 refine VU func202 Z ntmps202 Z (λa F=>?_)
 refine gg 2 λa F=>?_
 refine zBx H F λb3 a w F H=>?_
 refine Eo H F λb4 a w F H=>?_
 refine Mj Lf H F λb6 a w F H=>?_
 refine gg 5 λa F=>?_
 refine Xa1 Xs Xo F Z Z Z Z ?_ ?_
 focus(omega)
 clear F a;intro a F;refine Qo Xn Z Xo F Z Z Z (H.rangeB 1 _ 9 Z O) λa F=>?_
 refine Mj Xof H F λX a w F H=>?_
 refine Gp H 0 F λw H=>?_
 rw[V3]at H
 refine gg 2 λa F=>?_
 refine zRO H λH=>?_
 refine gg 4 λa F=>?_
 refine Xe 4 Z F Z Z (λw H=>rLd isAgg33 F Z (H.arg q)) H qq0 λa F=>?_
 refine gg 2 λa F=>?_
 refine Xf (k:=7) (i:=7) Z F Z (λw=>rIx Yh XA F Z Z ?_) H (λ_ _ _ h=>h) ?_
 focus exact g
 clear F a;intro a F
 refine Xa (k:=8) (i:=8) Z F Z Z (λw H=>rLr Xy Z ?si F Z (H.argR S)) H (λ_ _ _ h=>h) ?_
 case si=>exact VT XA
 clear F a;intro a F;refine Xd (k:=9) (i:=9) Z F (oAl H XW F Z λb8 a w F H=>?_);refine V6 H.tail ?_
 refine Xd (k:=10) (i:=10) Z F (oSr H 0 ?si F Z Z ?s1 Z Z ?_)
 case si=>exact VT XA
 case s1=>rfl
 clear H;intro w H
 refine gg 6 λa F=>?_
 refine Qo Xn Z Xo F Z Z Z (H.whole 1 Z) λa F=>?_
 refine zCa F (ML x _ _) H λa w F H=>?_
 refine gg 3 λa F=>?_
 refine Mj Xof H F λW a w F H=>?_
 refine Gp H 0 F λw H=>?_
 rw[V3]at H
 refine gg 6 λa F=>?_
 refine cIf F Z (λb=>?_) (λb=>?_)
 ·
  refine gg 3 λa F=>?_
  refine Qo Xn Z Xo F Z Z Z (H.whole 0 Z) λa F=>?_
  refine gg 1 λa F=>?_
  refine Xa1 Xs Xo F Z Z Z Z ?_ ?_
  focus(omega)
  clear F a;intro a F
  refine Gp H 4 F λw H=>?_
  refine gg 3 λa F=>?_
  refine Qo Xm Z Xp F Z Z Z (H.whole 4 Z) λa F=>?_
  refine Gp H 3 F λw H=>?_
  rw[V3]at H
  refine gg 2 λa F=>?_
  refine J2 results202 F Z Xm Z Xp H 3 Z ?_
  refine⟨Xbr λi _=>?_,H.below⟩
  clear F H
  have r:∀v,put (cut s (t*9)) (1+x.dst.toNat) v 0=cut s (t*9) 0:=λv=>if_neg O
  (simp only[N5,b,if_true];done)
 obtain⟨n,B,m⟩:NH x.op/\x.loc.toNat<6/\(x.op≠2->x.dst.toNat<8):=by
  rcases K with h|h
  ·rw[h]at b;cases b
  ·exact h.2
 obtain⟨V,y,A⟩:=XrY n
 refine gg 3 λa F=>?_
 refine zRO H λH=>?_
 refine Xb 1 Z F Z (λw=>rFa (f:=0) (k:=0) Xy Z Xr Z Z F Z) H qq0 (qT 2 Z Y Z Z Z Z (λa F w H=>rLd XD F Z (H.cell 1 Z Z)) H qq0 λa F=>?_);refine Xd (k:=2) (i:=0) Z F (UK call231 F Z Z (Xd1 _) ?_);rintro e w ⟨M,rfl,E⟩;replace H:=H.join E;clear E
 refine zq λa F=>?_
 refine V6 H.tail ?_;refine eUp H (λw h=>h.sel [1,2,3,4,5,6] Z Z) ?_;refine Xe 3 Z F Z Z (λw H=>rLkB H 0 XU Xq F Z Z Z (y)) H qq0 λa F=>?_
 refine gg 10 λa F=>?_
 refine cIf F Z (λd=>?_) (λd=>?_)
 ·
  refine gg 10 λa F=>?_
  refine zRO H λH=>?_
  refine gg 5 λa F=>?_
  refine Xa (k:=5) (i:=5) Z F Z Z (λw H=>rLr X8 Z ?si F Z (H.range 2 Z _ 2)) H (λ_ _ _ h=>h) ?_
  case si=>exact VT X6
  clear F a;intro a F
  refine gg 1 λa F=>?_
  refine Xe 7 Z F Z Z (λw H=>L3 XI Z XF F Z (H.rangeB 3 _ 8 Z O)) H qq0 (Xg 9 Z Z (λa F w=>rFa (f:=4) (k:=5) Xy Z X6 Z Z F Z) H qq0 λa F=>?_)
  refine Xa (k:=9) (i:=10) Z F Z Z (λw H=>rLr X8 Z ?si F Z (H.range 2 Z _ 2)) H (λ_ _ _ h=>h) ?_
  case si=>exact VT X6
  clear F a;intro a F;refine Xb 11 Z F Z (λw=>rFa (f:=1) (k:=1) Xn Z XF Z Z F Z) H qq0 (qT 12 Z Y Z Z Z Z (λa F w H=>L3 XI Z XF F Z (H.rangeB 3 _ 8 Z O)) H qq0 (Xg 15 Z Z (λa F w=>rFa (f:=1) (k:=36) Xm Z XB Z Z F Z) H qq0 λa F=>?_))
  refine zEc 8 F (QR x.aR x.aN _ _) H λa w F H=>?_
  refine V6 H ?_
  refine zEc 13 F (QR x.bR x.bN _ _) H λa w F H=>?_
  refine V6 H ?_;refine Xd (k:=15) (i:=14) Z F (BZ F Z Z Z (A _ _ _ _) ?_);rintro e w ⟨rfl,C⟩;replace H:=H.grow C;clear C
  refine zq λa F=>?_
  refine V6 H ?_
  refine gg 1 λa F=>?_
  refine Xd (k:=17) (i:=17) Z F (oStB H 5 Xr F Z Z Z O λw H=>?_)
  refine gg 9 λa F=>zi (λc=>?_) λc=>?_
  ·
   have P:=m c
   refine gg 6 λa F=>?_
   refine Ct H 3 F λw H=>?_
   refine gg 7 λa F=>?_
   refine Ct H 3 F λw H=>?_
   refine gg 4 λa F=>?_
   refine Qo Xn Z Xo F Z Z Z (H.whole 3 Z) λa F=>?_
   refine gg 1 λa F=>?_
   refine Xa1 Xs Xo F Z Z Z Z ?_ ?_
   focus(omega)
   clear F a;intro a F
   refine Gp H 5 F λw H=>?_
   refine gg 3 λa F=>?_
   refine Qo Xm Z Xp F Z Z Z (H.whole 5 Z) λa F=>?_
   refine Gp H 4 F λw H=>?_
   rw[V3]at H
   refine gg 2 λa F=>?_
   refine J2 results202 F Z Xm Z Xp H 4 Z ?_
   refine⟨Xbr λi _=>?_,H.below⟩
   clear F H
   have r:∀v,put (cut s (t*9)) (1+x.dst.toNat) v 0=cut s (t*9) 0:=λv=>if_neg O
   (simp only[N5,b,XgU,NV,P,c,Xfo,r,if_true,if_false,IR,Qq,XaZ];done)
  refine gg 7 λa F=>?_
  refine Ct H 3 F λw H=>?_
  refine gg 4 λa F=>?_
  refine Qo Xn Z Xo F Z Z Z (H.whole 3 Z) λa F=>?_
  refine gg 1 λa F=>?_
  refine Xa1 Xs Xo F Z Z Z Z ?_ ?_
  focus(omega)
  clear F a;intro a F
  refine Gp H 5 F λw H=>?_
  refine gg 3 λa F=>?_
  refine Qo Xm Z Xp F Z Z Z (H.whole 5 Z) λa F=>?_
  refine Gp H 4 F λw H=>?_
  rw[V3]at H
  refine gg 2 λa F=>?_
  refine J2 results202 F Z Xm Z Xp H 4 Z ?_
  refine⟨Xbr λi _=>?_,H.below⟩
  clear F H
  have r:∀v,put (cut s (t*9)) (1+x.dst.toNat) v 0=cut s (t*9) 0:=λv=>if_neg O
  (simp only[N5,b,XgU,c,Xfo,if_true,if_false,IR,Qq,XaZ];done)
 cases d
end
def XkV(n:Nat)(f:Nat->Bool):Bool:=(List.range n).all f
theorem Ld{f:Nat->Bool}(h:∀i,i<n->f i=true):XkV n f=true:=by
 simp only[XkV,Ah,Ab];exact h
theorem Nz{f:Nat->Bool}(b:i<n)(h:f i=false):XkV n f=false:=by
 rw[<-Bool.not_eq_true,XkV,Ah]
 intro c
 rw[c i (Ab.2 b)]at h
 cases h
theorem allB_iff{f:Nat->Bool}:XkV n f=true↔∀i,i<n->f i=true:=by
 simp only[XkV,Ah,Ab]
def U5(p:Prg)(s:By)(t:Nat):Bool:=match p.threads[t]? with
 |some l=>decide ((s (t*9)).toNat<=l.length)
 |none=>same 9 (cut s (t*9)) zb
def NF(p:Prg)(s:By)(k:Nat):Bool:=decide (k<p.locs.length)||s (36+k)==0
def JX(p:Prg)(s:By):Bool:=XkV 4 (U5 p s)&&XkV 6 (NF p s)&&(same 96 (cut s 42) zb&&same 4 (cut s 138) zb)
def UC(p:Prg)(s:By):Bool:=VX p==0&&JX p s
theorem Xge(h:VX p≠0):UC p s=false:=by
 unfold UC;rw[beq_false_of_ne h,Hu]
theorem BU(b:j<4)(h:U5 p s j=false):UC p s=false:=by
 unfold UC JX;rw[Nz b h];simp
theorem Xgd(b:j<6)(h:NF p s j=false):UC p s=false:=by
 unfold UC JX;rw[Nz b h];simp
theorem Qc(b:VX p=0)(c:∀i,i<4->U5 p s i=true)(hm:∀i,i<6->NF p s i=true):UC p s=(same 96 (cut s 42) zb&&same 4 (cut s 138) zb):=by
 unfold UC JX;rw[Ld c,Ld hm,b];rfl
theorem Mp(h:p.threads.length<=j):U5 p s j=same 9 (cut s (j*9)) zb:=by
 unfold U5;rw[AV h]
theorem GD(h:p.threads[j]?=some l):U5 p s j=decide ((s (j*9)).toNat<=l.length):=by
 unfold U5;rw[h]
theorem XlW(h:k<p.locs.length):NF p s k=true:=by
 unfold NF;rw[decide_eq_true h,Bool.true_or]
theorem XbM(h:p.locs.length<=k):NF p s k=(s (36+k)==0):=by
 unfold NF;rw[decide_eq_false O,Ho]
theorem Ui{f:Nat->Bool}(h:∀i,i<j->f i=true)(b:f j=true):∀i,i<j+1->f i=true:=λi c=>by
 rcases AN i j with h1|h1
 ·exact h i h1
 ·obtain rfl:i=j:=O
  exact b
def XdI(p:Prg)(s:By)(t:Nat):Bool:=match p.threads[t]? with
 |some l=>decide ((s (t*9)).toNat<l.length)
 |none=>false
def Ue(p:Prg)(s:By):List Nat:=(List.range p.threads.length).filter (XdI p s)
def Gn(p:Prg)(s:By):List Nat:=if UC p s then Ue p s else[]
def NE(p:Prg)(s:By)(t:Nat):Option Ins:=match p.threads[t]? with
 |some l=>l[(s (t*9)).toNat]?
 |none=>none
def G6(p:Prg)(s:By)(t:Nat):By:=match NE p s t with
 |some x=>N5 x s t
 |none=>s
def Ur(p:Prg):By:=lay zb 36 (min p.init.length 6) (ofL p.init)
def XeB(p:Prg):By:=if VX p=0 then Ur p else zb
def Xbg(p:Prg):Int:=if VX p=0 then 0 else 2
def GS(s:By):By:=λi=>if i<32 then s (i/8*9+1+i%8)else s (36+(i-32))
theorem XgT(s:By):∀i,i<38->lay zb 32 6 (cut s 36) i=if 32<=i\/i<0*8 then GS s i else 0:=λi b=>by
 unfold lay GS
 by_cases h:32<=i
 ·rw[if_pos O,if_pos O,if_neg O];rfl
 ·rw[if_neg O,if_neg O];rfl
theorem XgS{f:By}(e:j<4)(d:∀i,i<38->f i=if 32<=i\/i<j*8 then GS s i else 0):
 ∀i,i<38->lay f (j*8) 8 (cut (cut s (j*9)) 1) i=if 32<=i\/i<(j+1)*8 then GS s i else 0:=λi c=>by
 unfold lay
 by_cases h:j*8<=i/\i<j*8+8
 ·rw[if_pos h,if_pos O]
  unfold GS cut
  rw[if_pos O]
  congr 1
  omega
 ·rw[if_neg h,d i c]
  by_cases b:32<=i\/i<j*8
  ·rw[if_pos b,if_pos O]
  ·rw[if_neg b,if_neg O]
theorem Xe9(h:p.threads[t]?=some l)(b:l[(s (t*9)).toNat]?=some x):NE p s t=some x:=by
 unfold NE;rw[h];exact b
theorem Es(h:p.threads[t]?=some l)(b:l[(s (t*9)).toNat]?=some x):G6 p s t=N5 x s t:=by
 unfold G6;rw[Xe9 h b]
theorem Ds(h:t∈Ue p s):∃l x,p.threads[t]?=some l/\l[(s (t*9)).toNat]?=some x:=by
 have b:=(Az.1 h).2
 unfold XdI at b
 split at b
 ·rename_i l c
  exact⟨l,_,c,AA (of_decide_eq_true b)⟩
 ·cases b
theorem Xji(h:t∈Gn p s):UC p s=true/\t∈Ue p s:=by
 unfold Gn at h
 split at h
 ·rename_i b;exact⟨b,h⟩
 ·simp at h
theorem Gg(h:UC p s=true):VX p=0:=by
 unfold UC at h
 simp only[AJ,beq_iff_eq]at h
 exact h.1
def Q5(p:Prg)(s:By)(t:Int):Bool:=(Gn p s).any λk=>(k:Int)==t
def Dp(p:Prg)(s:By)(t:Int):By:=if Q5 p s t then G6 p s t.toNat else zb
def Xgz(p:Prg)(s:By)(t:Int):Int:=if Q5 p s t then 0 else 2
def Jj(l:List Nat):List (List Value):=l.map λt:Nat=>[.int .i64 (t:Int)]
@[simp] theorem intRows_length (l:List Nat):(Jj l).length=l.length:=by simp[Jj]
theorem Bo(l:List Nat)(j:Nat):Jj (l++[j])=Jj l++[[Ve (j:Int)]]:=by simp[Jj]
theorem XdN(l:List Nat):∀r∈Jj l,r.length=1:=by
 intro r b
 obtain⟨t,_,rfl⟩:=AT.1 b
 rfl
theorem GW(f:Nat->Bool)(j:Nat):(List.range (j+1)).filter f=if f j then(List.range j).filter f++[j]else(List.range j).filter f:=by
 rw[HB,Fz]
 cases h:f j<;>simp[h]
theorem Xae(h:p.threads[j]?=some l):XdI p s j=decide ((s (j*9)).toNat<l.length):=by
 unfold XdI;rw[h]
section
theorem BV(N:List Value)(p:Prg)(n:World)(X:ProgAt n N p)(hN:NeedsAt n)(s:By):
 Calls prog 152 #[.agg N.toArray,.agg (bs 142 s).toArray] n λe w'=>e=.returned (.bool (UC p s))/\Below n.heap.size n w':=by
 have H:=Own.start n none
 have E:=X
 obtain⟨S,U,IA,IC,P,TC,h,a2,u⟩:=X
 obtain⟨V,T,L,Q,R,rfl⟩:=Xa2 (Uk u.cond)
 have A:=u.cs
 subst A
 have hn:=u.threadsN
 have hm:=u.locsN
 refine VU func152 Z ntmps152 Z (λa F=>?_)
 refine gg 2 λa F=>?_
 refine zBx H F λM a w F H=>?_
 refine Eo H F λW a w F H=>?_
 refine gg 6 λa F=>?_
 refine zCa F (Qb _ p _ (E.own H) (hN.own H)) H λa w F H=>?_
 refine gg 3 λa F=>zi (λd=>?_) λd=>?_
 ·
  refine gg 6 λa F=>?_
  refine⟨U4 ?_,H.below⟩
  clear F H
  exact(Xge d).symm
 refine gg 9 λa F=>?_
 refine cLoopS [2,3,14] (λm c w=>∃j:Nat,m=4-j/\c=[(15,Ve (j:Int))]/\j<=4/\(∀i,i<j->U5 p s i=true)/\Own n none w [.blk W (bs 142 s) 85,.blk M ([.string p.name,.slice S p.locs.length U,.slice IA p.init.length IC,.slice P p.threads.length TC,b8 p.ask]++[V,T,L,Q,R]) 29]) F (4) [(15,Ve ((0:Nat):Int))] ?_ ?_
 ·exact⟨0,Z,Z,O,λi y=>O,H⟩
 clear F H;intro m c a w K F
 obtain⟨j,rfl,rfl,hj,t,H⟩:=K
 refine gg 6 λa F=>zi (λC=>?_) λC=>?_
 ·
  refine gg 6 λa F=>?_
  refine XqR Xs Xo isAgg77 F Z Z Z Z ?_ ?_ ?_
  focus omega
  focus omega
  clear F a;intro a F
  refine Mj Xof H F λb6 a w F H=>?_
  refine gg 1 λa F=>?_
  refine Gp H 0 F λw H=>?_
  rw[V3]at H
  refine gg 10 λa F=>?_
  refine zSp 24 F (λa3 F=>?_) λa3 F=>?_
  ·
   refine gg 1 λa F=>?_
   refine Xin (places:=[(0,1),(1,8)]) Xof Xn Y F Z Z Z FillB.nil (Ei Z Z Z Z (Xqg eT77 gT77 Z) λa F=>?_)
   refine gg 3 λa F=>zi (λr=>?_) λr=>?_
   ·
    refine gg 6 λa F=>?_
    refine⟨U4 ?_,H.below⟩
    clear F H
    exact(BU (j:=j) O (by rw[Mp O];exact r)).symm
   refine gg 2 λa F=>?_
   refine zRO H λH=>?_
   refine gg 6 λa F=>?_
   refine zSp 34 F (λI F=>?_) λI F=>?_
   ·
    have q:j<p.threads.length:=O
    obtain⟨l,v⟩:∃l,p.threads[j]?=some l:=⟨_,AA q⟩
    obtain⟨bT,oT,BT,CT,rfl,B,D,G⟩:=u.threads j l v
    refine gg 13 λa F=>zi (λb=>?_) λb=>?_
    ·
     refine gg 6 λa F=>?_
     refine⟨U4 ?_,H.below⟩
     clear F H
     (exfalso;omega)
    refine gg 5 λa F=>?_
    refine⟨4-(j+1),O,_,⟨j+1,Z,Z,O,Ui t ?_,H.tail⟩,F.tt⟩
    clear F H
    (exfalso;omega)
   refine gg 12 λa F=>?_
   refine cIfF F Z ?_
   refine gg 5 λa F=>?_
   refine⟨4-(j+1),O,_,⟨j+1,Z,Z,O,Ui t ?_,H.tail⟩,F.tt⟩
   clear F H
   (rw[Mp O];exact r)
  refine gg 5 λa F=>?_
  refine cIfF F Z ?_
  refine gg 2 λa F=>?_
  refine zRO H λH=>?_
  refine gg 6 λa F=>?_
  refine zSp 34 F (λI F=>?_) λI F=>?_
  ·
   have q:j<p.threads.length:=O
   obtain⟨l,v⟩:∃l,p.threads[j]?=some l:=⟨_,AA q⟩
   obtain⟨bT,oT,BT,CT,rfl,B,D,G⟩:=u.threads j l v
   refine gg 13 λa F=>zi (λb=>?_) λb=>?_
   ·
    refine gg 6 λa F=>?_
    refine⟨U4 ?_,H.below⟩
    clear F H
    exact(BU (j:=j) O (by rw[GD v];exact decide_eq_false (by simp only[cut,FF]at b;omega))).symm
   refine gg 5 λa F=>?_
   refine⟨4-(j+1),O,_,⟨j+1,Z,Z,O,Ui t ?_,H.tail⟩,F.tt⟩
   clear F H
   (rw[GD v];exact decide_eq_true (by simp only[cut,FF]at b;omega))
  refine gg 12 λa F=>?_
  refine cIfF F Z ?_
  refine gg 5 λa F=>?_
  refine⟨4-(j+1),O,_,⟨j+1,Z,Z,O,Ui t ?_,H.tail⟩,F.tt⟩
  clear F H
  (exfalso;omega)
 refine gg 9 λa F=>?_
 refine cLoopS [2,3,48] (λm c w=>∃j:Nat,m=6-j/\c=[(49,Ve (j:Int))]/\j<=6/\(∀i,i<j->NF p s i=true)/\Own n none w [.blk W (bs 142 s) 85,.blk M ([.string p.name,.slice S p.locs.length U,.slice IA p.init.length IC,.slice P p.threads.length TC,b8 p.ask]++[V,T,L,Q,R]) 29]) F (6) [(49,Ve ((0:Nat):Int))] ?_ ?_
 ·exact⟨0,Z,Z,O,λi y=>O,H⟩
 clear F H;intro m c a w K F
 obtain⟨k,rfl,rfl,hk,g,H⟩:=K
 refine gg 6 λa F=>zi (λJ=>?_) λJ=>?_
 ·
  refine gg 6 λa F=>?_
  refine sIdV XC Xr XD F Z Z Z Z ?_ ?_ ?_
  focus omega
  focus omega
  clear F a;intro a F
  refine gg 11 λa F=>?_
  refine zSp 58 F (λa1 F=>?_) λa1 F=>?_
  ·
   refine gg 5 λa F=>zi (λo=>?_) λo=>?_
   ·
    refine gg 6 λa F=>?_
    refine⟨U4 ?_,H.below⟩
    clear F H
    exact(Xgd (j:=k) O (by rw[XbM O];exact beq_false_of_ne o)).symm
   refine gg 5 λa F=>?_
   refine⟨6-(k+1),O,_,⟨k+1,Z,Z,O,Ui g ?_,H⟩,F.tt⟩
   clear F H
   (rw[XbM O];exact beq_iff_eq.2 o)
  refine gg 4 λa F=>?_
  refine cIfF F Z ?_
  refine gg 5 λa F=>?_
  refine⟨6-(k+1),O,_,⟨k+1,Z,Z,O,Ui g ?_,H⟩,F.tt⟩
  clear F H
  exact XlW O
 refine gg 3 λa F=>?_
 refine Mj Lf H F λb9 a w F H=>?_
 refine gg 7 λa F=>?_
 refine Xh F Z Z (bEqY eT82 gT82 Z) λa F=>?_
 refine gg 1 λa F=>?_
 refine F.split 68 Z (λz F=>?_) λz F=>?_
 ·
  refine gg 4 λa F=>?_
  refine Xh F Z Z (bEqY eT83 gT83 Z) λa F=>?_
  refine gg 5 λa F=>?_
  refine⟨U4 ?_,H.below⟩
  clear F H
  (rw[Qc d (λi y=>t i O) (λi y=>g i O)];(rw[show same 96 (cut s 42) zb=true from z];rfl))
 refine gg 10 λa F=>?_
 refine⟨U4 ?_,H.below⟩
 clear F H
 (rw[Qc d (λi y=>t i O) (λi y=>g i O)];(rw[show same 96 (cut s 42) zb=false from z];rfl))
end
section
theorem XhZ(m:List Value)(p:Prg)(b:World)(n:ProgAt b m p)(o:NeedsAt b):
 Calls prog 44 #[.agg m.toArray] b λe r=>e=.returned (.tuple #[.agg (bs 142 (XeB p)).toArray,Ve (Xbg p)])/\Below b.heap.size b r:=by
 have H:=Own.start b none
 have d:=n
 obtain⟨s,v,E,J,B,G,h,q,j⟩:=n
 obtain⟨z,u,t,D,I,rfl⟩:=Xa2 (Uk j.cond)
 have g:=j.cs
 subst g;refine VU func44 Z ntmps44 Z (λa F=>?_)
 refine gg 2 λa F=>?_
 refine zBx H F λC a w F H=>?_
 refine Mj Lf H F λy a w F H=>?_
 refine gg 4 λa F=>?_
 refine Mj Lf H F λA a w F H=>?_
 refine gg 5 λa F=>?_
 refine zCa F (Qb _ p _ (d.own H) (o.own H)) H λa w F H=>?_
 refine gg 3 λa F=>zi (λc=>?_) λc=>?_
 ·
  refine gg 3 λa F=>?_
  refine Gp H 1 F λw H=>?_
  rw[V3]at H
  refine gg 3 λa F=>?_
  refine QM results44 F Z Z Xm Z Xp H 1 Z ?_
  exact⟨by rw[XeB,Xbg,if_neg c,if_neg c],H.below⟩
 refine gg 2 λa F=>?_
 refine zRO H λH=>?_
 refine gg 1 λa F=>?_
 refine Xe 1 Z F Z Z (λw H=>rSlA XC Xr F Z) H qq0 λa F=>?_
 refine gg 2 λa F=>?_
 refine Xd (k:=4) (i:=4) Z F (oCpB H 0 underlying23 Xr F Z Z Z Z (RowsAt.own j.init H) Z O λa w F H=>?_)
 refine gg 5 λa F=>?_
 refine Gp H 1 F λw H=>?_
 rw[V3]at H
 refine gg 3 λa F=>?_
 refine QM results44 F Z Z Xm Z Xp H 1 Z ?_
 exact⟨by rw[XeB,Xbg,if_pos c,if_pos c];rfl,H.below⟩
theorem XdZ(B:List Value)(p:Prg)(g:World)(U:ProgAt g B p)(hn:p.threads.length<=4)(s:By):
 Calls prog 230 #[.agg B.toArray,.agg (bs 142 s).toArray] g λe V=>∃A c,e=.returned (.slice A (Ue p s).length c)/\Own g none V [.rws 3 1 (.slice A (Ue p s).length c) (Jj (Ue p s))]:=by
 have H:=Own.start g none
 obtain⟨M,P,W,IC,I,X,h,G,v⟩:=U
 obtain⟨S,N,C,J,L,rfl⟩:=Xa2 (Uk v.cond)
 have n:=v.cs
 subst n;refine VU func230 Z ntmps230 Z (λa F=>?_)
 refine gg 2 λa F=>?_
 refine zBx H F λE a w F H=>?_
 refine Eo H F λT a w F H=>?_
 refine gg 5 λa F=>?_
 replace H:=H.nilRws 3 1
 refine gg 10 λa F=>?_
 refine cLoopS [3,9,10] (λm i w=>∃(j:Nat)(A:Option Addr)(c:Nat)(l:List Nat),m=p.threads.length-j/\i=[(5,.slice A l.length c),(11,Ve (j:Int))]/\j<=p.threads.length/\l=(List.range j).filter (XdI p s)/\Own g none w [.rws 3 1 (.slice A l.length c) (Jj l),.blk T (bs 142 s) 85,.blk E ([.string p.name,.slice M p.locs.length P,.slice W p.init.length IC,.slice I p.threads.length X,b8 p.ask]++[S,N,C,J,L]) 29]) F (p.threads.length) [(5,.slice none 0 0),(11,Ve ((0:Nat):Int))] ?_ ?_
 ·exact⟨0,none,0,[],Z,Z,O,Z,H⟩
 clear F H;intro m i a w hI F
 obtain⟨j,A,c,l,rfl,rfl,hj,d,H⟩:=hI
 refine gg 6 λa F=>zi (λo=>?_) λo=>?_
 ·
  have y:j<p.threads.length:=O
  obtain⟨q,r⟩:∃q,p.threads[j]?=some q:=⟨_,AA y⟩
  obtain⟨bT,oT,BT,CT,rfl,D,K,Q⟩:=v.threads j q r
  refine gg 15 λa F=>?_
  refine Xa1 Xs Xo F Z Z Z Z ?_ ?_
  focus(omega)
  clear F a;intro a F;refine XqT (f:=0) Xn Z Xr Z Z F Z Z Z λa F=>?_
  refine gg 7 λa F=>zi (λz=>?_) λz=>?_
  ·
   refine gg 3 λa F=>?_
   refine XeN H Xz XM X4 Z F Z Z Z Z λR a w F H=>?_
   refine G7 (bytes:=8) H 1 Xz Yd Z Z Z Z Z Z F Z Z Z Z Z (H.whole 0 Z) Z ?s1 ?s2 ?_
   case s1=>rfl
   case s2=>(rw[intRows_length];have:=Fy (XdI p s) (List.range j);rw[<-d,Aq]at this;omega)
   clear F a H;intro u t a w F H
   refine gg 6 λa F=>?_
   have b:=GW (XdI p s) j
   rw[Xae r,<-d]at b
   (rw[if_pos (decide_eq_true O)]at b
    rw[<-Bo,intRows_length]at H F
    exact⟨_,O,_,⟨j+1,u,t,l++[j],Z,Z,O,b.symm,H.tail⟩,F.tt⟩)
  refine gg 5 λa F=>?_
  have b:=GW (XdI p s) j
  rw[Xae r,<-d]at b
  (rw[if_neg (by rw[decide_eq_true_eq];omega)]at b
   exact⟨_,O,_,⟨j+1,A,c,l,Z,Z,O,b.symm,H⟩,F.tt⟩)
 refine gg 8 λa F=>?_
 obtain rfl:j=p.threads.length:=O
 rw[<-Ue]at d;subst d
 exact⟨A,c,Z,H.pick 0 Z⟩
end
section
theorem fine(h:VX p=0)(m:p.threads[t]?=some l)(j:l[i]?=some x):XeA x:=by
 have g:=valid h
 have d:=Jo (g.ins t l m) j
 have q:=MF x.op (U8 d 0 O)
 have r:decide (x.dst<8)=true:=U8 d 2 O
 have c:x.dst.toNat<8:=of_decide_eq_true r
 have e:(!UW x.op 2||decide ((x.loc.toNat:Int)<(p.locs.length:Int)))=true:=U8 d 3 O
 have o:=g.locs6
 have b:UW x.op 2=true->x.loc.toNat<6:=λn=>by
  rw[n]at e
  have:((x.loc.toNat:Int)<(p.locs.length:Int)):=by simpa using e
  omega
 rcases q with h|h|h|h|h|h|h|h
 ·exact .inr ⟨by simp[VV,h],by simp[NH,h],b (by rw[h];decide),λ_=>c⟩
 ·exact .inr ⟨by simp[VV,h],by simp[NH,h],b (by rw[h];decide),λ_=>c⟩
 ·exact .inl (by simp[VV,h])
 ·exact .inr ⟨by simp[VV,h],by simp[NH,h],b (by rw[h];decide),λ_=>c⟩
 ·exact .inr ⟨by simp[VV,h],by simp[NH,h],b (by rw[h];decide),λ_=>c⟩
 ·exact .inr ⟨by simp[VV,h],by simp[NH,h],b (by rw[h];decide),λ_=>c⟩
 ·exact .inl (by simp[VV,h])
 ·exact .inl (by simp[VV,h])
theorem Xi9(j:List Value)(p:Prg)(b:World)(i:ProgAt b j p)(n:NeedsAt b)(s:By):
 Calls prog 201 #[.agg j.toArray,.agg (bs 142 s).toArray] b λe q=>∃A c,e=.returned (.slice A (Gn p s).length c)/\Own b none q [.rws 3 1 (.slice A (Gn p s).length c) (Jj (Gn p s))]:=by
 have H:=Own.start b none
 obtain⟨u,D,C,B,z,E,v,d8,G,o,rfl⟩:=i.len10
 refine VU func201 Z ntmps201 Z (λa F=>?_)
 refine gg 2 λa F=>?_
 refine zBx H F λt a w F H=>?_
 refine Eo H F λy a w F H=>?_
 refine gg 7 λa F=>?_
 refine zCa F (BV _ p _ (i.own H) (n.own H) s) H λa w F H=>?_
 refine gg 3 λa F=>zi (λd=>?_) λd=>?_
 ·
  refine gg 6 λa F=>?_
  exact⟨none,0,by rw[Gn,if_neg (by rw[d];simp)];rfl,by rw[Gn,if_neg (by rw[d];simp)];exact(H.nilRws _ _).pick 0 Z⟩
 have g:UC p s=true:=d
 have r:=valid (Gg g)
 refine gg 5 λa F=>?_
 refine Xi call230 F Z (XdZ _ p _ (i.own H) r.thr4 s) ?_;rintro e w ⟨A,c,rfl,m⟩;replace H:=H.join m;clear m
 refine zq λa F=>?_
 refine gg 4 λa F=>?_
 exact⟨A,c,by rw[Gn,if_pos g],by rw[Gn,if_pos g];exact H.pick 0 Z⟩
theorem XjQ(s:By)(b:World):
 Va 18 #[.agg (bs 142 s).toArray] b (.agg (bs 38 (GS s)).toArray):=by
 refine Vb func18 ntmps18 λH a F=>?_
 refine gg 2 λa F=>?_
 refine Eo H F λq a w F H=>?_
 refine Mj zB63 H F λo a w F H=>?_
 refine gg 5 λa F=>?_
 refine Xin (places:=[(0,32),(32,6)]) zB63 XN Y F Z Z Z (FillB.row Z Z FillB.nil) λa F=>?_
 refine Mj zB63 H F λp a w F H=>?_
 refine Gp H 0 F λw H=>?_
 rw[V3]at H
 refine gg 9 λa F=>?_
 refine cLoopS [2,3,10] (λm c w=>∃(j:Nat)(f:By),m=4-j/\c=[(11,Ve (j:Int))]/\j<=4/\(∀i,i<38->f i=if 32<=i\/i<j*8 then GS s i else 0)/\Own b none w [.blk p (bs 38 f) 63,.blk o (bs 38 zb) 63,.blk q (bs 142 s) 85]) F (4) [(11,Ve ((0:Nat):Int))] ?_ ?_
 ·exact⟨0,_,Z,Z,O,XgT s,H⟩
 clear F H;intro m c a w t F
 obtain⟨j,f,rfl,rfl,u,g,H⟩:=t
 refine gg 6 λa F=>zi (λd=>?_) λd=>?_
 ·
  refine gg 6 λa F=>?_
  refine XqR Xs Xo isAgg77 F Z Z Z Z ?_ ?_ ?_
  focus omega
  focus omega
  clear F a;intro a F
  refine Mj Xof H F λv a w F H=>?_
  refine gg 1 λa F=>?_
  refine Gp H 0 F λw H=>?_
  rw[V3]at H
  refine gg 6 λa F=>?_
  refine Xa1 underlying60 XF F Z Z Z Z ?_ ?_
  focus(omega)
  clear F a;intro a F
  refine Gp H 1 F λw H=>?_
  refine gg 5 λa F=>?_
  exact⟨4-(j+1),O,_,⟨j+1,_,Z,Z,O,XgS O g,H.tail⟩,F.tt⟩
 refine gg 4 λa F=>?_
 refine Gp H 1 F λw H=>?_
 rw[V3]at H
 refine gg 2 λa F=>?_
 refine J2 results18 F Z XN Z XH H 1 Z ?_
 obtain rfl:j=4:=O
 exact⟨Xbr λi n=>by rw[g i n,if_pos O],H.below⟩
end
def Bj(x:Ins)(c:By)(b:UInt8):By:=if VV x then Je x c else XgU x c b
def C6(x:Ins)(b:By):UInt8:=if x.op=8/\NK x.fn (Qq x b) (XaZ x b)=true then b 0+x.skip+1 else b 0+1
theorem Xc4(x:Ins)(d:By)(e:UInt8):Bj x d e 0=C6 x d:=by
 unfold Bj C6
 cases g:VV x with
 |true=>
  simp only[if_true]
  unfold Je
  by_cases c:x.op=3
  ·rw[if_pos c,if_neg (by rw[c];intro h;exact absurd h.1 (by decide))];rfl
  ·rw[if_neg c]
   by_cases b:x.op=8
   ·rw[if_pos b]
    cases j:NK x.fn (Qq x d) (XaZ x d)
    ·simp[put]
    ·simp[put,b]
   ·rw[if_neg b]
    have i:x.op=7:=by simpa[VV,c,b]using g
    rw[if_pos i,if_neg (λh=>b h.1)];rfl
 |false=>
  have b:x.op≠8:=λh=>by simp[VV,h]at g
  rw[if_neg (by simp),if_neg (λh=>b h.1)]
  rfl
theorem JS(x:Ins)(s:By)(t i:Nat):N5 x s t i=if t*9<=i/\i<t*9+9 then Bj x (cut s (t*9)) (s (36+x.loc.toNat)) (i-t*9)
 else if VV x=false/\i=36+x.loc.toNat then EM x (cut s (t*9)) (s (36+x.loc.toNat))else s i:=by
 unfold N5 Bj
 cases b:VV x with
 |true=>simp only[if_true];unfold lay;split<;>simp
 |false=>
  simp only[IR,if_false,true_and]
  unfold lay
  split
  ·rfl
  ·unfold put;rfl
theorem XoA{c b:Int}(h:LF x c b=true)(e:x.op=8):(x.skip.toNat:Int)<=b:=by
 have d:(!UW x.op 64||(decide (1<=x.skip)&&decide ((x.skip.toNat:Int)<=b)))=true:=U8 h 7 O
 have:UW x.op 64=true:=by rw[e];decide
 rw[this]at d
 simp only[I6,Ho,AJ,decide_eq_true_eq]at d
 exact d.2
theorem Xfa{th:By}{b:Int}(i:n<=12)(g:(th 0).toNat<n)(h:LF x b ((n:Int)-1-(th 0).toNat)=true):(th 0).toNat<(C6 x th).toNat/\(C6 x th).toNat<=n:=by
 unfold C6
 have c:(1:UInt8).toNat=1:=rfl
 split
 ·rename_i d
  have:=XoA h d.1
  have e:(th 0+x.skip+1).toNat=(th 0).toNat+x.skip.toNat+1:=by
    rw[H6,H6,c];omega
  rw[e];omega
 ·have e:(th 0+1).toNat=(th 0).toNat+1:=by
    rw[H6,c];omega
  rw[e];omega
def Xqb(p:Prg)(t:Nat):Nat:=(p.threads[t]?.map List.length).getD 0
def pcP(s:By)(t:Nat):Nat:=(s (t*9)).toNat
theorem Xjs(h:p.threads[t]?=some l):Xqb p t=l.length:=by simp[Xqb,h]
def mu(p:Prg)(s:By):Nat:=(Xqb p 0-pcP s 0)+(Xqb p 1-pcP s 1)+(Xqb p 2-pcP s 2)+(Xqb p 3-pcP s 3)
structure StepOf (p:Prg) (s z:By) (t:Nat) (l:List Ins) (x:Ins):Prop where
 hl:p.threads[t]?=some l
 hx:l[pcP s t]?=some x
 fine:VV x=true\/(VV x=false/\NH x.op/\x.loc.toNat<p.locs.length/\(x.op≠2->x.dst.toNat<8))
 at':∀i,z i=if t*9<=i/\i<t*9+9 then Bj x (cut s (t*9)) (s (36+x.loc.toNat)) (i-t*9)
  else if VV x=false/\i=36+x.loc.toNat then EM x (cut s (t*9)) (s (36+x.loc.toNat))else s i
 t4:t<4
 lt:pcP s t<l.length
 up:pcP s t<pcP z t
 le:pcP z t<=l.length
theorem Xpo(h:VX p=0)(j:p.threads[t]?=some l)(g:l[i]?=some x):
 VV x=true\/(VV x=false/\NH x.op/\x.loc.toNat<p.locs.length/\(x.op≠2->x.dst.toNat<8)):=by
 have q:=valid h
 have d:=Jo (q.ins t l j) g
 have n:=MF x.op (U8 d 0 O)
 have o:decide (x.dst<8)=true:=U8 d 2 O
 have c:x.dst.toNat<8:=of_decide_eq_true o
 have e:(!UW x.op 2||decide ((x.loc.toNat:Int)<(p.locs.length:Int)))=true:=U8 d 3 O
 have b:UW x.op 2=true->x.loc.toNat<p.locs.length:=λm=>by
  rw[m]at e
  have:((x.loc.toNat:Int)<(p.locs.length:Int)):=by simpa using e
  omega
 rcases n with h|h|h|h|h|h|h|h
 ·exact .inr ⟨by simp[VV,h],by simp[NH,h],b (by rw[h];decide),λ_=>c⟩
 ·exact .inr ⟨by simp[VV,h],by simp[NH,h],b (by rw[h];decide),λ_=>c⟩
 ·exact .inl (by simp[VV,h])
 ·exact .inr ⟨by simp[VV,h],by simp[NH,h],b (by rw[h];decide),λ_=>c⟩
 ·exact .inr ⟨by simp[VV,h],by simp[NH,h],b (by rw[h];decide),λ_=>c⟩
 ·exact .inr ⟨by simp[VV,h],by simp[NH,h],b (by rw[h];decide),λ_=>c⟩
 ·exact .inl (by simp[VV,h])
 ·exact .inl (by simp[VV,h])
theorem LX(h:VX p=0)(o:t∈Ue p s):∃l x,StepOf p s (G6 p s t) t l x:=by
 obtain⟨l,x,b,c⟩:=Ds o
 have j:=valid h
 have q:t<p.threads.length:=(AB.1 b).1
 have g:pcP s t<l.length:=(AB.1 c).1
 have m:=Jo (j.ins t l b) c
 rw[As]at m
 have d:=Xfa (th:=cut s (t*9)) (j.long t l b) (by simpa[cut,pcP]using g) (by simpa[cut]using m)
 have e:G6 p s t=N5 x s t:=Es b c
 have n:G6 p s t (t*9)=C6 x (cut s (t*9)):=by
  rw[e,JS,if_pos O,Ih,Xc4]
 refine⟨l,x,b,c,Xpo h b c,λi=>by rw[e];exact JS x s t i,by have:=j.thr4;omega,g,?_,?_⟩
 ·unfold pcP;rw[n];simpa[cut]using d.1
 ·unfold pcP;rw[n];exact d.2
section
variable{p:Prg}{s z:By}{t:Nat}{l:List Ins}{x:Ins}
theorem StepOf.far(h:StepOf p s z t l x){u:Nat}(c:u≠t)(d:k<9)(b:u<4):z (u*9+k)=s (u*9+k):=by
 have:=h.t4
 rw[h.at',if_neg (by rcases Nat.lt_or_gt_of_ne c with h|h<;>omega),if_neg O]
theorem StepOf.pc(h:StepOf p s z t l x){u:Nat}(c:u≠t)(b:u<4):pcP z u=pcP s u:=by
 have:=h.far c (k:=0) O b
 simp only[FF]at this
 unfold pcP;rw[this]
theorem StepOf.rest(h:StepOf p s z t l x)(c:VX p=0)(d:42<=i):z i=s i:=by
 have:=h.t4
 have e:=(valid c).locs6
 rw[h.at',if_neg O,if_neg];rintro⟨b,g⟩
 rcases h.fine with h3|h3
 ·rw[h3]at b;cases b
 ·have:=h3.2.2.1;omega
theorem StepOf.mem(h:StepOf p s z t l x)(hk:VV x=true\/k≠x.loc.toNat):z (36+k)=s (36+k):=by
 have:=h.t4
 rw[h.at',if_neg O,if_neg];rintro⟨b,c⟩
 rcases hk with hk|hk
 ·rw[hk]at b;cases b
 ·omega
theorem StepOf.mu(h:StepOf p s z t l x):mu p z<mu p s:=by
 have i:=h.up
 have g:=h.lt
 have d:=Xjs h.hl
 have e:=h.t4
 have q:∀u,u<4->u≠t->pcP z u=pcP s u:=λu c b=>h.pc b c
 unfold YtajfpcgbnflceaaGreatDoor.mu
 rcases(by omega:t=0\/t=1\/t=2\/t=3)with rfl|rfl|rfl|rfl
 ·rw[q 1 O O,q 2 O O,q 3 O O];omega
 ·rw[q 0 O O,q 2 O O,q 3 O O];omega
 ·rw[q 0 O O,q 1 O O,q 3 O O];omega
 ·rw[q 0 O O,q 1 O O,q 2 O O];omega
theorem StepOf.right(h:StepOf p s z t l x)(y:UC p s=true):UC p z=true:=by
 have n:=Gg y
 have c:=y
 unfold UC JX at c
 simp only[AJ,beq_iff_eq]at c
 obtain⟨_,⟨r,w⟩,o,q⟩:=c
 rw[allB_iff]at r w;rw[same_iff]at o q;rw[Qc n (λu A=>?_) (λk d=>?_)]
 ·rw[AJ,same_iff,same_iff]
  exact⟨λi j=>(by unfold cut;rw[h.rest n O];exact o i j),λi j=>(by unfold cut;rw[h.rest n O];exact q i j)⟩
 ·by_cases g:u=t
  ·subst g
   rw[GD h.hl];exact decide_eq_true h.le
  ·have b:=r u A
   have v:∀k,k<9->z (u*9+k)=s (u*9+k):=λk d=>h.far g d A
   unfold U5 at b⊢
   split at b
   ·rename_i B m
    have h3:=v 0 O
    simp only[FF]at h3
    rw[h3];exact b
   ·rename_i m
    rw[same_iff]at b⊢
    intro k d
    exact(v k d).trans (b k d)
 ·have b:=w k d
  unfold NF at b⊢
  by_cases e:k<p.locs.length
  ·rw[decide_eq_true e,Bool.true_or]
  ·rw[decide_eq_false e,Ho]at b⊢
   rw[h.mem]
   ·exact b
   ·rcases h.fine with h3|h3
    ·exact .inl h3
    ·exact .inr (by have:=h3.2.2.1;omega)
end
theorem Ni(h:VX p=0)(i:Nat):Ur p i=if 36<=i/\i<36+p.locs.length then p.init.getD (i-36) 0 else 0:=by
 have b:=valid h
 have c:=b.locs6
 unfold Ur lay ofL zb
 rw[b.init,Fv c]
theorem E3(h:VX p=0):UC p (Ur p)=true:=by
 have e:=Ni h
 have m:=(valid h).locs6
 have g:∀i,i<36->Ur p i=0:=λi d=>by rw[e,if_neg O]
 have b:∀i,42<=i->Ur p i=0:=λi d=>by rw[e,if_neg O]
 rw[Qc h (λu n=>?_) (λk j=>?_)]
 ·rw[AJ,same_iff,same_iff]
  exact⟨λi d=>b _ O,λi d=>b _ O⟩
 ·unfold U5
  split
  ·rw[g _ O];exact decide_eq_true (AU _)
  ·rw[same_iff];exact λi d=>g _ O
 ·unfold NF
  by_cases c:k<p.locs.length
  ·rw[decide_eq_true c,Bool.true_or]
  ·rw[decide_eq_false c,Ho,e,if_neg O];rfl
section
theorem Own.intAt{r w:World}{row:Option Nat}{g:List Res}(H:Own r row w g)(i:Nat){e:TypeId}{c:Nat}{A:Option Addr}{l:List Nat}(p:g[i]?=some (.rws e 1 (.slice A n c) (Jj l)))(m:l[j]?=some t):
 ∃b d,A=some ⟨b,d,.none⟩/\w.cell? ⟨b,d+j*1,.none⟩=some (Ve (t:Int)):=by
 obtain⟨b,d,q,o⟩:=H.rowsAt i p (XdN l) O j [Ve (t:Int)] (by simp[Jj,m])
 exact⟨b,d,q,by have:=o 0 _ Z;rwa [FF]at this⟩
theorem XgA(h:(Gn p s)[j]?=some k):Q5 p s (k:Int)=true:=by
 unfold Q5
 rw[HN]
 exact⟨k,AF h,by simp⟩
theorem XdE{t:Int}(h:∀i k:Nat,(Gn p s)[i]?=some k->(k:Int)≠t):Q5 p s t=false:=by
 unfold Q5
 rw[<-Bool.not_eq_true,HN];rintro⟨k,d,c⟩
 obtain⟨i,b⟩:=List.getElem?_of_mem d
 exact h i k b (by simpa using c)
theorem Jn(I:List Value)(p:Prg)(d:World)(D:ProgAt d I p)(S:NeedsAt d)(s:By)(t:Int):
 Calls prog 161 #[.agg I.toArray,.agg (bs 142 s).toArray,Ve t] d λe w'=>e=.returned (.tuple #[.agg (bs 142 (Dp p s t)).toArray,Ve (Xgz p s t)])/\Below d.heap.size d w':=by
 have H:=Own.start d none
 obtain⟨V,R,d3,d4,d5,P,W,d8,d9,y,rfl⟩:=D.len10
 refine VU func161 Z ntmps161 Z (λa F=>?_)
 refine gg 2 λa F=>?_
 refine zBx H F λX a w F H=>?_
 refine Eo H F λL a w F H=>?_
 refine Mj Lf H F λU a w F H=>?_
 refine gg 6 λa F=>?_
 refine Qo Xm Z Xp F Z Z Z (H.whole 1 Z) λa F=>?_;refine Xi call201 F Z (Xi9 _ p _ (D.own H) (S.own H) s) ?_;rintro e w ⟨A,c,rfl,J⟩;replace H:=H.join J;clear J
 refine zq λa F=>?_
 refine gg 4 λa F=>?_
 refine cLoopS [2,3,4,6,12,13] (λm r w=>∃j:Nat,m=(Gn p s).length-j/\r=[(14,Ve (j:Int))]/\j<=(Gn p s).length/\(∀i k:Nat,i<j->(Gn p s)[i]?=some k->(k:Int)≠t)/\Own d none w [.rws 3 1 (.slice A (Gn p s).length c) (Jj (Gn p s)),.blk U (bs 142 zb) 85,.blk L (bs 142 s) 85,.blk X [V,R,d3,d4,d5,P,W,d8,d9,y] 29]) F ((Gn p s).length) [(14,Ve ((0:Nat):Int))] ?_ ?_
 ·exact⟨0,Z,Z,O,λi k T=>O,H⟩
 clear F H;intro m r a w hI F
 obtain⟨j,rfl,rfl,hj,o,H⟩:=hI
 have K:=(H.rwsLen 0 Z).2
 simp only[maxLen]at K
 refine gg 6 λa F=>zi (λG=>?_) λG=>?_
 ·
  have E:j<(Gn p s).length:=O
  obtain⟨k,g⟩:∃k,(Gn p s)[j]?=some k:=⟨_,AA E⟩
  obtain⟨bL,oL,rfl,N⟩:=H.intAt 0 Z g
  refine gg 6 λa F=>?_
  refine sLd Ye F Z Z Z N λa F=>?_
  refine gg 9 λa F=>zi (λb=>?_) λb=>?_
  ·
   subst b
   have B:=Xji (AF g)
   obtain⟨l,x,u,C⟩:=Ds B.2
   have M:=fine (Gg B.1) u C
   have z:k<4:=by
    have:=(AB.1 u).1
    have:=(valid (Gg B.1)).thr4
    omega
   refine gg 3 λa F=>?_
   refine Qo Xm Z Xp F Z Z Z (H.whole 2 Z) λa F=>?_
   refine gg 1 λa F=>?_
   refine zCa F (Xla _ p _ (D.own H) s k l x z u C M) H λa w F H=>?_
   refine Gp H 1 F λw H=>?_
   rw[V3]at H
   refine gg 3 λa F=>?_
   refine QM results161 F Z Z Xm Z Xp H 1 Z ?_
   exact⟨by rw[Dp,Xgz,XgA g,if_pos Z,if_pos Z,FU,Es u C],H.below⟩
  refine gg 5 λa F=>?_
  have n:∀i q:Nat,i<j+1->(Gn p s)[i]?=some q->(q:Int)≠t:=λi q T v=>by
   rcases AN i j with h1|h1
   ·exact o i q h1 v
   ·obtain rfl:i=j:=O
    rw[g]at v
    cases v
    exact b
  exact⟨_,O,_,⟨j+1,Z,Z,O,n,H⟩,F.tt⟩
 refine gg 3 λa F=>?_
 refine Xin (places:=[(0,36),(36,6),(42,96),(138,4)]) Lf Xm Y F Z Z Z FillB.nil λa F=>?_
 refine Gp H 1 F λw H=>?_
 rw[V3]at H
 refine gg 3 λa F=>?_
 refine QM results161 F Z Z Xm Z Xp H 1 Z ?_
 (have Q:=XdE (p:=p) (s:=s) (t:=t) (λi k g=>o i k (by have:=(AB.1 g).1;omega) g)
  exact⟨by rw[Dp,Xgz,Q];rfl,H.below⟩)
end
section
def BytesAt(w:World)(A:Option Addr)(l:List UInt8):Prop:=RowsAt w A 1 (l.map λx=>[b8 x])
theorem BytesAt.get{w:World}{A:Option Addr}{l:List UInt8}(h:BytesAt w A l){x:UInt8}(d:l[j]?=some x):∃b c,A=some ⟨b,c,none⟩/\w.cell? ⟨b,c+j*1,none⟩=some (b8 x):=by
 obtain⟨b,c,g,e⟩:=h j [b8 x] (by rw[AD,d];rfl)
 exact⟨b,c,g,by have:=e 0 _ Z;rwa [FF]at this⟩
theorem XrJ(b:VX p=0)(c:k∈Ue p s):mu p (G6 p s k)<mu p s:=by
 obtain⟨l,x,h⟩:=LX b c
 exact h.mu
end
theorem LW{r:Bool}{n:UInt8}(h:∀k,k<9->a k=b k):JO r n (cut a 1)=JO r n (cut b 1):=by
 unfold JO cut
 split
 ·split
  ·exact h _ O
  ·rfl
 ·rfl
theorem Ll(h:∀k,k<9->a k=b k):Qq x a=Qq x b:=LW h
theorem BG(h:∀k,k<9->a k=b k):XaZ x a=XaZ x b:=LW h
theorem LH{c:UInt8}(h:∀k,k<9->a k=b k):EM x a c=EM x b c:=by
 unfold EM;rw[Ll h,BG h]
theorem EX{d v:UInt8}(h:∀k,k<9->a k=b k):∀k,k<9->NV a d v k=NV b d v k:=λk c=>by
 unfold NV
 split
 ·unfold put;split
  ·rfl
  ·exact h k c
 ·exact h k c
theorem MB{u v:UInt8}(h:∀k,k<9->a k=b k)(c:u=v):∀k,k<9->put a j u k=put b j v k:=λk d=>by
 unfold put;split
 ·exact c
 ·exact h k d
theorem BM{d:UInt8}(h:∀k,k<9->a k=b k):∀k,k<9->Bj x a d k=Bj x b d k:=λk c=>by
 have g:=h 0 O
 unfold Bj
 split
 ·unfold Je
  rw[Ll h,BG h,g]
  split
  ·exact MB (EX h) Z k c
  ·split
   ·exact MB h Z k c
   ·split
    ·exact MB h Z k c
    ·exact h k c
 ·unfold XgU
  rw[g]
  refine MB (λq e=>?_) Z k c
  split
  ·exact h q e
  ·exact EX h q e
theorem Xf4(h:VV x=true)(a:By)(u v:UInt8):Bj x a u=Bj x a v:=by
 unfold Bj;rw[if_pos h,if_pos h]
section
variable{p:Prg}{s z1 z2 z12 z21:By}{t u:Nat}{l m:List Ins}{x y:Ins}
def farI(x y:Ins):Prop:=x.loc≠y.loc\/VV x=true\/VV y=true\/(x.op=1/\y.op=1)
theorem farI.symm(h:farI x y):farI y x:=by
 rcases h with h|h|h|h
 ·exact .inl (Ne.symm h)
 ·exact .inr (.inr (.inl h))
 ·exact .inr (.inl h)
 ·exact .inr (.inr (.inr ⟨h.2,h.1⟩))
theorem XnE(h:x.loc≠y.loc):y.loc.toNat≠x.loc.toNat:=λe=>h (HC.1 e.symm)
theorem Dy{x:Ins}(h:x.op=1)(a:By)(b:UInt8):EM x a b=b:=by
 unfold EM
 rw[h]
 rfl
theorem StepOf.had(b:StepOf p s z1 t l x)(d:farI x y)(c:VV y=false):z1 (36+y.loc.toNat)=s (36+y.loc.toNat):=by
 rcases d with h|h|h|h
 ·exact b.mem (.inr (XnE h))
 ·exact b.mem (.inl h)
 ·rw[h]at c;cases c
 ·have e:=b.t4
  rw[b.at',if_neg O]
  split
  ·rename_i q
   rw[Dy h.1]
   have:36+x.loc.toNat=36+y.loc.toNat:=q.2.symm
   rw[this]
  ·rfl
theorem StepOf.near(j:StepOf p s z1 t l x)(b:StepOf p z1 z12 u m y)(d:StepOf p s z2 u m y)(c:t≠u)(o:farI x y):∀i,u*9<=i/\i<u*9+9->z12 i=z2 i:=λi e=>by
 have q:∀k,k<9->cut z1 (u*9) k=cut s (u*9) k:=λk n=>j.far (Ne.symm c) n d.t4
 rw[b.at',if_pos e,d.at',if_pos e];rw[BM q _ O]
 cases g:VV y with
 |true=>rw[Xf4 g]
 |false=>rw[j.had o g]
theorem commute(r:StepOf p s z1 t l x)(n:StepOf p s z2 u m y)(j:StepOf p z1 z12 u m y)(g:StepOf p z2 z21 t l x)(b:t≠u)(o:farI x y):same 142 z12 z21=true:=by
 rw[same_iff]
 intro i _
 have A:=r.t4
 have B:=n.t4
 by_cases e:u*9<=i/\i<u*9+9
 ·rw[r.near j n b o i e]
  have:i=u*9+(i-u*9):=O
  rw[this]
  exact(g.far (Ne.symm b) O B).symm
 ·by_cases q:t*9<=i/\i<t*9+9
  ·rw[n.near g r (Ne.symm b) o.symm i q]
   have:i=t*9+(i-t*9):=O
   rw[this]
   exact j.far b O A
  ·have v:∀k,k<9->cut z1 (u*9) k=cut s (u*9) k:=λk z=>r.far (Ne.symm b) z B
   have w:∀k,k<9->cut z2 (t*9) k=cut s (t*9) k:=λk z=>n.far b z A
   rw[j.at',if_neg e,g.at',if_neg q,r.at' i,if_neg q,n.at' i,if_neg e];rw[LH v,LH w]
   by_cases d:VV x=false/\i=36+x.loc.toNat
   ·rw[if_pos d]
    by_cases c:VV y=false/\i=36+y.loc.toNat
    ·rw[if_pos c,if_pos d,r.had o c.1,n.had o.symm d.1]
     rcases o with h|h|h|h
     ·exact absurd O (XnE h)
     ·rw[h]at d;cases d.1
     ·rw[h]at c;cases c.1
     ·rw[Dy h.1,Dy h.2,show 36+y.loc.toNat=36+x.loc.toNat by omega]
    ·rw[if_neg c,if_pos d,n.had o.symm d.1]
   ·rw[if_neg d,if_neg d]
    by_cases c:VV y=false/\i=36+y.loc.toNat
    ·rw[if_pos c,if_pos c,r.had o c.1]
    ·rw[if_neg c,if_neg c]
theorem StepOf.still(w:StepOf p s z1 t l x)(n:VX p=0)(g:t≠u){k:Nat}(i:u∈Ue p s)(d:StepOf p s z2 u m y):u∈Ue p z1/\StepOf p z1 (G6 p z1 u) u m y:=by
 have e:pcP z1 u=pcP s u:=w.pc (Ne.symm g) d.t4
 have j:m[pcP z1 u]?=some y:=by rw[e];exact d.hx
 have c:u∈Ue p z1:=by
  unfold Ue at i⊢
  rw[Az]at i⊢
  refine⟨i.1,?_⟩
  rw[Xae d.hl]
  exact decide_eq_true (AB.1 j).1
 obtain⟨q,o,b⟩:=LX n c
 have r:q=m:=by have:=b.hl;rw[d.hl]at this;exact(Ac this).symm
 subst r
 have v:o=y:=by have:=b.hx;rw[j]at this;exact(Ac this).symm
 subst v
 exact⟨c,b⟩
end
def Runs(p:Prg):By->List Nat->List UInt8->By->Prop
 |s,[],[],z=>z=s
 |s,t::r,i::b,z=>(Ue p s)[i.toNat]?=some t/\Runs p (G6 p s t) r b z
 |_,_,_,_=>False
theorem Runs.len{p:Prg}{z:By}:∀{r:List Nat}{ix:List UInt8}{s:By},Runs p s r ix z->ix.length=r.length
 | [],[],_,_=>rfl
 |_::r,_::ix,s,h=>by simp[Runs.len (r:=r) (ix:=ix) h.2]
 | [],_::_,_,h=>h.elim
 |_::_,[],_,h=>h.elim
theorem Runs.append{p:Prg}{z:By}{t:Nat}{i:UInt8}(b:(Ue p z)[i.toNat]?=some t):∀{r:List Nat}{ix:List UInt8}{s:By},Runs p s r ix z->Runs p s (r++[t]) (ix++[i]) (G6 p z t)
 | [],[],s,h=>by
   have h:z=s:=h
   subst h
   exact⟨b,Z⟩
 |_::r,_::ix,s,h=>⟨h.1,Runs.append b (r:=r) (ix:=ix) h.2⟩
 | [],_::_,_,h=>h.elim
 |_::_,[],_,h=>h.elim
theorem Runs.mu{p:Prg}(b:VX p=0){z:By}:∀{r:List Nat}{ix:List UInt8}{s:By},Runs p s r ix z->r.length+mu p z<=mu p s
 | [],[],s,h=>by
   have h:z=s:=h
   subst h;simp
 |t::r,i::ix,s,h=>by
  have d:=Runs.mu b (r:=r) (ix:=ix) h.2
  have c:=XrJ b (AF h.1)
  simp only[AY];omega
 | [],_::_,_,h=>h.elim
 |_::_,[],_,h=>h.elim
theorem Runs.right{p:Prg}{z:By}:∀{r:List Nat}{ix:List UInt8}{s:By},UC p s=true->Runs p s r ix z->UC p z=true
 | [],[],s,b,h=>by
   have h:z=s:=h
   subst h;exact b
 |t::r,i::ix,s,b,h=>by
  obtain⟨l,x,c⟩:=LX (Gg b) (AF h.1)
  exact Runs.right (r:=r) (ix:=ix) (c.right b) h.2
 | [],_::_,_,_,h=>h.elim
 |_::_,[],_,_,h=>h.elim
end Go.Proofs.YtajfpcgbnflceaaGreatDoor
