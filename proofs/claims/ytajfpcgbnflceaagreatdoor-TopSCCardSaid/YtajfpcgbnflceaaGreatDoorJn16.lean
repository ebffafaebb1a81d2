/- WALK2. Package buffer: step. Conditions: the program lies in memory; block 0 holds the table of needs; the state is valid, the move one of its moves. -/
import Derived.Test.YtajfpcgbnflceaaGreatDoorJn15
set_option linter.unusedSimpArgs false
set_option linter.unusedVariables false
namespace Go.Proofs.YtajfpcgbnflceaaGreatDoor
open Go.Proofs.Tryz
open Go.RowKit
set_option maxRecDepth 100000
set_option maxHeartbeats 4000000
variable{i k t u:Nat}{l:List Ins}{m:UInt8}{p:Prg}{s z:By}{x:Ins}
theorem EC(h:t<4):(UInt8.ofNat t).toNat=t:=by
 rw[HZ]
 omega
def Xob(p:Prg)(m:UInt8)(s:By)(x:Pss)(t:Nat):Prop:=(x=⟨UInt8.ofNat t,false,0⟩/\Ud p m s t=true)\/(∃i,i<VW s t/\x=V4 m s t i)
theorem Lz{m:UInt8}{s:By}{t:Nat}{x:Pss}:∀{n},x∈Uh m s t n->∃i,i<n/\x=V4 m s t i
 |0,h=>by simp[Uh]at h
 |n+1,h=>by
  rw[Uh]at h
  split at h
  ·rcases A8.1 h with h|h
   ·obtain⟨i,b,e⟩:=Lz h
    exact⟨i,O,e⟩
   ·exact⟨n,O,by simpa using h⟩
  ·obtain⟨i,b,e⟩:=Lz h
   exact⟨i,O,e⟩
theorem XgD{x:Pss}(h:x∈L8 p m s t):Xob p m s x t:=by
 unfold L8 at h
 rcases A8.1 h with h|h
 ·split at h
  ·rename_i b
   exact .inl ⟨by simpa using h,b⟩
  ·simp at h
 ·exact .inr (Lz h)
theorem Ly{p:Prg}{m:UInt8}{s:By}{x:Pss}:∀{n},x∈UU p m s n->∃t,t<n/\Xob p m s x t
 |0,h=>by simp[UU]at h
 |n+1,h=>by
  rw[UU]at h
  rcases A8.1 h with h|h
  ·obtain⟨t,b,e⟩:=Ly h
   exact⟨t,O,e⟩
  ·exact⟨n,O,XgD h⟩
theorem DT(h:Ud p m s t=true):∃l x,p.threads[t]?=some l/\l[(s (t*9)).toNat]?=some x/\NE p s t=some x/\Gh x m s t=true:=by
 unfold Ud at h
 cases c:NE p s t with
 |none=>rw[c]at h;cases h
 |some x=>
  rw[c]at h
  have b:=c
  unfold NE at b
  cases d:p.threads[t]? with
  |none=>rw[d]at b;cases b
  |some l=>
   rw[d]at b
   exact⟨l,x,Z,b,Z,h⟩
theorem Xhd{st st':By}(b:st 0=st' 0)(c:st 1=st' 1):addP m s t st=addP m s t st':=by
 unfold addP Xei
 rw[b]
 have:∀(a:By)(o:Nat),lay a o 2 st=lay a o 2 st':=λa o=>by
  funext i
  unfold lay
  split
  ·rename_i h
   rcases(show i-o=0\/i-o=1 by omega)with e|e<;>rw[e]
   ·exact b
   ·exact c
  ·rfl
 rw[this]
theorem Xrq(h:VX p=0)(b:p.threads[t]?=some l)(c:l[i]?=some x):x.op=1\/x.op=2\/x.op=3\/x.op=4\/x.op=5\/x.op=6\/x.op=7\/x.op=8:=
 MF x.op (U8 (Jo ((valid h).ins t l b) c) 0 O)
theorem Xjc(h:RightM p m s)(e:t<4)(c:p.threads[t]?=some l)(g:l[(s (t*9)).toNat]?=some x):Dp p (Gc s) (t:Int)=N5 x (Gc s) t:=by
 have b:l[(Gc s (t*9)).toNat]?=some x:=by rw[XkG e];exact g
 have d:Q5 p (Gc s) (t:Int)=true:=by
  unfold Q5 Gn
  rw[h.bare,if_pos Z,HN]
  refine⟨t,Az.2 ⟨Ab.2 (AB.1 c).1,?_⟩,by simp⟩
  rw[Xae c]
  exact decide_eq_true (AB.1 b).1
 unfold Dp
 rw[d,if_pos Z,FU]
 exact Es c b
theorem Cd(h:VV x=true\/(VV x=false/\NH x.op/\x.loc.toNat<p.locs.length/\(x.op≠2->x.dst.toNat<8)))(b:VV x=false):x.loc.toNat<p.locs.length/\(x.op≠2->x.dst.toNat<8):=by
 rcases h with h|h
 ·rw[h]at b;cases b
 ·exact h.2.2
theorem XfS(h:RightM p m s)(e:t<4)(g:p.threads[t]?=some l)(c:(s (t*9)).toNat<l.length)(b:l.length<=12):VW s t<=11:=by
 rcases Aw (VW s t)with h0|h0
 ·omega
 ·obtain⟨_,i,d,j,_⟩:=(h.many e).2 O
  omega
theorem XjW(b:x.op=1)(hd:x.dst.toNat<8):
 lay s (t*9) 9 (put (put (cut s (t*9)) (1+x.dst.toNat) (ND s t x.loc)) 0 (put (cut s (t*9)) (1+x.dst.toNat) (ND s t x.loc) 0+1))=Up m x s t:=by
 have c:¬x.op=2:=by rw[b];decide
 unfold Up XgU NV
 rw[if_pos b,if_neg c,if_pos hd,show put (cut s (t*9)) (1+x.dst.toNat) (ND s t x.loc) 0=cut s (t*9) 0 from if_neg O]
theorem Xpu(b:¬x.op=1)(c:x.op=2)(hm:m=1):
 lay (put s (36+x.loc.toNat) (JO x.aR x.aN (cut (cut s (t*9)) 1))) (t*9) 9 (put (cut s (t*9)) 0 (cut s (t*9) 0+1))=Up m x s t:=by
 unfold Up
 rw[if_neg b,if_pos c,if_pos hm]
 rfl
theorem Xpt(b:¬x.op=1)(c:x.op=2)(hm:¬m=1):
 lay (addP m s t (put (put zb 0 x.loc) 1 (JO x.aR x.aN (cut (cut s (t*9)) 1)))) (t*9) 9 (put (cut s (t*9)) 0 (cut s (t*9) 0+1))=Up m x s t:=by
 unfold Up
 have e:=Xhd (m:=m) (s:=s) (t:=t) (st:=put (put zb 0 x.loc) 1 (JO x.aR x.aN (cut (cut s (t*9)) 1))) (st':=stP x.loc (Qq x (cut s (t*9)))) Z Z
 rw[if_neg b,if_pos c,if_neg hm,e]
 rfl
theorem LK(b:¬x.op=1)(c:¬x.op=2)(d:¬(x.op=4\/x.op=5\/x.op=6)):lay s (t*9) 9 (Je x (cut s (t*9)))=Up m x s t:=by
 unfold Up
 rw[if_neg b,if_neg c,if_neg d]
theorem XdX(v:t<4)(b:VV x=false->x.loc.toNat<6)(p:¬x.op=1)(o:¬x.op=2)(e:x.op=4\/x.op=5\/x.op=6)(n:z=N5 x (Gc s) t)(i:Nat):
 lay (lay s 36 6 (cut z 36)) (t*9) 9 (cut z (t*9)) i=Up m x s t i:=by
 have r:VV x=false:=by rcases e with h|h|h<;>simp[VV,h]
 have q:=b r
 have g:∀k,k<9->cut (Gc s) (t*9) k=cut s (t*9) k:=λk u=>if_pos O
 have j:Gc s (36+x.loc.toNat)=s (36+x.loc.toNat):=if_pos O
 unfold Up
 rw[if_neg p,if_neg o,if_pos e,JS]
 unfold lay
 by_cases c:t*9<=i/\i<t*9+9
 ·rw[if_pos c,if_pos c]
  unfold cut
  rw[n,JS,if_pos O,j,show t*9+(i-t*9)-t*9=i-t*9 by omega]
  exact BM g _ O
 ·rw[if_neg c,if_neg c]
  by_cases d:36<=i/\i<36+6
  ·rw[if_pos d]
   unfold cut
   rw[show 36+(i-36)=i by omega,n,JS,if_neg c]
   split
   ·rw[j];exact LH g
   ·exact if_pos O
  ·rw[if_neg d,if_neg O]
theorem XhY(cs:List Value)(p:Prg)(y:World)(hP:ProgAt y cs p)(G:NeedsAt y)(v:UInt8)(s:By)(x:Pss)(M:RightM p v s)(hx:x∈V0 p v s):
   Calls prog 91 #[.agg cs.toArray,YtajfpcgbnflceaaGreatDoor.b8 v,.agg (bs 142 s).toArray,.agg x.cells.toArray] y λe w'=>e=.returned (.agg (bs 142 (Uw p v s x)).toArray)/\Below y.heap.size y w':=by
 have H:=Own.start y none
 have V:=valid M.prog
 have a9:=V.thr4
 have aD:=V.locs6
 have o:=hP
 obtain⟨LA,LC,IA,IC,TA,TC,h,a7,hp⟩:=hP
 obtain⟨c1,c2,c3,c4,c5,rfl⟩:=Xa2 (Uk hp.cond)
 have X:=hp.cs
 subst X
 obtain⟨t,aB,a1⟩:=Ly hx
 have m:t<4:=O
 have J:=EC m
 have K:=M.many m
 rcases a1 with⟨rfl,a3⟩|⟨i,hi,rfl⟩
 ·obtain⟨u,rfl⟩:∃u:UInt8,t=u.toNat:=⟨UInt8.ofNat t,J.symm⟩
  rw[UInt8.ofNat_toNat]at hx⊢
  obtain⟨l,I,P,z,W,aA⟩:=DT a3
  have aC:=Xrq M.prog P z
  have E:=Xpo M.prog P z
  have T:=(AB.1 z).1
  have Q:=V.long u.toNat l P
  have D:=Xjc M m P z
  have a4:VW s u.toNat=(s (138+u.toNat)).toNat:=rfl
  obtain⟨bT,oT,BT,CT,rfl,a2,U,a5⟩:=hp.threads u.toNat l P
  obtain⟨bI,oI,rfl,L⟩:=U (s (u.toNat*9)).toNat I.cells (by rw[AD,z];rfl)
  have g:Uw p v s ⟨u,false,0⟩=Up v I s u.toNat:=by
    unfold Uw
    rw[if_neg (by simp)]
    simp only[W]
  rw[show(Pss.mk u false 0).cells=[YtajfpcgbnflceaaGreatDoor.b8 u,.bool false,YtajfpcgbnflceaaGreatDoor.b8 0]from Z]
  refine VU func91 Z ntmps91 Z (λa F=>?_)
  refine gg 2 λa F=>?_
  refine zBx H F λb4 a w F H=>?_
  refine Eo H F λb6 a w F H=>?_
  refine zBx H F λb7 a w F H=>?_
  refine Mj Lf H F λb8 a w F H=>?_
  refine gg 7 λa F=>?_
  refine cIf F Z (λB=>?_) (λB=>?_)
  ·
   cases B
  refine gg 12 λa F=>?_
  refine Xa1 Xs Xo F Z Z Z Z ?_ ?_
  focus(omega)
  clear F a;intro a F;refine Qo Xn Z Xo F Z Z Z (H.rangeB 2 _ 9 Z O) λa F=>?_
  refine Mj Xof H F λa8 a w F H=>?_
  refine Gp H 0 F λw H=>?_
  rw[V3]at H
  refine gg 2 λa F=>?_
  refine zRO H λH=>?_
  refine gg 4 λa F=>?_
  refine Xe 4 Z F Z Z (λw H=>rLd isAgg33 F Z (H.arg a2)) H qq0 λa F=>?_
  refine gg 2 λa F=>?_
  refine Xf (k:=7) (i:=7) Z F Z (λw=>rIx Yh XA F Z Z ?_) H (λ_ _ _ h=>h) ?_
  focus exact T
  clear F a;intro a F
  refine Xa (k:=8) (i:=8) Z F Z Z (λw H=>rLr Xy Z ?si F Z (H.argR L)) H (λ_ _ _ h=>h) ?_
  case si=>exact VT XA
  clear F a;intro a F;refine Xd (k:=9) (i:=9) Z F (oAl H XW F Z λa6 a w F H=>?_);refine V6 H.tail ?_
  refine Xd (k:=10) (i:=10) Z F (oSr H 0 ?si F Z Z ?s1 Z Z ?_)
  case si=>exact VT XA
  case s1=>rfl
  clear H;intro w H
  refine gg 15 λa F=>zi (λd=>?_) λd=>?_
  ·
   obtain⟨R,A⟩:=Cd E (by simp[VV,d])
   replace A:=A (by rw[d];decide)
   refine gg 1 λa F=>?_
   refine zRO H λH=>?_
   refine gg 2 λa F=>?_
   refine Xe 2 Z F Z Z (λw H=>L3 Xm Z Xp F Z (H.whole 4 Z)) H qq0 λa F=>?_
   refine gg 3 λa F=>?_
   refine Xb 7 Z F Z (λw=>rFa (f:=1) (k:=1) Xn Z XF Z Z F Z) H qq0 λa F=>?_
   refine zEc 6 F (Xlh s u.toNat I.loc _ m O) H λa w F H=>?_
   refine V6 H ?_
   refine gg 1 λa F=>?_
   refine Xd (k:=9) (i:=9) Z F (oStB H 1 Xr F Z Z Z O λw H=>?_)
   refine gg 7 λa F=>?_
   refine Ct H 1 F λw H=>?_
   refine gg 4 λa F=>?_
   refine Qo Xn Z Xo F Z Z Z (H.whole 1 Z) λa F=>?_
   refine gg 1 λa F=>?_
   refine Xa1 Xs Xo F Z Z Z Z ?_ ?_
   focus(omega)
   clear F a;intro a F
   refine Gp H 4 F λw H=>?_
   refine gg 3 λa F=>?_
   refine Qo Xm Z Xp F Z Z Z (H.whole 4 Z) λa F=>?_
   refine Gp H 2 F λw H=>?_
   rw[V3]at H
   refine gg 2 λa F=>?_
   refine J2 XR F Z Xm Z Xp H 2 Z ?_
   refine⟨?_,H.below⟩
   clear F H
   rw[g];rw[XjW d A]
  refine gg 6 λa F=>zi (λn=>?_) λn=>?_
  ·
   obtain⟨R,_⟩:=Cd E (by simp[VV,n])
   refine gg 3 λa F=>?_
   refine zLr F (H.range 0 Z _ 2) λa F=>?_
   refine gg 1 λa F=>?_
   refine Qo XI Z XF F Z Z Z (H.rangeB 1 _ 8 Z O) λa F=>?_
   refine zCa F (QR I.aR I.aN _ _) H λa w F H=>?_
   refine gg 8 λa F=>?_
   refine Ct H 1 F λw H=>?_
   refine gg 7 λa F=>zi (λN=>?_) λN=>?_
   ·
    refine gg 6 λa F=>?_
    refine Ct H 4 F λw H=>?_
    refine gg 4 λa F=>?_
    refine Qo Xn Z Xo F Z Z Z (H.whole 1 Z) λa F=>?_
    refine gg 1 λa F=>?_
    refine Xa1 Xs Xo F Z Z Z Z ?_ ?_
    focus(omega)
    clear F a;intro a F
    refine Gp H 4 F λw H=>?_
    refine gg 3 λa F=>?_
    refine Qo Xm Z Xp F Z Z Z (H.whole 4 Z) λa F=>?_
    refine Gp H 2 F λw H=>?_
    rw[V3]at H
    refine gg 2 λa F=>?_
    refine J2 XR F Z Xm Z Xp H 2 Z ?_
    refine⟨?_,H.below⟩
    clear F H
    rw[g];rw[Xpu d n N]
   refine gg 2 λa F=>?_
   refine Qo Xm Z Xp F Z Z Z (H.whole 4 Z) λa F=>?_
   refine gg 4 λa F=>?_
   refine Xin (places:=[(0,1),(1,1)]) Xhk Xx Y F Z Z Z (FillB.one Z Z (FillB.one Z Z FillB.nil)) λa F=>?_
   refine zCa F (Xp0 v s u.toNat _ _ m (XfS M m P T Q)) H λa w F H=>?_
   refine Gp H 4 F λw H=>?_
   rw[V3]at H
   refine gg 4 λa F=>?_
   refine Qo Xn Z Xo F Z Z Z (H.whole 1 Z) λa F=>?_
   refine gg 1 λa F=>?_
   refine Xa1 Xs Xo F Z Z Z Z ?_ ?_
   focus(omega)
   clear F a;intro a F
   refine Gp H 4 F λw H=>?_
   refine gg 3 λa F=>?_
   refine Qo Xm Z Xp F Z Z Z (H.whole 4 Z) λa F=>?_
   refine Gp H 2 F λw H=>?_
   rw[V3]at H
   refine gg 2 λa F=>?_
   refine J2 XR F Z Xm Z Xp H 2 Z ?_
   refine⟨?_,H.below⟩
   clear F H
   rw[g];rw[Xpt d n N]
  refine gg 7 λa F=>zi (λc=>?_) λc=>?_
  ·
   refine gg 2 λa F=>zi (λc=>?_) λc=>?_
   ·
    refine gg 1 λa F=>?_
    refine zRO H λH=>?_
    refine gg 1 λa F=>?_
    refine Xe 1 Z F Z Z (λw H=>L3 Xm Z Xp F Z (H.whole 4 Z)) H qq0 (Xg 3 Z Z (λa F w=>rMv F Z) H qq0 λa F=>?_)
    refine DU F H [6,8,9,10] 9 [true,true,true,true,true,true,true,true,true,false,false] (λS q w=>∃b,q=[(93,.agg (bs 142 (Gc s)).toArray),(96,.agg (bs 142 (Dp p (Gc s) ((u.toNat:Nat):Int))).toArray),(97,Ve (Xgz p (Gc s) ((u.toNat:Nat):Int))),(13,Vc b 0)]/\Own y none w ((.blk b (bs 142 zb) 85)::S)) (by repeat(first|exact SubR.nil|(apply SubR.cons;· rfl))) ?_ (λC=>?_)
    rotate_left
    ·
     refine XcR (k:=3) (i:=2) (j:=8) Y F Z Z Z Z ?_ ?_
     ·
      refine UK call153 F Z Z (QF s _) ?_;rintro e w ⟨rfl,r⟩;replace H:=H.grow r;clear r
      refine zq λa F=>?_
      refine V6 H ?_
      refine XcR (k:=4) (i:=4) (j:=8) Y F Z Z Z Z ?_ ?_
      ·
       refine UK call161 F Z Z (Jn _ p _ (o.own H) (G.own H) (Gc s) _) ?_;rintro e w ⟨rfl,r⟩;replace H:=H.grow r;clear r
       refine zq λa F=>?_
       refine V6 H ?_
       refine gg 3 λa F=>?_
       refine Xd (k:=8) (i:=8) Z F (XiZ H Lf F Z λb a w F H=>?_);refine V6 H.tail ?_
       exact eGo C Y _ ⟨b,Z,H⟩ F.tt
      refine XiZ H Lf F Z λb a w F H=>?_;refine V6 H.tail ?_
      refine zEc 4 F (Jn _ p _ (o.own H) (G.own H) (Gc s) _) H λa w F H=>?_
      refine V6 H.tail ?_;refine Xb 5 Z F Z (λw=>rMv F Z) H.tail qq0 (Xg 6 Z Z (λa F w=>Lt F Z Z) H.tail qq0 (Xg 7 Z Z (λa F w=>Lt F Z Z) H.tail qq0 λa F=>?_))
      exact eGo C Y _ ⟨b,Z,H⟩ F.tt
     refine XiZ H Lf F Z λb a w F H=>?_;refine V6 H.tail ?_
     refine zEc 2 F (QF s _) H λa w F H=>?_
     refine V6 H.tail ?_
     refine zEc 4 F (Jn _ p _ (o.own H) (G.own H) (Gc s) _) H λa w F H=>?_
     refine V6 H.tail ?_;refine Xb 5 Z F Z (λw=>rMv F Z) H.tail qq0 (Xg 6 Z Z (λa F w=>Lt F Z Z) H.tail qq0 (Xg 7 Z Z (λa F w=>Lt F Z Z) H.tail qq0 λa F=>?_))
     exact eGo C Y _ ⟨b,Z,H⟩ F.tt
    clear F H;intro q a w L F
    obtain⟨b,rfl,H⟩:=L
    refine Xd (k:=9) (i:=9) Z F (Xgq H 0 Xp F Z Z Z O λw H=>?_);rw[V3]at H
    refine gg 3 λa F=>?_
    refine XmZ Y (λw=>Own y none w [.blk b (bs 142 (Dp p (Gc s) ((u.toNat:Nat):Int))) 85]) ?_;replace H:=H.drew;refine Xb 0 Z F Z (λw=>rMv F Z) (H.sel [0] Z Z) qq0 (Xg 1 Z Z (λa F w=>rFa (f:=0) (k:=0) Xm Z sizeOf78 Z Z F Z) (H.sel [0] Z Z) qq0 λa F=>?_)
    refine Xf (k:=2) (i:=2) Z F Z (λw=>rIaZ Xs Xo F Z Z ?_) (H.sel [0] Z Z) (λ_ _ _ h=>h) ?_
    focus(omega)
    clear F a;intro a F;refine Xe 3 Z F Z Z (λw H=>L3 Xn Z Xo F Z (H.rangeB 0 _ 9 Z O)) (H.sel [0] Z Z) qq0 (Xg 4 Z Z (λa F w=>rFa (f:=1) (k:=36) Xm Z XB Z Z F Z) (H.sel [0] Z Z) qq0 (qT 5 Z Y Z Z Z Z (λa F w H=>L3 XC Z XB F Z (H.rangeB 0 _ 6 Z O)) (H.sel [0] Z Z) qq0 λa F=>?_));refine Xd (k:=6) (i:=6) Z F (Xgq H 2 Xo F Z Z Z O λw H=>?_);rw[V3]at H;refine V6 (H.sel [0] Z Z) ?_;refine Xb 7 Z F Z (λw=>rFa (f:=1) (k:=36) Xm Z XB Z Z F Z) (H.sel [0] Z Z) qq0 λa F=>?_;refine Xd (k:=8) (i:=8) Z F (Xgq H 5 XB F Z Z Z O λw H=>?_);refine V6 (H.sel [0] Z Z) ?_
    refine gg 4 λa F=>?_
    refine Qo Xn Z Xo F Z Z Z (H.whole 2 Z) λa F=>?_
    refine gg 1 λa F=>?_
    refine Xa1 Xs Xo F Z Z Z Z ?_ ?_
    focus(omega)
    clear F a;intro a F
    refine Gp H 5 F λw H=>?_
    refine gg 3 λa F=>?_
    refine Qo Xm Z Xp F Z Z Z (H.whole 5 Z) λa F=>?_
    refine Gp H 3 F λw H=>?_
    rw[V3]at H
    refine gg 2 λa F=>?_
    refine J2 XR F Z Xm Z Xp H 3 Z ?_
    refine⟨?_,H.below⟩
    clear F H
    rw[g]
    exact Xbr λi _=>XdX m (λh=>by have:=(Cd E h).1;omega) d n (by exact .inl c) D i
   refine gg 2 λa F=>?_
   refine Qo Xn Z Xo F Z Z Z (H.whole 1 Z) λa F=>?_
   refine zCa F (ML I _ _) H λa w F H=>?_
   refine gg 3 λa F=>?_
   refine Gp H 1 F λw H=>?_
   rw[V3]at H
   refine gg 4 λa F=>?_
   refine Qo Xn Z Xo F Z Z Z (H.whole 1 Z) λa F=>?_
   refine gg 1 λa F=>?_
   refine Xa1 Xs Xo F Z Z Z Z ?_ ?_
   focus(omega)
   clear F a;intro a F
   refine Gp H 4 F λw H=>?_
   refine gg 3 λa F=>?_
   refine Qo Xm Z Xp F Z Z Z (H.whole 4 Z) λa F=>?_
   refine Gp H 2 F λw H=>?_
   rw[V3]at H
   refine gg 2 λa F=>?_
   refine J2 XR F Z Xm Z Xp H 2 Z ?_
   refine⟨?_,H.below⟩
   clear F H
   rw[g];rw[LK d n (by rintro(h|h|h)<;>contradiction)]
  refine gg 6 λa F=>zi (λc=>?_) λc=>?_
  ·
   refine gg 2 λa F=>zi (λc=>?_) λc=>?_
   ·
    refine gg 1 λa F=>?_
    refine zRO H λH=>?_
    refine gg 1 λa F=>?_
    refine Xe 1 Z F Z Z (λw H=>L3 Xm Z Xp F Z (H.whole 4 Z)) H qq0 (Xg 3 Z Z (λa F w=>rMv F Z) H qq0 λa F=>?_)
    refine DU F H [6,8,9,10] 9 [true,true,true,true,true,true,true,true,true,false,false] (λS q w=>∃b,q=[(93,.agg (bs 142 (Gc s)).toArray),(96,.agg (bs 142 (Dp p (Gc s) ((u.toNat:Nat):Int))).toArray),(97,Ve (Xgz p (Gc s) ((u.toNat:Nat):Int))),(13,Vc b 0)]/\Own y none w ((.blk b (bs 142 zb) 85)::S)) (by repeat(first|exact SubR.nil|(apply SubR.cons;· rfl))) ?_ (λC=>?_)
    rotate_left
    ·
     refine XcR (k:=3) (i:=2) (j:=8) Y F Z Z Z Z ?_ ?_
     ·
      refine UK call153 F Z Z (QF s _) ?_;rintro e w ⟨rfl,r⟩;replace H:=H.grow r;clear r
      refine zq λa F=>?_
      refine V6 H ?_
      refine XcR (k:=4) (i:=4) (j:=8) Y F Z Z Z Z ?_ ?_
      ·
       refine UK call161 F Z Z (Jn _ p _ (o.own H) (G.own H) (Gc s) _) ?_;rintro e w ⟨rfl,r⟩;replace H:=H.grow r;clear r
       refine zq λa F=>?_
       refine V6 H ?_
       refine gg 3 λa F=>?_
       refine Xd (k:=8) (i:=8) Z F (XiZ H Lf F Z λb a w F H=>?_);refine V6 H.tail ?_
       exact eGo C Y _ ⟨b,Z,H⟩ F.tt
      refine XiZ H Lf F Z λb a w F H=>?_;refine V6 H.tail ?_
      refine zEc 4 F (Jn _ p _ (o.own H) (G.own H) (Gc s) _) H λa w F H=>?_
      refine V6 H.tail ?_;refine Xb 5 Z F Z (λw=>rMv F Z) H.tail qq0 (Xg 6 Z Z (λa F w=>Lt F Z Z) H.tail qq0 (Xg 7 Z Z (λa F w=>Lt F Z Z) H.tail qq0 λa F=>?_))
      exact eGo C Y _ ⟨b,Z,H⟩ F.tt
     refine XiZ H Lf F Z λb a w F H=>?_;refine V6 H.tail ?_
     refine zEc 2 F (QF s _) H λa w F H=>?_
     refine V6 H.tail ?_
     refine zEc 4 F (Jn _ p _ (o.own H) (G.own H) (Gc s) _) H λa w F H=>?_
     refine V6 H.tail ?_;refine Xb 5 Z F Z (λw=>rMv F Z) H.tail qq0 (Xg 6 Z Z (λa F w=>Lt F Z Z) H.tail qq0 (Xg 7 Z Z (λa F w=>Lt F Z Z) H.tail qq0 λa F=>?_))
     exact eGo C Y _ ⟨b,Z,H⟩ F.tt
    clear F H;intro q a w L F
    obtain⟨b,rfl,H⟩:=L
    refine Xd (k:=9) (i:=9) Z F (Xgq H 0 Xp F Z Z Z O λw H=>?_);rw[V3]at H
    refine gg 3 λa F=>?_
    refine XmZ Y (λw=>Own y none w [.blk b (bs 142 (Dp p (Gc s) ((u.toNat:Nat):Int))) 85]) ?_;replace H:=H.drew;refine Xb 0 Z F Z (λw=>rMv F Z) (H.sel [0] Z Z) qq0 (Xg 1 Z Z (λa F w=>rFa (f:=0) (k:=0) Xm Z sizeOf78 Z Z F Z) (H.sel [0] Z Z) qq0 λa F=>?_)
    refine Xf (k:=2) (i:=2) Z F Z (λw=>rIaZ Xs Xo F Z Z ?_) (H.sel [0] Z Z) (λ_ _ _ h=>h) ?_
    focus(omega)
    clear F a;intro a F;refine Xe 3 Z F Z Z (λw H=>L3 Xn Z Xo F Z (H.rangeB 0 _ 9 Z O)) (H.sel [0] Z Z) qq0 (Xg 4 Z Z (λa F w=>rFa (f:=1) (k:=36) Xm Z XB Z Z F Z) (H.sel [0] Z Z) qq0 (qT 5 Z Y Z Z Z Z (λa F w H=>L3 XC Z XB F Z (H.rangeB 0 _ 6 Z O)) (H.sel [0] Z Z) qq0 λa F=>?_));refine Xd (k:=6) (i:=6) Z F (Xgq H 2 Xo F Z Z Z O λw H=>?_);rw[V3]at H;refine V6 (H.sel [0] Z Z) ?_;refine Xb 7 Z F Z (λw=>rFa (f:=1) (k:=36) Xm Z XB Z Z F Z) (H.sel [0] Z Z) qq0 λa F=>?_;refine Xd (k:=8) (i:=8) Z F (Xgq H 5 XB F Z Z Z O λw H=>?_);refine V6 (H.sel [0] Z Z) ?_
    refine gg 4 λa F=>?_
    refine Qo Xn Z Xo F Z Z Z (H.whole 2 Z) λa F=>?_
    refine gg 1 λa F=>?_
    refine Xa1 Xs Xo F Z Z Z Z ?_ ?_
    focus(omega)
    clear F a;intro a F
    refine Gp H 5 F λw H=>?_
    refine gg 3 λa F=>?_
    refine Qo Xm Z Xp F Z Z Z (H.whole 5 Z) λa F=>?_
    refine Gp H 3 F λw H=>?_
    rw[V3]at H
    refine gg 2 λa F=>?_
    refine J2 XR F Z Xm Z Xp H 3 Z ?_
    refine⟨?_,H.below⟩
    clear F H
    rw[g]
    exact Xbr λi _=>XdX m (λh=>by have:=(Cd E h).1;omega) d n (by exact .inr (.inl c)) D i
   refine gg 2 λa F=>?_
   refine Qo Xn Z Xo F Z Z Z (H.whole 1 Z) λa F=>?_
   refine zCa F (ML I _ _) H λa w F H=>?_
   refine gg 3 λa F=>?_
   refine Gp H 1 F λw H=>?_
   rw[V3]at H
   refine gg 4 λa F=>?_
   refine Qo Xn Z Xo F Z Z Z (H.whole 1 Z) λa F=>?_
   refine gg 1 λa F=>?_
   refine Xa1 Xs Xo F Z Z Z Z ?_ ?_
   focus(omega)
   clear F a;intro a F
   refine Gp H 4 F λw H=>?_
   refine gg 3 λa F=>?_
   refine Qo Xm Z Xp F Z Z Z (H.whole 4 Z) λa F=>?_
   refine Gp H 2 F λw H=>?_
   rw[V3]at H
   refine gg 2 λa F=>?_
   refine J2 XR F Z Xm Z Xp H 2 Z ?_
   refine⟨?_,H.below⟩
   clear F H
   rw[g];rw[LK d n (by rintro(h|h|h)<;>contradiction)]
  refine gg 5 λa F=>zi (λc=>?_) λc=>?_
  ·
   refine gg 1 λa F=>?_
   refine zRO H λH=>?_
   refine gg 1 λa F=>?_
   refine Xe 1 Z F Z Z (λw H=>L3 Xm Z Xp F Z (H.whole 4 Z)) H qq0 (Xg 3 Z Z (λa F w=>rMv F Z) H qq0 λa F=>?_)
   refine DU F H [6,8,9,10] 9 [true,true,true,true,true,true,true,true,true,false,false] (λS q w=>∃b,q=[(93,.agg (bs 142 (Gc s)).toArray),(96,.agg (bs 142 (Dp p (Gc s) ((u.toNat:Nat):Int))).toArray),(97,Ve (Xgz p (Gc s) ((u.toNat:Nat):Int))),(13,Vc b 0)]/\Own y none w ((.blk b (bs 142 zb) 85)::S)) (by repeat(first|exact SubR.nil|(apply SubR.cons;· rfl))) ?_ (λC=>?_)
   rotate_left
   ·
    refine XcR (k:=3) (i:=2) (j:=8) Y F Z Z Z Z ?_ ?_
    ·
     refine UK call153 F Z Z (QF s _) ?_;rintro e w ⟨rfl,r⟩;replace H:=H.grow r;clear r
     refine zq λa F=>?_
     refine V6 H ?_
     refine XcR (k:=4) (i:=4) (j:=8) Y F Z Z Z Z ?_ ?_
     ·
      refine UK call161 F Z Z (Jn _ p _ (o.own H) (G.own H) (Gc s) _) ?_;rintro e w ⟨rfl,r⟩;replace H:=H.grow r;clear r
      refine zq λa F=>?_
      refine V6 H ?_
      refine gg 3 λa F=>?_
      refine Xd (k:=8) (i:=8) Z F (XiZ H Lf F Z λb a w F H=>?_);refine V6 H.tail ?_
      exact eGo C Y _ ⟨b,Z,H⟩ F.tt
     refine XiZ H Lf F Z λb a w F H=>?_;refine V6 H.tail ?_
     refine zEc 4 F (Jn _ p _ (o.own H) (G.own H) (Gc s) _) H λa w F H=>?_
     refine V6 H.tail ?_;refine Xb 5 Z F Z (λw=>rMv F Z) H.tail qq0 (Xg 6 Z Z (λa F w=>Lt F Z Z) H.tail qq0 (Xg 7 Z Z (λa F w=>Lt F Z Z) H.tail qq0 λa F=>?_))
     exact eGo C Y _ ⟨b,Z,H⟩ F.tt
    refine XiZ H Lf F Z λb a w F H=>?_;refine V6 H.tail ?_
    refine zEc 2 F (QF s _) H λa w F H=>?_
    refine V6 H.tail ?_
    refine zEc 4 F (Jn _ p _ (o.own H) (G.own H) (Gc s) _) H λa w F H=>?_
    refine V6 H.tail ?_;refine Xb 5 Z F Z (λw=>rMv F Z) H.tail qq0 (Xg 6 Z Z (λa F w=>Lt F Z Z) H.tail qq0 (Xg 7 Z Z (λa F w=>Lt F Z Z) H.tail qq0 λa F=>?_))
    exact eGo C Y _ ⟨b,Z,H⟩ F.tt
   clear F H;intro q a w L F
   obtain⟨b,rfl,H⟩:=L
   refine Xd (k:=9) (i:=9) Z F (Xgq H 0 Xp F Z Z Z O λw H=>?_);rw[V3]at H
   refine gg 3 λa F=>?_
   refine XmZ Y (λw=>Own y none w [.blk b (bs 142 (Dp p (Gc s) ((u.toNat:Nat):Int))) 85]) ?_;replace H:=H.drew;refine Xb 0 Z F Z (λw=>rMv F Z) (H.sel [0] Z Z) qq0 (Xg 1 Z Z (λa F w=>rFa (f:=0) (k:=0) Xm Z sizeOf78 Z Z F Z) (H.sel [0] Z Z) qq0 λa F=>?_)
   refine Xf (k:=2) (i:=2) Z F Z (λw=>rIaZ Xs Xo F Z Z ?_) (H.sel [0] Z Z) (λ_ _ _ h=>h) ?_
   focus(omega)
   clear F a;intro a F;refine Xe 3 Z F Z Z (λw H=>L3 Xn Z Xo F Z (H.rangeB 0 _ 9 Z O)) (H.sel [0] Z Z) qq0 (Xg 4 Z Z (λa F w=>rFa (f:=1) (k:=36) Xm Z XB Z Z F Z) (H.sel [0] Z Z) qq0 (qT 5 Z Y Z Z Z Z (λa F w H=>L3 XC Z XB F Z (H.rangeB 0 _ 6 Z O)) (H.sel [0] Z Z) qq0 λa F=>?_));refine Xd (k:=6) (i:=6) Z F (Xgq H 2 Xo F Z Z Z O λw H=>?_);rw[V3]at H;refine V6 (H.sel [0] Z Z) ?_;refine Xb 7 Z F Z (λw=>rFa (f:=1) (k:=36) Xm Z XB Z Z F Z) (H.sel [0] Z Z) qq0 λa F=>?_;refine Xd (k:=8) (i:=8) Z F (Xgq H 5 XB F Z Z Z O λw H=>?_);refine V6 (H.sel [0] Z Z) ?_
   refine gg 4 λa F=>?_
   refine Qo Xn Z Xo F Z Z Z (H.whole 2 Z) λa F=>?_
   refine gg 1 λa F=>?_
   refine Xa1 Xs Xo F Z Z Z Z ?_ ?_
   focus(omega)
   clear F a;intro a F
   refine Gp H 5 F λw H=>?_
   refine gg 3 λa F=>?_
   refine Qo Xm Z Xp F Z Z Z (H.whole 5 Z) λa F=>?_
   refine Gp H 3 F λw H=>?_
   rw[V3]at H
   refine gg 2 λa F=>?_
   refine J2 XR F Z Xm Z Xp H 3 Z ?_
   refine⟨?_,H.below⟩
   clear F H
   rw[g]
   exact Xbr λi _=>XdX m (λh=>by have:=(Cd E h).1;omega) d n (by exact .inr (.inr c)) D i
  refine gg 2 λa F=>?_
  refine Qo Xn Z Xo F Z Z Z (H.whole 1 Z) λa F=>?_
  refine zCa F (ML I _ _) H λa w F H=>?_
  refine gg 3 λa F=>?_
  refine Gp H 1 F λw H=>?_
  rw[V3]at H
  refine gg 4 λa F=>?_
  refine Qo Xn Z Xo F Z Z Z (H.whole 1 Z) λa F=>?_
  refine gg 1 λa F=>?_
  refine Xa1 Xs Xo F Z Z Z Z ?_ ?_
  focus(omega)
  clear F a;intro a F
  refine Gp H 4 F λw H=>?_
  refine gg 3 λa F=>?_
  refine Qo Xm Z Xp F Z Z Z (H.whole 4 Z) λa F=>?_
  refine Gp H 2 F λw H=>?_
  rw[V3]at H
  refine gg 2 λa F=>?_
  refine J2 XR F Z Xm Z Xp H 2 Z ?_
  refine⟨?_,H.below⟩
  clear F H
  rw[g];rw[LK d n (by rintro(h|h|h)<;>contradiction)]
 ·have g:Uw p v s (V4 v s t i)=MY v s t (V4 v s t i).l:=by
    unfold Uw V4
    rw[if_pos Z]
    show MY v s (UInt8.ofNat t).toNat _=_
    rw[J]
  refine VU func91 Z ntmps91 Z (λa F=>?_)
  refine gg 2 λa F=>?_
  refine zBx H F λb4 a w F H=>?_
  refine Eo H F λb6 a w F H=>?_
  refine zBx H F λb7 a w F H=>?_
  refine Mj Lf H F λb8 a w F H=>?_
  refine gg 7 λa F=>?_
  refine cIf F Z (λB=>?_) (λB=>?_)
  ·
   refine gg 3 λa F=>?_
   refine Qo Xm Z Xp F Z Z Z (H.whole 2 Z) λa F=>?_
   refine gg 1 λa F=>?_
   refine zCa F (Xj9 v s (V4 v s t i) t _ J m O K.1 (λi hi=>by have:=M.loc m hi;omega) (λh3=>⟨i,hi,by unfold V4;rw[if_pos h3]⟩)) H λa w F H=>?_
   refine Gp H 0 F λw H=>?_
   rw[V3]at H
   refine gg 2 λa F=>?_
   refine J2 XR F Z Xm Z Xp H 0 Z ?_
   exact⟨by rw[g],H.below⟩
  cases B
theorem QG(s:By)(t a:Nat)(st:By)(b:a<=VW s t)(i:Nat):Xei s t a st i=if i=138+t then s (138+t)+1 else if 42+t*24+a*2<=i/\i<42+t*24+a*2+2 then st (i-(42+t*24+a*2))
 else if 42+t*24+(a+1)*2<=i/\i<42+t*24+(VW s t+1)*2 then s (i-2)else s i:=by
 unfold Xei put
 split
 ·rfl
 ·unfold lay cut
  split
  ·rfl
  ·by_cases h:42+t*24+(a+1)*2<=i/\i<42+t*24+(VW s t+1)*2
   ·rw[if_pos h,if_pos O]
    congr 1
    omega
   ·rw[if_neg h,if_neg O]
theorem Gs(s:By)(t a:Nat)(c:a<VW s t)(i:Nat):UJ s t a i=if i=36+(UD s t a).toNat then QL s t a else if i=138+t then s (138+t)-1
 else if 42+t*24+(VW s t-1)*2<=i/\i<42+t*24+VW s t*2 then 0
 else if 42+t*24+a*2<=i/\i<42+t*24+(VW s t-1)*2 then s (i+2)else s i:=by
 unfold UJ put
 split
 ·rfl
 ·split
  ·rfl
  ·unfold lay cut zb
   by_cases h:42+t*24+(VW s t-1)*2<=i/\i<42+t*24+VW s t*2
   ·rw[if_pos h,if_pos O]
   ·rw[if_neg h,if_neg O]
    by_cases b:42+t*24+a*2<=i/\i<42+t*24+(VW s t-1)*2
    ·rw[if_pos b,if_pos O]
     congr 1
     omega
    ·rw[if_neg b,if_neg O]
section
variable{s st:By}{t a:Nat}
theorem XpY(b:a<=VW s t)(c:i<42):Xei s t a st i=s i:=by
 rw[QG s t a st b,if_neg O,if_neg O,if_neg O]
theorem EU(b:a<=VW s t)(c:VW s t<=11):VW (Xei s t a st) t=VW s t+1:=by
 unfold VW at c⊢
 rw[QG s t a st b,if_pos Z,H6]
 have d:(1:UInt8).toNat=1:=rfl
 omega
theorem XpZ(b:a<=VW s t)(j:VW s t<=11)(e:t<4)(d:u<4)(c:u≠t):VW (Xei s t a st) u=VW s u/\∀i,i<12->UD (Xei s t a st) u i=UD s u i/\QL (Xei s t a st) u i=QL s u i:=by
 refine⟨?_,λi g=>⟨?_,?_⟩⟩
 ·unfold VW
  rw[QG s t a st b,if_neg O,if_neg O,if_neg O]
 ·unfold UD
  rw[QG s t a st b,if_neg O,if_neg O,if_neg O]
 ·unfold QL
  rw[QG s t a st b,if_neg O,if_neg O,if_neg O]
theorem XkP(c:a<=VW s t)(g:VW s t<=11)(d:t<4)(e:i<12):UD (Xei s t a st) t i=if i=a then st 0 else if a<i/\i<=VW s t then UD s t (i-1)else UD s t i:=by
 unfold UD
 rw[QG s t a st c,if_neg O]
 by_cases h:i=a
 ·rw[if_pos O,if_pos h];congr 1;omega
 ·rw[if_neg O,if_neg h]
  by_cases b:a<i/\i<=VW s t
  ·rw[if_pos O,if_pos b];congr 1;omega
  ·rw[if_neg O,if_neg b]
theorem XkN(c:a<=VW s t)(g:VW s t<=11)(d:t<4)(e:i<12):QL (Xei s t a st) t i=if i=a then st 1 else if a<i/\i<=VW s t then QL s t (i-1)else QL s t i:=by
 unfold QL
 rw[QG s t a st c,if_neg O]
 by_cases h:i=a
 ·rw[if_pos O,if_pos h];congr 1;omega
 ·rw[if_neg O,if_neg h]
  by_cases b:a<i/\i<=VW s t
  ·rw[if_pos O,if_pos b];congr 1;omega
  ·rw[if_neg O,if_neg b]
theorem Xj8(b:a<VW s t)(c:i<36):UJ s t a i=s i:=by
 rw[Gs s t a b,if_neg O,if_neg O,if_neg O,if_neg O]
theorem Xcj(b:a<VW s t)(c:k<6):UJ s t a (36+k)=if k=(UD s t a).toNat then QL s t a else s (36+k):=by
 rw[Gs s t a b]
 by_cases h:k=(UD s t a).toNat
 ·rw[if_pos O,if_pos h]
 ·rw[if_neg O,if_neg h,if_neg O,if_neg O,if_neg O]
theorem Nt(b:a<VW s t)(d:(UD s t a).toNat<6):VW (UJ s t a) t=VW s t-1:=by
 unfold VW at b⊢
 rw[Gs s t a b,if_neg O,if_pos Z,UInt8.toNat_sub_of_le _ _ (Ai.2 (by have c:(1:UInt8).toNat=1:=rfl;omega))]
 rfl
theorem Xcl(b:a<VW s t)(d:(UD s t a).toNat<6)(m:VW s t<=12)(g:t<4)(e:u<4)(c:u≠t):VW (UJ s t a) u=VW s u/\∀i,i<12->UD (UJ s t a) u i=UD s u i/\QL (UJ s t a) u i=QL s u i:=by
 refine⟨?_,λi j=>⟨?_,?_⟩⟩
 ·unfold VW
  rw[Gs s t a b,if_neg O,if_neg O,if_neg O,if_neg O]
 ·show UJ s t a (42+u*24+i*2)=_
  rw[Gs s t a b,if_neg O,if_neg O,if_neg O,if_neg O]
  rfl
 ·show UJ s t a (42+u*24+i*2+1)=_
  rw[Gs s t a b,if_neg O,if_neg O,if_neg O,if_neg O]
  rfl
theorem Xck(c:a<VW s t)(e:(UD s t a).toNat<6)(j:VW s t<=12)(d:t<4)(g:i<12):UD (UJ s t a) t i=if i+1=VW s t then 0 else if a<=i/\i+1<VW s t then UD s t (i+1)else UD s t i:=by
 show UJ s t a (42+t*24+i*2)=_
 rw[Gs s t a c,if_neg O,if_neg O]
 by_cases h:i+1=VW s t
 ·rw[if_pos O,if_pos h]
 ·rw[if_neg O,if_neg h]
  by_cases b:a<=i/\i+1<VW s t
  ·rw[if_pos O,if_pos b]
   show s _=s _
   congr 1;omega
  ·rw[if_neg O,if_neg b];rfl
theorem Xci(c:a<VW s t)(e:(UD s t a).toNat<6)(j:VW s t<=12)(d:t<4)(g:i<12):QL (UJ s t a) t i=if i+1=VW s t then 0 else if a<=i/\i+1<VW s t then QL s t (i+1)else QL s t i:=by
 show UJ s t a (42+t*24+i*2+1)=_
 rw[Gs s t a c,if_neg O,if_neg O]
 by_cases h:i+1=VW s t
 ·rw[if_pos O,if_pos h]
 ·rw[if_neg O,if_neg h]
  by_cases b:a<=i/\i+1<VW s t
  ·rw[if_pos O,if_pos b]
   show s _=s _
   congr 1;omega
  ·rw[if_neg O,if_neg b];rfl
end
def El(x:Ins)(s:By)(t:Nat):By:=
 if x.op=1 then XgU x (cut s (t*9)) (ND s t x.loc)else if x.op=2 then put (cut s (t*9)) 0 (s (t*9)+1)
 else if x.op=4\/x.op=5\/x.op=6 then XgU x (cut s (t*9)) (s (36+x.loc.toNat))else Je x (cut s (t*9))
def Ge(m:UInt8)(x:Ins):Prop:=(x.op=2/\m=1)\/x.op=4\/x.op=5\/x.op=6
instance (m:UInt8) (x:Ins):Decidable (Ge m x):=by unfold Ge;infer_instance
def US(m:UInt8)(x:Ins):Prop:=x.op=2/\m≠1
instance (m:UInt8) (x:Ins):Decidable (US m x):=by unfold US;infer_instance
theorem Xmw(v:t<4)(p:VV x=false->x.loc.toNat<6)(q:x.op=1\/x.op=2\/x.op=3\/x.op=4\/x.op=5\/x.op=6\/x.op=7\/x.op=8)(i:Nat):
   Up m x s t i=if t*9<=i/\i<t*9+9 then El x s t (i-t*9)else if Ge m x/\i=36+x.loc.toNat then EM x (cut s (t*9)) (s (36+x.loc.toNat))
     else if US m x then addP m s t (stP x.loc (Qq x (cut s (t*9)))) i else s i:=by
 by_cases c:x.op=1
 ·have d:¬Ge m x:=by unfold Ge;rw[c];simp
  have n:¬US m x:=by unfold US;rw[c];simp
  unfold Up El
  have g:¬(Ge m x/\i=36+x.loc.toNat):=λh=>d h.1
  rw[if_pos c,if_pos c,if_neg g,if_neg n]
  rfl
 ·by_cases b:x.op=2
  ·have u:=p (by simp[VV,b])
   unfold Up El
   rw[if_neg c,if_pos b,if_neg c,if_pos b]
   unfold lay
   split
   ·rfl
   ·rename_i w
    by_cases o:m=1
    ·have d:Ge m x:=.inl ⟨b,o⟩
     have n:¬US m x:=λh=>h.2 o
     rw[if_pos o,if_neg n]
     unfold put
     by_cases e:i=36+x.loc.toNat
     ·rw[if_pos e,if_pos ⟨d,e⟩]
      unfold EM
      rw[if_pos (.inl b)]
     ·rw[if_neg e,if_neg (λh=>e h.2)]
    ·have d:¬Ge m x:=by unfold Ge;rw[b];simp[o]
     rw[if_neg o,if_neg (λh=>d h.1),if_pos ⟨b,o⟩]
  ·have n:¬US m x:=λh=>b h.1
   by_cases j:x.op=4\/x.op=5\/x.op=6
   ·have r:VV x=false:=by rcases j with h|h|h<;>simp[VV,h]
    have d:Ge m x:=.inr j
    unfold Up El
    rw[if_neg c,if_neg b,if_pos j,if_neg c,if_neg b,if_pos j,JS,if_neg n]
    unfold Bj
    rw[r]
    simp only[IR,if_false,true_and,d]
   ·have d:¬Ge m x:=by
      rintro(h|h)
      ·exact b h.1
      ·exact j h
    unfold Up El
    have g:¬(Ge m x/\i=36+x.loc.toNat):=λh=>d h.1
    rw[if_neg c,if_neg b,if_neg j,if_neg c,if_neg b,if_neg j,if_neg g,if_neg n]
    rfl
theorem Xmx(c:x.op=1\/x.op=2\/x.op=3\/x.op=4\/x.op=5\/x.op=6\/x.op=7\/x.op=8):El x s t 0=C6 x (cut s (t*9)):=by
 have d:x.op≠8->C6 x (cut s (t*9))=s (t*9)+1:=λh=>if_neg (λg=>h g.1)
 unfold El
 split
 ·rename_i h;rw[d (by rw[h];decide)];rfl
 ·split
  ·rename_i h;rw[d (by rw[h];decide)];rfl
  ·split
   ·rename_i h;rw[d (by rcases h with h|h|h<;>rw[h]<;>decide)];rfl
   ·rename_i i e b
    have j:VV x=true:=by
     rcases c with h|h|h|h|h|h|h|h
     ·exact absurd h i
     ·exact absurd h e
     ·simp[VV,h]
     ·exact absurd (.inl h) b
     ·exact absurd (.inr (.inl h)) b
     ·exact absurd (.inr (.inr h)) b
     ·simp[VV,h]
     ·simp[VV,h]
    have:=Xc4 x (cut s (t*9)) 0
    unfold Bj at this
    rw[j,if_pos Z]at this
    exact this
theorem MQ:Qg p m s t=true↔VW s t<=J0 p m s t/\∀i,i<12->Uy p m s t i=true:=by
 unfold Qg;rw[AJ,decide_eq_true_eq,allB_iff]
theorem slot_iff:Uy p m s t i=true↔(VW s t<=i->UD s t i=0/\QL s t i=0)/\(i<VW s t->(UD s t i).toNat<p.locs.length/\(m=3->0<i->(UD s t (i-1)).toNat<=(UD s t i).toNat)):=by
 unfold Uy
 split
 ·rename_i h
  simp only[AJ,beq_iff_eq]
  exact⟨λd=>⟨λ_=>d,λh2=>absurd h2 O⟩,λd=>d.1 h⟩
 ·rename_i h
  simp only[AJ,decide_eq_true_eq,Bool.not_eq_true',HG,beq_eq_false_iff_ne,decide_eq_false_iff_not]
  constructor
  ·rintro⟨j,h2⟩
   refine⟨λe=>absurd e h,λ_=>⟨j,λb c=>?_⟩⟩
   rcases h2 with(h2|h2)|h2
   ·exact absurd b h2
   ·exact absurd c h2
   ·rw[Aa]at h2;omega
  ·rintro⟨_,h2⟩
   obtain⟨e,g⟩:=h2 O
   refine⟨e,?_⟩
   by_cases b:m=3
   ·by_cases c:0<i
    ·refine .inr ?_
     rw[Aa]
     have:=g b c
     omega
    ·exact .inl (.inr c)
   ·exact .inl (.inl b)
theorem Cr{m:UInt8}{s:By}{t:Nat}{loc:UInt8}:∀n,(m=3->∀i,J3 m s t loc n<=i->i<n->loc.toNat<(UD s t i).toNat)/\(m=3->0<J3 m s t loc n->(UD s t (J3 m s t loc n-1)).toNat<=loc.toNat)/\(m≠3->J3 m s t loc n=n)
 |0=>⟨λ_ i _ h=>absurd h O,λ_ h=>absurd h (by simp[J3]),λ_=>rfl⟩
 |n+1=>by
  obtain⟨j,g,p⟩:=Cr (m:=m) (s:=s) (t:=t) (loc:=loc) n
  rw[J3]
  split
  ·rename_i c
   refine⟨λb i e d=>?_,g,λb=>absurd c.1 b⟩
   rcases AN i n with h|h
   ·exact j b i e h
   ·obtain rfl:i=n:=O
    exact Aa.1 c.2
  ·rename_i c
   refine⟨λ_ i e d=>absurd e O,λb _=>?_,λ_=>rfl⟩
   have o:¬loc.toNat<(UD s t n).toNat:=λh=>c ⟨b,Aa.2 h⟩
   show(UD s t n).toNat<=_
   omega
def nu(p:Prg)(s:By):Nat:=2*mu p s+(VW s 0+VW s 1+VW s 2+VW s 3)
structure ExecOf (p:Prg) (m:UInt8) (s:By) (t:Nat) (l:List Ins) (x:Ins):Prop where
 r:RightM p m s
 hl:p.threads[t]?=some l
 hx:l[pcP s t]?=some x
 ready:Gh x m s t=true
 t4:t<4
 op:x.op=1\/x.op=2\/x.op=3\/x.op=4\/x.op=5\/x.op=6\/x.op=7\/x.op=8
 loc:VV x=false->x.loc.toNat<p.locs.length
theorem XnT(b:RightM p m s)(j:t<p.threads.length)(g:Ud p m s t=true):∃l x,ExecOf p m s t l x/\NE p s t=some x:=by
 obtain⟨l,x,c,e,i,d⟩:=DT g
 exact⟨l,x,⟨b,c,e,d,by have:=(valid b.prog).thr4;omega,Xrq b.prog c e,λh=>(Cd (Xpo b.prog c e) h).1⟩,i⟩
theorem Jm{a b:By}(h:∀k,k<9->b (u*9+k)=a (u*9+k))(c:U5 p a u=true):U5 p b u=true:=by
 unfold U5 at c⊢
 split at c
 ·have e:=h 0 O
  simp only[FF]at e
  rw[e];exact c
 ·rw[same_iff]at c⊢
  exact λk d=>(h k d).trans (c k d)
theorem ES(h:i<42):Gc s i=s i:=if_pos h
theorem XaQ(d:VX p=0)(g:∀u,u<4->U5 p z u=true)(hm:∀k,k<6->NF p z k=true):UC p (Gc z)=true:=by
 rw[Qc d (λu e=>?_) (λk b=>?_)]
 ·rw[AJ,same_iff,same_iff]
  exact⟨λi j=>if_neg O,λi j=>if_neg O⟩
 ·exact Jm (λk b=>ES O) (g u e)
 ·have c:=hm k b
  unfold NF at c⊢
  rw[ES O];exact c
section
variable{p:Prg}{m:UInt8}{s:By}{t:Nat}{l:List Ins}{x:Ins}
theorem RightM.thread(h:RightM p m s)(c:u<4):U5 p s u=true:=by
 have b:=h.bare
 unfold UC JX at b
 simp only[AJ]at b
 exact Jm (λk d=>(ES O).symm) ((allB_iff.1 b.2.1.1) u c)
theorem RightM.mem(h:RightM p m s)(d:k<6):NF p s k=true:=by
 have b:=h.bare
 unfold UC JX at b
 simp only[AJ]at b
 have c:=(allB_iff.1 b.2.1.2) k d
 unfold NF at c⊢
 rw[ES O]at c;exact c
theorem ExecOf.loc6(h:ExecOf p m s t l x):VV x=false->x.loc.toNat<6:=λb=>by have:=h.loc b;have:=(valid h.r.prog).locs6;omega
theorem ExecOf.lt(h:ExecOf p m s t l x):pcP s t<l.length:=(AB.1 h.hx).1
theorem ExecOf.l12(h:ExecOf p m s t l x):l.length<=12:=(valid h.r.prog).long t l h.hl
theorem ExecOf.val(h:ExecOf p m s t l x)(i:Nat):Up m x s t i=if t*9<=i/\i<t*9+9 then El x s t (i-t*9)else if Ge m x/\i=36+x.loc.toNat then EM x (cut s (t*9)) (s (36+x.loc.toNat))
 else if US m x then addP m s t (stP x.loc (Qq x (cut s (t*9)))) i else s i:=Xmw h.t4 h.loc6 h.op i
theorem ExecOf.room(h:ExecOf p m s t l x):VW s t<=11:=XfS h.r h.t4 h.hl h.lt h.l12
theorem ExecOf.notLocal(_h:ExecOf p m s t l x)(b:Ge m x\/US m x):VV x=false:=by
 rcases b with(h|h|h|h)|h
 ·simp[VV,h.1]
 ·simp[VV,h]
 ·simp[VV,h]
 ·simp[VV,h]
 ·simp[VV,h.1]
theorem ExecOf.low(h:ExecOf p m s t l x)(b:i<42):Up m x s t i=if t*9<=i/\i<t*9+9 then El x s t (i-t*9)else if Ge m x/\i=36+x.loc.toNat then EM x (cut s (t*9)) (s (36+x.loc.toNat))else s i:=by
 rw[h.val]
 split
 ·rfl
 ·split
  ·rfl
  ·split
   ·exact XpY (G5 _) b
   ·rfl
theorem ExecOf.other(h:ExecOf p m s t l x)(c:u<4)(b:u≠t)(d:k<9):Up m x s t (u*9+k)=s (u*9+k):=by
 have:=h.t4
 rw[h.low O,if_neg (by rcases Nat.lt_or_gt_of_ne b with h|h<;>omega),if_neg O]
theorem ExecOf.pcOther(h:ExecOf p m s t l x)(c:u<4)(b:u≠t):pcP (Up m x s t) u=pcP s u:=by
 have:=h.other c b (k:=0) O
 simp only[FF]at this
 unfold pcP;rw[this]
theorem ExecOf.own(h:ExecOf p m s t l x)(b:k<9):Up m x s t (t*9+k)=El x s t k:=by
 have:=h.t4
 rw[h.low O,if_pos O,show t*9+k-t*9=k by omega]
theorem ExecOf.pc(h:ExecOf p m s t l x):pcP s t<pcP (Up m x s t) t/\pcP (Up m x s t) t<=l.length:=by
 have b:=h.own (k:=0) O
 simp only[FF]at b
 rw[Xmx h.op]at b
 have c:=Jo ((valid h.r.prog).ins t l h.hl) h.hx
 rw[As]at c
 have:=Xfa (th:=cut s (t*9)) h.l12 (by simpa[cut,pcP]using h.lt) (by simpa[cut,pcP]using c)
 unfold pcP
 rw[b]
 simpa[cut]using this
theorem ExecOf.mem(h:ExecOf p m s t l x)(d:k<6):Up m x s t (36+k)=if Ge m x/\k=x.loc.toNat then EM x (cut s (t*9)) (s (36+x.loc.toNat))else s (36+k):=by
 have:=h.t4
 rw[h.low O,if_neg O]
 by_cases b:Ge m x/\k=x.loc.toNat
 ·rw[if_pos ⟨b.1,O⟩,if_pos b]
 ·rw[if_neg (λc=>b ⟨c.1,O⟩),if_neg b]
theorem ExecOf.high(h:ExecOf p m s t l x)(c:42<=i):Up m x s t i=if US m x then addP m s t (stP x.loc (Qq x (cut s (t*9)))) i else s i:=by
 have:=h.t4
 rw[h.val,if_neg O,if_neg];rintro⟨b,e⟩
 have:=h.loc6 (h.notLocal (.inl b))
 omega
theorem ExecOf.still(h:ExecOf p m s t l x)(hb:¬US m x)(u:Nat):VW (Up m x s t) u=VW s u/\∀i,UD (Up m x s t) u i=UD s u i/\QL (Up m x s t) u i=QL s u i:=by
 refine⟨?_,λi=>⟨?_,?_⟩⟩
 ·unfold VW;rw[h.high O,if_neg hb]
 ·unfold UD;rw[h.high O,if_neg hb]
 ·unfold QL;rw[h.high O,if_neg hb]
theorem ExecOf.adds(h:ExecOf p m s t l x)(hb:US m x)(u:Nat):VW (Up m x s t) u=VW (addP m s t (stP x.loc (Qq x (cut s (t*9))))) u/\∀i,UD (Up m x s t) u i=UD (addP m s t (stP x.loc (Qq x (cut s (t*9))))) u i/\QL (Up m x s t) u i=QL (addP m s t (stP x.loc (Qq x (cut s (t*9))))) u i:=by
 refine⟨?_,λi=>⟨?_,?_⟩⟩
 ·unfold VW;rw[h.high O,if_pos hb]
 ·unfold UD;rw[h.high O,if_pos hb]
 ·unfold QL;rw[h.high O,if_pos hb]
theorem ExecOf.far(h:ExecOf p m s t l x)(n:u<4)(c:u≠t):VW (Up m x s t) u=VW s u/\∀i,i<12->UD (Up m x s t) u i=UD s u i/\QL (Up m x s t) u i=QL s u i:=by
 by_cases g:US m x
 ·obtain⟨d,b⟩:=h.adds g u
  obtain⟨o,e⟩:=XpZ (st:=stP x.loc (Qq x (cut s (t*9)))) (a:=J3 m s t x.loc (VW s t)) (G5 _) h.room h.t4 n c
  exact⟨d.trans o,λi j=>⟨((b i).1).trans (e i j).1,((b i).2).trans (e i j).2⟩⟩
 ·obtain⟨d,b⟩:=h.still g u
  exact⟨d,λi _=>b i⟩
end
theorem DG(hm:VW z u=VW s u)(hb:∀i,i<12->UD z u i=UD s u i/\QL z u i=QL s u i)(c:J0 p m s u<=J0 p m z u)(h:Qg p m s u=true):Qg p m z u=true:=by
 rw[MQ]at h⊢
 refine⟨O,λi d=>?_⟩
 have b:=h.2 i d
 rw[slot_iff]at b⊢;rw[hm,(hb i d).1,(hb i d).2]
 refine⟨b.1,λe=>⟨(b.2 e).1,λj g=>?_⟩⟩
 rw[(hb (i-1) O).1]
 exact(b.2 e).2 j g
theorem Xaa(h:pcP s u<=pcP z u):J0 p m s u<=J0 p m z u:=by
 unfold J0
 split
 ·exact h
 ·exact AI _
section
variable{p:Prg}{m:UInt8}{s:By}{t:Nat}{l:List Ins}{x:Ins}
theorem XkO(h:ExecOf p m s t l x)(hb:US m x)(v:UInt8):∀i,i<12->Uy p m (addP m s t (stP x.loc v)) t i=true:=by
 have y:=h.room
 have u:=h.t4
 have o:=G5 (m:=m) (s:=s) (t:=t) (loc:=x.loc) (VW s t)
 obtain⟨A,B,D⟩:=Cr (m:=m) (s:=s) (t:=t) (loc:=x.loc) (VW s t)
 have q:=h.loc (h.notLocal (.inr hb))
 have d:∀i,i<12->_:=λi b=>slot_iff.1 (h.r.slot u b)
 intro i b
 rw[slot_iff]
 have w:stP x.loc v 0=x.loc:=rfl
 unfold addP
 rw[w]
 generalize J:J3 m s t x.loc (VW s t)=a at o A B D
 have g:∀j,j<12->UD (Xei s t a (stP x.loc v)) t j=if j=a then x.loc else if a<j/\j<=VW s t then UD s t (j-1)else UD s t j:=λj I=>XkP o y u I
 rw[EU o y]
 refine⟨λE=>?_,λG=>⟨?_,λn C=>?_⟩⟩
 ·rw[g i b,XkN o y u b,if_neg O,if_neg O,if_neg O,if_neg O]
  exact(d i b).1 O
 ·rw[g i b]
  by_cases e:i=a
  ·rw[if_pos e];exact q
  ·rw[if_neg e]
   by_cases c:a<i/\i<=VW s t
   ·rw[if_pos c];exact((d (i-1) O).2 O).1
   ·rw[if_neg c];exact((d i b).2 O).1
 ·rw[g i b,g (i-1) O]
  by_cases e:i=a
  ·rw[if_pos e,if_neg O,if_neg O,e]
   exact B n O
  ·rw[if_neg e]
   by_cases c:a<i/\i<=VW s t
   ·rw[if_pos c]
    by_cases z:i-1=a
    ·rw[if_pos z]
     have:=A n (i-1) O O
     omega
    ·rw[if_neg z,if_pos O]
     exact((d (i-1) O).2 O).2 n O
   ·rw[if_neg c,if_neg O,if_neg O]
    exact((d i b).2 O).2 n C
theorem ExecOf.right(h:ExecOf p m s t l x):RightM p m (Up m x s t):=by
 have A:=h.t4
 have j:=h.pc
 refine⟨h.r.known,XaQ h.r.prog (λu o=>?_) (λk w=>?_),λu o=>?_⟩
 ·by_cases b:u=t
  ·subst b
   rw[GD h.hl]
   exact decide_eq_true j.2
  ·exact Jm (λk w=>h.other o b w) (h.r.thread o)
 ·have d:=h.r.mem w
  unfold NF at d⊢
  by_cases q:k<p.locs.length
  ·rw[decide_eq_true q,Bool.true_or]
  ·rw[decide_eq_false q,Ho]at d⊢
   rw[h.mem w,if_neg]
   ·exact d
   ·rintro⟨B,e⟩
    have:=h.loc (h.notLocal (.inl B))
    omega
 ·by_cases b:u=t
  ·subst b
   by_cases v:US m x
   ·obtain⟨d,g⟩:=h.adds v u
    rw[MQ]
    have n:=EU (st:=stP x.loc (Qq x (cut s (u*9)))) (G5 (m:=m) (s:=s) (t:=u) (loc:=x.loc) (VW s u)) h.room
    have c:=h.r.most A
    have y:=(AB.1 h.hl).1
    refine⟨?_,λi C=>?_⟩
    ·rw[d]
     show VW (Xei s u (J3 m s u x.loc (VW s u)) _) u<=_
     rw[n]
     unfold J0 at c⊢
     rw[if_pos ⟨v.2,y⟩]at c⊢
     have:=j.1
     unfold pcP at this
     omega
    ·have z:=XkO h v (Qq x (cut s (u*9))) i C
     rw[slot_iff]at z⊢;rw[d,(g i).1,(g i).2,(g (i-1)).1]
     exact z
   ·obtain⟨d,g⟩:=h.still v u
    exact DG d (λi _=>g i) (Xaa (IS j.1)) (h.r.fits u o)
  ·obtain⟨d,g⟩:=h.far o b
   exact DG d g (Xaa (Nat.le_of_eq (h.pcOther o b).symm)) (h.r.fits u o)
theorem ExecOf.many(h:ExecOf p m s t l x):VW (Up m x s t) t<=VW s t+1:=by
 by_cases c:US m x
 ·have b:=EU (st:=stP x.loc (Qq x (cut s (t*9)))) (G5 (m:=m) (s:=s) (t:=t) (loc:=x.loc) (VW s t)) h.room
  rw[(h.adds c t).1]
  exact Nat.le_of_eq b
 ·rw[(h.still c t).1]
  omega
theorem ExecOf.nu(h:ExecOf p m s t l x):nu p (Up m x s t)<nu p s:=by
 have i:=h.pc
 have d:=h.lt
 have e:=Xjs h.hl
 have g:=h.t4
 have j:=h.many
 have q:∀u,u<4->u≠t->pcP (Up m x s t) u=pcP s u:=λu c b=>h.pcOther c b
 have r:∀u,u<4->u≠t->VW (Up m x s t) u=VW s u:=λu c b=>(h.far c b).1
 unfold YtajfpcgbnflceaaGreatDoor.nu YtajfpcgbnflceaaGreatDoor.mu
 rcases(by omega:t=0\/t=1\/t=2\/t=3)with rfl|rfl|rfl|rfl
 ·rw[q 1 O O,q 2 O O,q 3 O O,r 1 O O,r 2 O O,r 3 O O];omega
 ·rw[q 0 O O,q 2 O O,q 3 O O,r 0 O O,r 2 O O,r 3 O O];omega
 ·rw[q 0 O O,q 1 O O,q 3 O O,r 0 O O,r 1 O O,r 3 O O];omega
 ·rw[q 0 O O,q 1 O O,q 2 O O,r 0 O O,r 1 O O,r 2 O O];omega
end
structure DrainOf (p:Prg) (m:UInt8) (s:By) (t a:Nat):Prop where
 r:RightM p m s
 t4:t<4
 lt:a<VW s t
 fst:∀i,i<a->m=3/\UD s t i≠UD s t a
theorem DZ{m:UInt8}{s:By}{t:Nat}{loc:UInt8}:∀(f i:Nat),(m=3->∃j,i<=j/\j<i+f/\UD s t j=loc)->(m≠3->0<f)->i<=Qi m s t loc f i/\Qi m s t loc f i<i+f/\(m=3->UD s t (Qi m s t loc f i)=loc)/\(∀j,i<=j->j<Qi m s t loc f i->m=3/\UD s t j≠loc)
 |0,i,n,o=>by
  by_cases b:m=3
  ·obtain⟨j,_,_,_⟩:=n b
   omega
  ·exact absurd (o b) O
 |f+1,i,n,o=>by
  rw[Qi]
  split
  ·rename_i g
   obtain⟨w,z,v,q⟩:=DZ (m:=m) (s:=s) (t:=t) (loc:=loc) f (i+1) (λb=>by
    obtain⟨j,r,y,p⟩:=n b
    rcases Nat.eq_or_lt_of_le r with e|e
    ·subst e;exact absurd p g.2
    ·exact⟨j,e,O,p⟩) (λb=>absurd g.1 b)
   refine⟨O,O,v,λj c d=>?_⟩
   rcases Nat.eq_or_lt_of_le c with e|e
   ·subst e;exact g
   ·exact q j e d
  ·rename_i g
   exact⟨AI _,O,λb=>Decidable.not_not.1 λu=>g ⟨b,u⟩,λj c d=>absurd c O⟩
theorem Xka(q:RightM p m s)(r:t<4)(w:i<VW s t):DrainOf p m s t (Na m s t (V4 m s t i).l)/\(m=3->UD s t (Na m s t (V4 m s t i).l)=UD s t i):=by
 have b:m=3->(V4 m s t i).l=UD s t i:=λh=>if_pos h
 obtain⟨v,u,d,o⟩:=DZ (m:=m) (s:=s) (t:=t) (loc:=(V4 m s t i).l) (VW s t) 0 (λh=>⟨i,O,O,(b h).symm⟩) (λ_=>O)
 refine⟨⟨q,r,by unfold Na;omega,λj n=>?_⟩,λh=>(d h).trans (b h)⟩
 obtain⟨c,g⟩:=o j O n
 exact⟨c,λe=>g (e.trans (d c))⟩
section
variable{p:Prg}{m:UInt8}{s:By}{t a:Nat}
theorem DrainOf.n12(h:DrainOf p m s t a):VW s t<=12:=(h.r.many h.t4).1
theorem DrainOf.loc(h:DrainOf p m s t a):(UD s t a).toNat<p.locs.length:=h.r.loc h.t4 h.lt
theorem DrainOf.loc6(h:DrainOf p m s t a):(UD s t a).toNat<6:=by have:=h.loc;have:=(valid h.r.prog).locs6;omega
theorem DrainOf.low(h:DrainOf p m s t a)(b:i<36):UJ s t a i=s i:=Xj8 h.lt b
theorem DrainOf.pc(h:DrainOf p m s t a)(b:u<4):pcP (UJ s t a) u=pcP s u:=by unfold pcP;rw[h.low O]
theorem DrainOf.right(h:DrainOf p m s t a):RightM p m (UJ s t a):=by
 have v:=h.t4
 have C:=h.n12
 have b:=h.lt
 have c:=h.loc6
 refine⟨h.r.known,XaQ h.r.prog (λu n=>Jm (λk A=>h.low O) (h.r.thread n)) (λk A=>?_),λu n=>?_⟩
 ·have g:=h.r.mem A
  unfold NF at g⊢
  by_cases q:k<p.locs.length
  ·rw[decide_eq_true q,Bool.true_or]
  ·rw[decide_eq_false q,Ho]at g⊢
   rw[Xcj b A,if_neg (by have:=h.loc;omega)]
   exact g
 ·by_cases w:u=t
  ·subst w
   rw[MQ]
   have o:∀i,i<12->_:=λi d=>slot_iff.1 (h.r.slot v d)
   have z:∀j,j<12->_:=λj N=>Xck b c C v N
   refine⟨?_,λi d=>?_⟩
   ·rw[Nt b c]
    have g:=h.r.most v
    have G:=Xaa (p:=p) (m:=m) (Nat.le_of_eq (h.pc n).symm)
    omega
   ·rw[slot_iff,Nt b c]
    refine⟨λK=>?_,λL=>⟨?_,λB I=>?_⟩⟩
    ·rw[z i d,Xci b c C v d]
     by_cases e:i+1=VW s u
     ·rw[if_pos e,if_pos e];exact⟨Z,Z⟩
     ·rw[if_neg e,if_neg e,if_neg O,if_neg O]
      exact(o i d).1 O
    ·rw[z i d,if_neg O]
     by_cases y:a<=i/\i+1<VW s u
     ·rw[if_pos y];exact((o (i+1) O).2 O).1
     ·rw[if_neg y];exact((o i d).2 O).1
    ·have M:¬i+1=VW s u:=O
     have D:¬i-1+1=VW s u:=O
     rw[z i d,z (i-1) O,if_neg M,if_neg D]
     by_cases y:a<=i/\i+1<VW s u
     ·rw[if_pos y]
      have E:=((o (i+1) O).2 O).2 B O
      rw[show i+1-1=i by omega]at E
      by_cases J:a<=i-1/\i-1+1<VW s u
      ·rw[if_pos J,show i-1+1=i by omega];exact E
      ·rw[if_neg J]
       have P:=((o i d).2 O).2 B I
       omega
     ·rw[if_neg y,if_neg O]
      exact((o i d).2 O).2 B I
  ·obtain⟨g,G⟩:=Xcl b c C v n w
   exact DG g G (Xaa (Nat.le_of_eq (h.pc n).symm)) (h.r.fits u n)
theorem DrainOf.nu(h:DrainOf p m s t a):nu p (UJ s t a)<nu p s:=by
 have e:=h.t4
 have b:=h.lt
 have g:=Nt b h.loc6
 have q:∀u,u<4->pcP (UJ s t a) u=pcP s u:=λu d=>h.pc d
 have r:∀u,u<4->u≠t->VW (UJ s t a) u=VW s u:=λu d c=>(Xcl b h.loc6 h.n12 e d c).1
 unfold YtajfpcgbnflceaaGreatDoor.nu YtajfpcgbnflceaaGreatDoor.mu
 rw[q 0 O,q 1 O,q 2 O,q 3 O]
 rcases(by omega:t=0\/t=1\/t=2\/t=3)with rfl|rfl|rfl|rfl
 ·rw[r 1 O O,r 2 O O,r 3 O O];omega
 ·rw[r 0 O O,r 2 O O,r 3 O O];omega
 ·rw[r 0 O O,r 1 O O,r 3 O O];omega
 ·rw[r 0 O O,r 1 O O,r 2 O O];omega
end
inductive Went (p:Prg) (m:UInt8) (s:By):Pss->By->Prop
 |exec {t:Nat} {l:List Ins} {x:Ins}:ExecOf p m s t l x->NE p s t=some x->Went p m s ⟨UInt8.ofNat t,false,0⟩ (Up m x s t)
 |drain {t i:Nat}:DrainOf p m s t (Na m s t (V4 m s t i).l)->i<VW s t->(m=3->UD s t (Na m s t (V4 m s t i).l)=UD s t i)->Went p m s (V4 m s t i) (UJ s t (Na m s t (V4 m s t i).l))
theorem Xng{x:Pss}(g:RightM p m s)(z:x∈V0 p m s):Went p m s x (Uw p m s x):=by
 have w:=(valid g.prog).thr4
 obtain⟨t,o,n⟩:=Ly z
 have b:t<4:=O
 have c:=EC b
 rcases n with⟨rfl,j⟩|⟨i,r,rfl⟩
 ·obtain⟨l,y,u,q⟩:=XnT g o j
  have e:Uw p m s ⟨UInt8.ofNat t,false,0⟩=Up m y s t:=by
   unfold Uw
   rw[if_neg (by simp)]
   show(match NE p s (UInt8.ofNat t).toNat with|some i=>Up m i s (UInt8.ofNat t).toNat|none=>s)=_
   rw[c,q]
  rw[e]
  exact .exec u q
 ·obtain⟨A,v⟩:=Xka g b r
  have e:Uw p m s (V4 m s t i)=UJ s t (Na m s t (V4 m s t i).l):=by
   unfold Uw
   rw[if_pos (show(V4 m s t i).d=true from Z)]
   show MY m s (UInt8.ofNat t).toNat _=_
   rw[c]
   rfl
  rw[e]
  exact .drain A r v
theorem Went.right{x:Pss}(h:Went p m s x z):RightM p m z:=by
 cases h with
 |exec h _=>exact h.right
 |drain h _ _=>exact h.right
theorem Went.nu{x:Pss}(h:Went p m s x z):nu p z<nu p s:=by
 cases h with
 |exec h _=>exact h.nu
 |drain h _ _=>exact h.nu
theorem Xdi(h:RightM p m s)(c:t<4)(b:UInt8):ND s t b=seenN s t b (VW s t):=by
 have:=(h.many c).1
 unfold ND
 rw[Fv this]
theorem Xlg{b:UInt8}(h:VW s t=0):ND s t b=s (36+b.toNat):=by
 unfold ND
 rw[h]
 rfl
theorem DrainOf.seen{a:Nat}(h:DrainOf p m s t a){b:UInt8}(G:b.toNat<6):ND (UJ s t a) t b=ND s t b:=by
 have c:=h.lt
 have j:=h.loc6
 have C:=h.n12
 have u:=h.t4
 rw[Xdi h.right u,Xdi h.r u,Nt c j]
 have E:∀i,i<12->_:=λi B=>And.intro (Xck c j C u B) (Xci c j C u B)
 have q:UJ s t a (36+b.toNat)=if UD s t a=b then QL s t a else s (36+b.toNat):=by
  rw[Xcj c G]
  by_cases e:UD s t a=b
  ·rw[if_pos (by rw[e]),if_pos e]
  ·rw[if_neg (λv=>e (HC.1 v.symm)),if_neg e]
 have y:∀k,k<=a->seenN (UJ s t a) t b k=if UD s t a=b then QL s t a else seenN s t b k:=by
  intro k
  induction k with
  |zero=>intro _;exact q
  |succ k w=>
   intro z
   have e:=E k O
   have A:¬k+1=VW s t:=O
   have D:¬(a<=k/\k+1<VW s t):=O
   rw[seenN,e.1,e.2,if_neg A,if_neg A,if_neg D,if_neg D,w O,seenN]
   by_cases d:UD s t a=b
   ·rw[if_pos d,if_pos d,if_neg (by rw[<-d];exact(h.fst k O).2)]
   ·rw[if_neg d,if_neg d]
 have o:∀k,a<=k->k+1<=VW s t->seenN (UJ s t a) t b k=seenN s t b (k+1):=by
  intro k z
  induction z with
  |refl=>
   intro _
   rw[y a (AI _),seenN]
  | @step k g w=>
    intro n
    have g:a<=k:=g
    have n:k+1+1<=VW s t:=n
    have e:=E k O
    have d:¬k+1=VW s t:=O
    have v:a<=k/\k+1<VW s t:=⟨g,O⟩
    show seenN (UJ s t a) t b (k+1)=seenN s t b (k+1+1)
    rw[seenN,e.1,e.2,if_neg d,if_neg d,if_pos v,if_pos v,w O]
    exact(seenN.eq_2 s t b (k+1)).symm
 have:=o (VW s t-1) O O
 rwa [show VW s t-1+1=VW s t by omega]at this
end Go.Proofs.YtajfpcgbnflceaaGreatDoor
