/- WALK2. Package buffer: Move, Play. Conditions: the program and the picks lie in memory; block 0 holds the table of needs. -/
import Derived.Test.YtajfpcgbnflceaaGreatDoorJn16
set_option linter.unusedSimpArgs false
set_option linter.unusedVariables false
namespace Go.Proofs.YtajfpcgbnflceaaGreatDoor
open Go.Proofs.Tryz
open Go.RowKit
set_option maxRecDepth 100000
variable{dn r:List Pss}{f i k most n t:Nat}{l l0:List By}{m:UInt8}{p:Prg}{s th z:By}{x:Pss}
def Xfd(p:Prg)(m:UInt8)(s:By)(x:Pss):By:=if x∈GQ p m s then Uw p m s x else zb
def Xjf(p:Prg)(m:UInt8)(s:By)(x:Pss):Int:=if x∈GQ p m s then 0 else 2
theorem XgE(h:x∈GQ p m s):RightM p m s/\x∈V0 p m s:=by
 unfold GQ at h
 split at h
 ·rename_i b;exact⟨rightM_iff.1 b,h⟩
 ·simp at h
theorem XbI(h:RightM p m s):GQ p m s=V0 p m s:=by rw[GQ,rightM_iff.2 h];rfl
theorem Xjd(o:List Value)(p:Prg)(j:World)(m:ProgAt j o p)(r:NeedsAt j)(d:UInt8)(s:By)(x:Pss):
 Calls prog 49 #[.agg o.toArray,YtajfpcgbnflceaaGreatDoor.b8 d,.agg (bs 142 s).toArray,.agg x.cells.toArray] j λe t=>e=.returned (.tuple #[.agg (bs 142 (Xfd p d s x)).toArray,Ve (Xjf p d s x)])/\Below j.heap.size j t:=by
 have H:=Own.start j none
 obtain⟨I,y,E,K,D,B,z,d8,L,v,rfl⟩:=m.len10
 refine VU func49 Z ntmps49 Z (λa F=>?_)
 refine gg 2 λa F=>?_
 refine zBx H F λJ a w F H=>?_
 refine Eo H F λG a w F H=>?_
 refine zBx H F λC a w F H=>?_
 refine Mj Lf H F λb8 a w F H=>?_
 refine gg 4 λa F=>?_
 refine zRO H λH=>?_
 refine gg 3 λa F=>?_
 refine Xa (k:=3) (i:=4) Z F Z Z (λw H=>rLr underlying117 Z ?si F Z (H.whole 1 Z)) H (λ_ _ _ h=>h) ?_
 case si=>exact VT sizeOf117
 clear F a;intro a F;refine Xd (k:=4) (i:=3) Z F (UK call47 F Z Z (B1 _ p _ (m.own H) (r.own H) d s) ?_);rintro e w ⟨A,c,rfl,q⟩;replace H:=H.join q;clear q
 refine zq λa F=>?_
 refine V6 H.tail ?_
 refine zEc 5 F (XaE A c (GQ p d s) x _ (H.rowsAt 0 Z (XqW _) (by decide)) (by have:=(H.rwsLen 0 Z).2;simp only[maxLen]at this;omega)) H λa w F H=>?_
 refine gg 4 λa F=>zi (λg=>?_) λg=>?_
 ·
  have b:¬x∈GQ p d s:=of_decide_eq_false g
  refine gg 2 λa F=>?_
  refine Xin (places:=[(0,36),(36,6),(42,96),(138,4)]) Lf underlying85 Y F Z Z Z FillB.nil λa F=>?_
  refine Gp H 1 F λw H=>?_
  rw[V3]at H
  refine gg 3 λa F=>?_
  refine QM results49 F Z Z underlying85 Z sizeOf85 H 1 Z ?_
  exact⟨by rw[Xfd,if_neg b,Xjf,if_neg b],H.below⟩
 have b:x∈GQ p d s:=of_decide_eq_true g
 obtain⟨u,n⟩:=XgE b
 refine gg 7 λa F=>?_
 refine zCa F (XhY _ p _ (m.own H) (r.own H) d s x u n) H λa w F H=>?_
 refine Gp H 1 F λw H=>?_
 rw[V3]at H
 refine gg 3 λa F=>?_
 refine QM results49 F Z Z underlying85 Z sizeOf85 H 1 Z ?_
 exact⟨by rw[Xfd,if_pos b,Xjf,if_pos b],H.below⟩
theorem Xbf(h:VX p=0)(hm:Gb m=true):RightM p m (Ur p)/\∀t,t<4->VW (Ur p) t=0:=by
 have e:∀i,42<=i->Ur p i=0:=λi j=>by rw[Ni h,if_neg (by have:=(valid h).locs6;omega)]
 have b:∀t,t<4->VW (Ur p) t=0:=λt d=>by unfold VW;rw[e _ O];rfl
 have c:=E3 h
 unfold UC JX at c
 simp only[AJ]at c
 refine⟨⟨hm,XaQ h (allB_iff.1 c.2.1.1) (allB_iff.1 c.2.1.2),λt d=>?_⟩,b⟩
 rw[MQ,b t d]
 refine⟨AU _,λi j=>?_⟩
 rw[slot_iff,b t d]
 exact⟨λ_=>⟨e _ O,e _ O⟩,λg=>absurd g O⟩
def okM(p:Prg)(m:UInt8):Prop:=VX p=0/\Gb m=true
instance (p:Prg) (m:UInt8):Decidable (okM p m):=by unfold okM;infer_instance
theorem Xbw{p:Prg}{m:UInt8}{b:List UInt8}{s:By}{c:List Pss}(h:V0 p m s=[]):∀f,Xdu p m b f s c=(s,c)
 |0=>rfl
 |f+1=>by unfold Xdu;simp[h]
theorem Xgl{b:List UInt8}{c:List Pss}{k:Pss}(h:V0 p m s≠[])(d:Xdw b c.length (V0 p m s)=k):Xdu p m b (f+1) s c=Xdu p m b f (Uw p m s k) (c++[k]):=by
 rw[Xdu];simp only[if_neg h,d]
theorem My(h:UC p s=true)(hm:Gb m=true):RightM p m s/\(∀i,42<=i->i<142->s i=0):=by
 have q:=Gg h
 unfold UC JX at h
 simp only[AJ]at h
 obtain⟨_,⟨n,d⟩,o,g⟩:=h
 have j:=allB_iff.1 n
 have e:=allB_iff.1 d
 rw[same_iff]at o g
 have c:∀i,42<=i->i<142->s i=0:=λi j e=>by
  rcases AN i 138 with h3|h3
  ·have:=o (i-42) O
   unfold cut at this
   rwa [show 42+(i-42)=i by omega]at this
  ·have:=g (i-138) O
   unfold cut at this
   rwa [show 138+(i-138)=i by omega]at this
 refine⟨⟨hm,XaQ q j e,λt n=>?_⟩,c⟩
 have b:VW s t=0:=by unfold VW;rw[c _ O O];rfl
 rw[MQ,b]
 refine⟨AU _,λi u=>?_⟩
 rw[slot_iff,b]
 exact⟨λ_=>⟨c _ O O,c _ O O⟩,λr=>absurd r O⟩
theorem Dt(b:∀i,42<=i->i<142->s i=0)(c:t<4):VW s t=0:=by unfold VW;rw[b _ O O];rfl
theorem Xgj(c:∀i,42<=i->i<142->s i=0)(d:t<4)(x:Ins)(m:UInt8):Gh x m s t=true:=by
 have b:(s (138+t)==0)=true:=by rw[c _ O O];rfl
 unfold Gh
 rw[b]
 split
 ·rfl
 ·split
  ·exact Bool.or_true _
  ·rfl
theorem Ed(d:∀i,42<=i->i<142->s i=0)(e:t<4)(m:UInt8):Ud p m s t=XdI p s t:=by
 unfold Ud XdI NE
 cases g:p.threads[t]? with
 |none=>rfl
 |some l=>
  show(match l[(s (t*9)).toNat]? with|some x=>Gh x m s t|none=>false)=decide ((s (t*9)).toNat<l.length)
  cases c:l[(s (t*9)).toNat]? with
  |none=>
   rw[decide_eq_false]
   intro b
   rw[AA b]at c;cases c
  |some x=>
   rw[decide_eq_true (AB.1 c).1]
   exact Xgj d e x m
theorem EI{p:Prg}{s:By}(b:∀i,42<=i->i<142->s i=0)(m:UInt8):∀n,n<=4->UU p m s n=((List.range n).filter (XdI p s)).map λu=>⟨UInt8.ofNat u,false,0⟩
 |0,_=>rfl
 |n+1,h=>by
  rw[UU,EI b m n O,L8,Dt b O,Ed b O,GW]
  split
  ·simp[Uh]
  ·simp[Uh]
theorem Xfg{p:Prg}{m:UInt8}{s:By}{t:Nat}(h:Ud p m s t=true):∀n,t<n->(⟨UInt8.ofNat t,false,0⟩:Pss)∈UU p m s n
 |0,h=>absurd h O
 |n+1,b=>by
  rw[UU]
  rcases AN t n with h1|h1
  ·exact A8.2 (.inl (Xfg h n h1))
  ·obtain rfl:t=n:=O
   refine A8.2 (.inr ?_)
   unfold L8
   rw[if_pos h]
   simp
theorem B4{p:Prg}{m:UInt8}{s:By}{t:Nat}(h:0<VW s t):∀n,t<n->V4 m s t 0∈UU p m s n
 |0,h=>absurd h O
 |n+1,d=>by
  rw[UU]
  rcases AN t n with h1|h1
  ·exact A8.2 (.inl (B4 h n h1))
  ·obtain rfl:t=n:=O
   refine A8.2 (.inr ?_)
   unfold L8
   refine A8.2 (.inr ?_)
   have:∀k,0<k->V4 m s t 0∈Uh m s t k:=by
    intro k c
    induction k with
    |zero=>omega
    |succ k b=>
     rw[Uh]
     rcases Aw k with h0|h0
     ·subst h0;simp
     ·split
      ·exact A8.2 (.inl (b h0))
      ·exact b h0
   exact this _ h
def RunM(p:Prg)(m:UInt8):By->List Pss->By->Prop
 |s,[],z=>z=s
 |s,x::r,z=>x∈V0 p m s/\RunM p m (Uw p m s x) r z
theorem XiL{picks:List UInt8}{l:List Pss}(h:l≠[]):Xdw picks n l∈l:=by
 have b:0<l.length:=List.length_pos_iff.2 h
 have c:∀q,q<l.length->l.getD q ⟨0,false,0⟩∈l:=λq d=>by
  rw[AS,AA d]
  exact Ff d
 unfold Xdw
 refine c _ ?_
 split
 ·exact IW _ b
 ·exact b
theorem LZ{p:Prg}{m:UInt8}(b:List UInt8):∀(f:Nat)(s:By)(c:List Pss),RightM p m s->nu p s<=f ->
 ∃r z,Xdu p m b f s c=(z,c++r)/\RunM p m s r z/\V0 p m z=[]
 |0,s,c,g,h=>by
  have e:V0 p m s=[]:=by
   cases q:V0 p m s with
   |nil=>rfl
   |cons k r=>have:=(Xng g (x:=k) (by rw[q];simp)).nu;omega
  exact⟨[],s,by rw[Xbw e];simp,Z,e⟩
 |f+1,s,c,g,h=>by
  by_cases e:V0 p m s=[]
  ·exact⟨[],s,by rw[Xbw e];simp,Z,e⟩
  ·have d:=XiL (picks:=b) (n:=c.length) e
   have i:=Xng g d
   have u:=i.nu
   obtain⟨r,z,t,j,o⟩:=LZ b f (Uw p m s (Xdw b c.length (V0 p m s))) (c++[Xdw b c.length (V0 p m s)]) i.right O
   exact⟨_::r,z,by rw[Xgl e Z,t];simp,⟨d,j⟩,o⟩
theorem RunM.nu{p:Prg}{m:UInt8}{z:By}:∀{r:List Pss}{s:By},RightM p m s->RunM p m s r z->r.length+nu p z<=nu p s
 | [],s,_,h=>by
   have h:z=s:=h
   subst h;simp
 |x::r,s,c,h=>by
  have b:=Xng c h.1
  have:=RunM.nu b.right h.2
  have:=b.nu
  simp only[AY]
  omega
theorem RunM.right{p:Prg}{m:UInt8}{z:By}:∀{r:List Pss}{s:By},RightM p m s->RunM p m s r z->RightM p m z
 | [],s,b,h=>by
   have h:z=s:=h
   subst h;exact b
 |x::r,s,b,h=>RunM.right (Xng b h.1).right h.2
theorem RunM.nil(h:RunM p m s [] z):z=s:=h
structure Fnd where
 list:List By
 links:List (Int×Pss)
 ends:List Nat
def Xmd(l:List By)(z:By):Bool:=l.any λy=>same 142 z y
def UT(p:Prg)(m:UInt8)(most k:Nat)(s:By):List Pss->List By->List (Int×Pss)->Option (List By×List (Int×Pss))
 | [],l,q=>some (l,q)
 |x::r,l,q=>if Xmd l (Uw p m s x)=true then UT p m most k s r l q
  else if most<=l.length then none else UT p m most k s r (l++[Uw p m s x]) (q++[((k:Int),x)])
def Gj(p:Prg)(m:UInt8)(most:Nat):Nat->Nat->Fnd->Option Fnd
 |0,_,a=>some a
 |f+1,k,a=>match a.list[k]? with
  |none=>some a
  |some s=>match UT p m most k s (V0 p m s) a.list a.links with
   |none=>none
   |some (l,q)=>Gj p m most f (k+1) ⟨l,q,if V0 p m s=[]then a.ends++[k]else a.ends⟩
def DI(p:Prg):Fnd:=⟨[Ur p],[(-1,⟨0,false,0⟩)],[]⟩
def QX(p:Prg)(m:UInt8)(most:Nat):Option Fnd:=Gj p m most (most+1) 0 (DI p)
def Xnb(s:By):Prop:=∀i,142<=i->s i=0
theorem Xc3(hs:Xnb s)(b:Xnb z):same 142 s z=true↔s=z:=by
 rw[same_iff]
 constructor
 ·intro h
  funext i
  rcases AN i 142 with hi|hi
  ·exact h i hi
  ·rw[hs i hi,b i hi]
 ·rintro rfl
  exact λ_ _=>rfl
theorem Xmc(d:∀y∈l,Xnb y)(b:Xnb z):Xmd l z=true↔z∈l:=by
 unfold Xmd
 rw[HN]
 constructor
 ·rintro⟨y,c,h⟩
  rw[(Xc3 b (d y c)).1 h];exact c
 ·exact λh=>⟨z,h,(Xc3 b b).2 Z⟩
theorem BO(h:VX p=0):Xnb (Ur p):=λi b=>by rw[Ni h,if_neg (by have:=(valid h).locs6;omega)]
theorem Went.tidy(h:Went p m s x z)(hs:Xnb s):Xnb z:=by
 cases h with
 | @exec t l i d _=>
   intro k c
   have g:=d.t4
   rw[d.high O]
   split
   ·show Xei s t (J3 m s t i.loc (VW s t)) _ k=0
    have j:=d.room
    have n:=G5 (m:=m) (s:=s) (t:=t) (loc:=i.loc) (VW s t)
    rw[QG s t _ _ n,if_neg O,if_neg O,if_neg O]
    exact hs k c
   ·exact hs k c
 | @drain t i b r o=>
   intro k c
   generalize Na m s t (V4 m s t i).l=a at b o
   have g:=b.t4
   have q:=b.loc6
   have j:=b.n12
   have e:=b.lt
   rw[Gs s t a e,if_neg O,if_neg O,if_neg O,if_neg O]
   exact hs k c
structure Fine (p:Prg) (m:UInt8) (s:By):Prop where
 r:RightM p m s
 t:Xnb s
theorem Fine.step{p:Prg}{m:UInt8}{s:By}{x:Pss}(h:Fine p m s)(b:x∈V0 p m s):Fine p m (Uw p m s x):=⟨(Xng h.r b).right,(Xng h.r b).tidy h.t⟩
theorem XgQ(h:VX p=0)(hm:Gb m=true):Fine p m (Ur p):=⟨(Xbf h hm).1,BO h⟩
structure FndI (p:Prg) (m:UInt8) (most k:Nat) (a:Fnd):Prop where
 fine:∀s∈a.list,Fine p m s
 nodup:a.list.Nodup
 many:a.list.length<=most
 kle:k<=a.list.length
 len:a.links.length=a.list.length
 head:a.list[0]?=some (Ur p)
 head2:a.links[0]?=some (-1,⟨0,false,0⟩)
 link:∀(j:Nat)(f:Int)(x:Pss),0<j->a.links[j]?=some (f,x)->∃i:Nat,f=(i:Int)/\i<j/\i<k/\∃s,a.list[i]?=some s/\x∈V0 p m s/\a.list[j]?=some (Uw p m s x)
 mono:∀(i j:Nat)(f g:Int)(x y:Pss),i<=j->a.links[i]?=some (f,x)->a.links[j]?=some (g,y)->f<=g
 next:∀(i:Nat)(s:By)(x:Pss),i<k->a.list[i]?=some s->x∈V0 p m s->∃j:Nat,a.list[j]?=some (Uw p m s x)/\(0<j->∃(f:Int)(y:Pss),a.links[j]?=some (f,y)/\f<=(i:Int))
 ends:a.ends=(List.range k).filter λi=>match a.list[i]? with|some s=>(V0 p m s).isEmpty|none=>false
theorem Xb4(h:VX p=0)(hm:Gb m=true)(c:1<=most):FndI p m most 0 (DI p) where
 fine:=λs d=>by
  simp only[DI,Ay]at d
  subst d;exact XgQ h hm
 nodup:=by simp[DI]
 many:=c
 kle:=AU _
 len:=rfl
 head:=rfl
 head2:=rfl
 link:=λj f x b h=>by
  obtain⟨j,rfl⟩:∃i,j=i+1:=⟨j-1,O⟩
  simp[DI]at h
 mono:=λi j f g x y e hi b=>by
  have c:=(AB.1 b).1
  simp only[DI,FQ]at c
  obtain rfl:j=0:=O
  obtain rfl:i=0:=O
  rw[hi]at b;cases b;exact I4 _
 next:=λi s x hi=>absurd hi O
 ends:=rfl
structure VisI (p:Prg) (m:UInt8) (most k:Nat) (s:By) (l0:List By) (dn:List Pss) (l:List By) (q:List (Int×Pss)):Prop where
 fine:∀s∈l,Fine p m s
 nodup:l.Nodup
 many:l.length<=most
 len:q.length=l.length
 old:∃r,l=l0++r
 here:l[k]?=some s
 head:l[0]?=some (Ur p)
 head2:q[0]?=some (-1,⟨0,false,0⟩)
 link:∀(j:Nat)(f:Int)(x:Pss),0<j->q[j]?=some (f,x)->∃i:Nat,f=(i:Int)/\i<j/\i<k+1/\∃s,l[i]?=some s/\x∈V0 p m s/\l[j]?=some (Uw p m s x)
 mono:∀(i j:Nat)(f g:Int)(x y:Pss),i<=j->q[i]?=some (f,x)->q[j]?=some (g,y)->f<=g
 next:∀(i:Nat)(s:By)(x:Pss),i<k->l[i]?=some s->x∈V0 p m s->∃j:Nat,l[j]?=some (Uw p m s x)/\(0<j->∃(f:Int)(y:Pss),q[j]?=some (f,y)/\f<=(i:Int))
 now:∀x∈dn,∃j:Nat,l[j]?=some (Uw p m s x)/\(0<j->∃(f:Int)(y:Pss),q[j]?=some (f,y)/\f<=(k:Int))
theorem VisI.low{q:List (Int×Pss)}(h:VisI p m most k s l0 dn l q){j:Nat}{f:Int}(b:q[j]?=some (f,x)):f<=(k:Int):=by
 rcases Aw j with e|e
 ·subst e
  rw[h.head2]at b;cases b;omega
 ·obtain⟨i,rfl,_,c,_⟩:=h.link j f x e b
  omega
theorem VisI.old_at{q:List (Int×Pss)}(h:VisI p m most k s l0 dn l q)(b:i<l0.length):l[i]?=l0[i]?:=by
 obtain⟨r,rfl⟩:=h.old
 exact AP b
theorem Mo{p:Prg}{m:UInt8}{most k:Nat}{s:By}{l0:List By}:∀(r dn:List Pss)(l:List By) (q:List (Int×Pss)) (v:List By) (w:List (Int×Pss)),VisI p m most k s l0 dn l q->(∀x∈r,x∈V0 p m s)->UT p m most k s r l q=some (v,w)->VisI p m most k s l0 (dn++r) v w
 | [],dn,l,q,v,w,h,_,e=>by
   simp only[UT,FE,Prod.mk.injEq]at e
   obtain⟨rfl,rfl⟩:=e
   rw[Ak];exact h
 |x::r,dn,l,q,v,w,h,P,e=>by
  have R:=P x (by simp)
  have hs:Fine p m s:=h.fine s (AF h.here)
  have J:=hs.step R
  have G:=Xmc (λy c=>(h.fine y c).t) J.t
  have X:VisI p m most k s l0 (dn++[x]) v w->VisI p m most k s l0 (dn++x::r) v w->VisI p m most k s l0 (dn++x::r) v w:=λ_ h=>h
  rw[UT]at e
  rw[show dn++x::r=(dn++[x])++r by simp]
  by_cases L:Xmd l (Uw p m s x)=true
  ·rw[if_pos L]at e
   refine Mo r (dn++[x]) l q v w {h with now:=λy c=>?_} (λy c=>P y (by simp[c])) e
   rcases A8.1 c with h1|h1
   ·exact h.now y h1
   ·obtain rfl:y=x:=by simpa using h1
    obtain⟨j,d⟩:=Af.1 (G.1 L)
    refine⟨j,d,λI=>?_⟩
    obtain⟨⟨f,z⟩,Q⟩:∃f,q[j]?=some f:=⟨_,AA (by rw[h.len];exact(AB.1 d).1)⟩
    exact⟨f,z,Q,h.low Q⟩
  ·rw[if_neg L]at e
   by_cases S:most<=l.length
   ·rw[if_pos S]at e;cases e
   ·rw[if_neg S]at e
    have D:k<l.length:=(AB.1 h.here).1
    have A:∀i,i<l.length->(l++[Uw p m s x])[i]?=l[i]?:=λi n=>AP n
    have B:∀i,i<l.length->(q++[((k:Int),x)])[i]?=q[i]?:=λi n=>AP (by rw[h.len];exact n)
    have u:(q++[((k:Int),x)])[l.length]?=some ((k:Int),x):=by rw[<-h.len,AQ (AI _)];simp
    have E:(l++[Uw p m s x])[l.length]?=some (Uw p m s x):=by rw[AQ (AI _)];simp
    have up:∀{z:By},(∃j,l[j]?=some z/\(0<j->∃(f:Int)(y:Pss),q[j]?=some (f,y)/\f<=(k:Int)))->∃j,(l++[Uw p m s x])[j]?=some z/\(0<j->∃(f:Int)(y:Pss),(q++[((k:Int),x)])[j]?=some (f,y)/\f<=(k:Int)):=by
     rintro z ⟨j,h1,C⟩
     have o:=(AB.1 h1).1
     exact⟨j,by rw[A j o];exact h1,by rw[B j o];exact C⟩
    refine Mo r (dn++[x]) _ _ v w ?_ (λy c=>P y (by simp[c])) e
    refine⟨λy c=>?_,?_,by simp;omega,by simp[h.len],?_,by rw[A k D];exact h.here,by rw[A 0 O];exact h.head,by rw[B 0 O];exact h.head2,λj f y I d=>?_,λi j f g y z M n d=>?_,λi y z n c J=>?_,λy c=>?_⟩
    ·rcases A8.1 c with h1|h1
     ·exact h.fine y h1
     ·obtain rfl:y=Uw p m s x:=by simpa using h1
      exact J
    ·rw[List.nodup_append]
     refine⟨h.nodup,by simp,λa ha b U=>?_⟩
     obtain rfl:b=Uw p m s x:=by simpa using U
     rintro rfl
     exact L (G.2 ha)
    ·obtain⟨W,rfl⟩:=h.old
     exact⟨W++[Uw p m s x],by simp⟩
    ·rcases AN j l.length with h1|h1
     ·rw[B j h1]at d
      obtain⟨i,K,N,e3,z,e4,T,V⟩:=h.link j f y I d
      exact⟨i,K,N,e3,z,by rw[A i O];exact e4,T,by rw[A j h1];exact V⟩
     ·have C:=(AB.1 d).1
      simp only[AK,FQ,h.len]at C
      obtain rfl:j=l.length:=O
      rw[u]at d
      cases d
      exact⟨k,Z,O,O,s,by rw[A k D];exact h.here,R,E⟩
    ·rcases AN j l.length with h1|h1
     ·rw[B j h1]at d
      rw[B i O]at n
      exact h.mono i j f g y z M n d
     ·have C:=(AB.1 d).1
      simp only[AK,FQ,h.len]at C
      obtain rfl:j=l.length:=O
      rw[u]at d
      cases d
      rcases AN i l.length with h3|h3
      ·rw[B i h3]at n
       exact h.low n
      ·obtain rfl:i=l.length:=O
       rw[u]at n;cases n;exact I4 _
    ·rw[A i O]at c
     obtain⟨j,K,N⟩:=h.next i y z n c J
     have o:=(AB.1 K).1
     exact⟨j,by rw[A j o];exact K,by rw[B j o];exact N⟩
    ·rcases A8.1 c with h1|h1
     ·exact up (h.now y h1)
     ·obtain rfl:y=x:=by simpa using h1
      exact⟨l.length,E,λ_=>⟨k,y,u,I4 _⟩⟩
theorem Xa6{a:Fnd}(h:FndI p m most k a)(hs:a.list[k]?=some s):VisI p m most k s a.list [] a.list a.links:=
 ⟨h.fine,h.nodup,h.many,h.len,⟨[],by simp⟩,hs,h.head,h.head2,λj f x e c=>by
  obtain⟨i,b,g,o,d⟩:=h.link j f x e c
  exact⟨i,b,g,O,d⟩,h.mono,h.next,λx n=>by cases n⟩
theorem Xqx{q:List (Int×Pss)}(h:VisI p m most k s l0 dn l q)(d:x∈V0 p m s)(c:Xmd l (Uw p m s x)=true):VisI p m most k s l0 (dn++[x]) l q:=
 Mo [x] dn l q l q h (λy b=>by simp at b;subst b;exact d) (by rw[UT,if_pos c];rfl)
theorem Xoo{q:List (Int×Pss)}(h:VisI p m most k s l0 dn l q)(d:x∈V0 p m s)(c:Xmd l (Uw p m s x)=false)(hm:l.length<most):VisI p m most k s l0 (dn++[x]) (l++[Uw p m s x]) (q++[((k:Int),x)]):=
 Mo [x] dn l q _ _ h (λy b=>by simp at b;subst b;exact d) (by rw[UT,if_neg (by rw[c];simp),if_neg O];rfl)
theorem E6{a:Fnd}{q:List (Int×Pss)}(h:FndI p m most k a)(hs:a.list[k]?=some s)(e:UT p m most k s (V0 p m s) a.list a.links=some (l,q)):
 FndI p m most (k+1) ⟨l,q,if V0 p m s=[]then a.ends++[k]else a.ends⟩:=by
 have o:=(AB.1 hs).1
 have r:=Xa6 h hs
 have b:=Mo _ _ _ _ _ _ r (λx g=>g) e
 rw[FI]at b
 have c:k+1<=l.length:=(AB.1 b.here).1
 refine⟨b.fine,b.nodup,b.many,c,b.len,b.head,b.head2,b.link,b.mono,λi y x n d g=>?_,?_⟩
 ·rcases AN i k with h2|h2
  ·exact b.next i y x h2 d g
  ·obtain rfl:i=k:=O
   have d:l[i]?=some y:=d
   rw[b.here]at d;cases d
   exact b.now x g
 ·show(if V0 p m s=[]then a.ends++[k]else a.ends)=(List.range (k+1)).filter λi=>match l[i]? with|some s=>(V0 p m s).isEmpty|none=>false
  rw[HB,Fz]
  have h2:((List.range k).filter λi=>match l[i]? with|some s=>(V0 p m s).isEmpty|none=>false)=a.ends:=by
   rw[h.ends]
   apply I3
   intro i n
   rw[b.old_at (by have:=Ab.1 n;omega)]
  rw[h2]
  have t:(List.filter (λi=>match l[i]? with|some s=>(V0 p m s).isEmpty|none=>false) [k])=if(V0 p m s).isEmpty=true then[k]else[]:=by
   rw[Hi,b.here]
   rfl
  rw[t]
  by_cases j:V0 p m s=[]
  ·rw[if_pos j,j];rfl
  ·rw[if_neg j,if_neg (by simpa using j),Ak]
theorem Xbl{p:Prg}{m:UInt8}{most:Nat}:∀(f k:Nat)(a b:Fnd),FndI p m most k a->most<=k+f->Gj p m most f k a=some b->FndI p m most b.list.length b
 |0,k,a,b,h,g,e=>by
  simp only[Gj,FE]at e
  subst e
  have:=h.kle
  have:=h.many
  obtain e:k=a.list.length:=O
  rw[<-e];exact h
 |f+1,k,a,b,h,g,e=>by
  rw[Gj]at e
  cases c:a.list[k]? with
  |none=>
   rw[c]at e
   simp only[FE]at e
   subst e
   have:=h.kle
   have:¬k<a.list.length:=λi=>by rw[AA i]at c;cases c
   obtain e:k=a.list.length:=O
   rw[<-e];exact h
  |some s=>
   rw[c]at e
   cases d:UT p m most k s (V0 p m s) a.list a.links with
   |none=>simp only[d]at e;cases e
   |some j=>
    obtain⟨l,q⟩:=j
    simp only[d]at e
    exact Xbl f (k+1) _ b (E6 h c d) O e
theorem XeP{b:Fnd}(h:VX p=0)(hm:Gb m=true)(c:1<=most)(e:QX p m most=some b):FndI p m most b.list.length b:=
 Xbl (most+1) 0 _ b (Xb4 h hm c) O e
theorem Xif{a:Fnd}{q:List (Int×Pss)}(hs:a.list[k]?=some s)(b:UT p m most k s (V0 p m s) a.list a.links=some (l,q)):Gj p m most (f+1) k a=Gj p m most f (k+1) ⟨l,q,if V0 p m s=[]then a.ends++[k]else a.ends⟩:=by
 rw[Gj,hs]
 simp only[b]
theorem Xie{a:Fnd}(hs:a.list[k]?=some s)(b:UT p m most k s (V0 p m s) a.list a.links=none):Gj p m most (f+1) k a=none:=by
 rw[Gj,hs]
 simp only[b]
theorem Xf9{p:Prg}{m:UInt8}{most k:Nat}{a:Fnd}(hs:a.list.length<=k):∀f,Gj p m most f k a=some a
 |0=>rfl
 |f+1=>by rw[Gj,AV hs]
theorem XhB{q:List (Int×Pss)}(b:Xmd l (Uw p m s x)=true):UT p m most k s (x::r) l q=UT p m most k s r l q:=by rw[UT,if_pos b]
theorem XfY{q:List (Int×Pss)}(b:Xmd l (Uw p m s x)=false)(hm:l.length<most):UT p m most k s (x::r) l q=UT p m most k s r (l++[Uw p m s x]) (q++[((k:Int),x)]):=by rw[UT,if_neg (by rw[b];simp),if_neg O]
theorem XcX{q:List (Int×Pss)}(b:Xmd l (Uw p m s x)=false)(hm:most<=l.length):UT p m most k s (x::r) l q=none:=by rw[UT,if_neg (by rw[b];simp),if_pos hm]
def Bv(q:List (Int×Pss)):Nat->Nat->List Pss
 |0,_=>[]
 |f+1,k=>if k=0 then[]else match q[k]? with
  |some (g,x)=>Bv q f g.toNat++[x]
  |none=>[]
def Xht(a:Fnd)(k:Nat):List Pss:=Bv a.links k k
theorem XkH{a:Fnd}(h:FndI p m most n a):∀(k f:Nat),k<=f->Bv a.links f k=Bv a.links k k:=by
 intro k
 induction k using Nat.strongRecOn with
 |ind k d=>
  intro f o
  rcases Aw k with e|e
  ·subst e
   cases f with
   |zero=>rfl
   |succ f=>rfl
  ·obtain⟨f,rfl⟩:∃g,f=g+1:=⟨f-1,O⟩
   obtain⟨b,rfl⟩:∃g,k=g+1:=⟨k-1,O⟩
   rw[Bv,Bv,if_neg O,if_neg O]
   cases j:a.links[b+1]? with
   |none=>rfl
   |some y=>
    obtain⟨g,x⟩:=y
    obtain⟨i,rfl,c,_⟩:=h.link _ _ _ e j
    show Bv a.links f (i:Int).toNat++[x]=Bv a.links b (i:Int).toNat++[x]
    rw[FU,d i c f O,d i c b O]
theorem Cu(a:Fnd):Xht a 0=[]:=rfl
theorem Ep{a:Fnd}(h:FndI p m most n a)(d:0<k)(b:a.links[k]?=some ((i:Int),x)):Xht a k=Xht a i++[x]:=by
 obtain⟨j,e,o,_⟩:=h.link k _ _ d b
 obtain rfl:i=j:=O
 obtain⟨c,rfl⟩:∃g,k=g+1:=⟨k-1,O⟩
 unfold Xht
 rw[Bv,if_neg O,b]
 show Bv a.links c (i:Int).toNat++[x]=_
 rw[FU,XkH h i c O]
theorem RunM.snoc{p:Prg}{m:UInt8}{y:By}{x:Pss}:∀{r:List Pss}{s:By},RunM p m s r y->x∈V0 p m y->RunM p m s (r++[x]) (Uw p m y x)
 | [],s,h,b=>by
   have h:y=s:=h
   subst h
   exact⟨b,Z⟩
 |z::r,s,h,b=>⟨h.1,RunM.snoc h.2 b⟩
theorem RunM.unsnoc{p:Prg}{m:UInt8}{z:By}{x:Pss}:∀{r:List Pss}{s:By},RunM p m s (r++[x]) z->∃y,RunM p m s r y/\x∈V0 p m y/\z=Uw p m y x
 | [],s,h=>⟨s,Z,h.1,h.2⟩
 |w::r,s,h=>by
  obtain⟨y,c,b,d⟩:=RunM.unsnoc (r:=r) h.2
  exact⟨y,⟨h.1,c⟩,b,d⟩
theorem Xok{a:Fnd}(h:FndI p m most n a):∀(k:Nat)(s:By),a.list[k]?=some s->RunM p m (Ur p) (Xht a k) s:=by
 intro k
 induction k using Nat.strongRecOn with
 |ind k o=>
  intro s b
  rcases Aw k with e|e
  ·subst e
   rw[h.head]at b
   cases b;exact rfl
  ·obtain⟨⟨f,x⟩,d⟩:∃f,a.links[k]?=some f:=⟨_,AA (by rw[h.len];exact(AB.1 b).1)⟩
   obtain⟨i,rfl,j,_,y,q,g,c⟩:=h.link _ _ _ e d
   rw[b]at c;cases c
   rw[Ep h e d]
   exact(o i j y q).snoc g
theorem Xk0{a:Fnd}(h:FndI p m most n a):∀(j i:Nat),i<=j->j<a.list.length->(Xht a i).length<=(Xht a j).length:=by
 intro j
 induction j using Nat.strongRecOn with
 |ind j r=>
  intro i c u
  rcases Aw i with e|e
  ·subst e;rw[Cu];exact AU _
  ·obtain⟨⟨f,x⟩,d⟩:∃f,a.links[i]?=some f:=⟨_,AA (by rw[h.len];omega)⟩
   obtain⟨⟨g,y⟩,b⟩:∃f,a.links[j]?=some f:=⟨_,AA (by rw[h.len];omega)⟩
   obtain⟨s,rfl,t,_⟩:=h.link _ _ _ e d
   obtain⟨q,rfl,o,_⟩:=h.link _ _ _ O b
   have:=h.mono i j _ _ _ _ c d b
   rw[Ep h e d,Ep h O b,AK,AK]
   have:=r q o s O O
   simpa using this
theorem Xhs{a:Fnd}(h:FndI p m most a.list.length a)(r:List Pss):∀(z:By),RunM p m (Ur p) r z->∃j,a.list[j]?=some z/\(Xht a j).length<=r.length:=by
 suffices ∀(n:Nat)(r:List Pss)(z:By),r.length=n->RunM p m (Ur p) r z->∃j,a.list[j]?=some z/\(Xht a j).length<=r.length from λz b=>this _ r z Z b
 intro n
 induction n with
 |zero=>
  intro r z d b
  obtain rfl:r=[]:=Al d
  have b:z=Ur p:=b
  subst b
  exact⟨0,h.head,by rw[Cu];exact AI _⟩
 |succ n B=>
  intro r z d b
  have c:r≠[]:=λe=>by rw[e]at d;simp at d
  obtain⟨g,x,rfl⟩:∃g x,r=g++[x]:=⟨r.dropLast,r.getLast c,(List.dropLast_concat_getLast c).symm⟩
  obtain⟨y,C,t,rfl⟩:=b.unsnoc
  simp only[AK,FQ]at d
  obtain⟨j,o,v⟩:=B g y O C
  obtain⟨s,u,A⟩:=h.next j y x (AB.1 o).1 o t
  refine⟨s,u,?_⟩
  rcases Aw s with e|e
  ·subst e;rw[Cu];exact AU _
  ·obtain⟨f,w,q,D⟩:=A e
   obtain⟨i,rfl,E,_⟩:=h.link _ _ _ e q
   rw[Ep h e q,AK,AK]
   have:=Xk0 h j i O (AB.1 o).1
   simp only[FQ]
   omega
theorem Xaw{a:Fnd}(h:FndI p m most a.list.length a):k∈a.ends↔∃s,a.list[k]?=some s/\V0 p m s=[]:=by
 rw[h.ends,Az,Ab]
 constructor
 ·rintro⟨b,d⟩
  rw[AA b]at d
  exact⟨_,AA b,by simpa using d⟩
 ·rintro⟨s,c,e⟩
  refine⟨(AB.1 c).1,?_⟩
  rw[c]
  simp[e]
theorem Xce{a:Fnd}(h:FndI p m most a.list.length a)(e:RunM p m (Ur p) r z)(d:V0 p m z=[]):∃k,k∈a.ends/\a.list[k]?=some z/\(Xht a k).length<=r.length:=by
 obtain⟨j,b,c⟩:=Xhs h r z e
 exact⟨j,(Xaw h).2 ⟨z,b,d⟩,b,c⟩
theorem Xpy{a:Fnd}(h:FndI p m most a.list.length a)(c:k∈a.ends):∃z,a.list[k]?=some z/\RunM p m (Ur p) (Xht a k) z/\V0 p m z=[]:=by
 obtain⟨z,b,d⟩:=(Xaw h).1 c
 exact⟨z,b,Xok h k z b,d⟩
theorem XmF{a:Fnd}(h:FndI p m most a.list.length a):a.ends≠[]:=by
 have d:RightM p m (Ur p):=(h.fine _ (AF h.head)).r
 obtain⟨r,z,_,c,g⟩:=LZ [] (nu p (Ur p)) (Ur p) [] d (AI _)
 obtain⟨k,b,_⟩:=Xce h c g
 exact λe=>by rw[e]at b;cases b
def toL(n:Nat)(f:By):List UInt8:=(List.range n).map f
theorem Xc1(n:Nat)(f:By):(toL n f).length=n:=by simp[toL]
theorem Xnj{f:By}(h:i<n):(toL n f)[i]?=some (f i):=by simp[toL,h]
theorem toL_eq{f g:By}:toL n f=toL n g↔same n f g=true:=by
 rw[same_iff]
 constructor
 ·intro h i b
  have:=congrArg (λl=>l[i]?) h
  simp only[Xnj b]at this
  exact Ac this
 ·intro h
  exact H9 λi b=>h i (Ab.1 b)
def GO:List UInt8->List UInt8->Int
 | [],[]=>0
 | [],_::_=>-1
 |_::_,[]=>1
 |a::r,b::q=>if a<b then -1 else if b<a then 1 else GO r q
theorem EK:∀l,GO l l=0
 | []=>rfl
 |a::r=>by rw[GO,if_neg (by simp),if_neg (by simp)];exact EK r
theorem XbR:∀{l q},GO l q=0->l=q
 | [],[],_=>rfl
 | [],_::_,h=>by simp[GO]at h
 |_::_,[],h=>by simp[GO]at h
 |a::r,b::q,h=>by
  rw[GO]at h
  split at h
  ·cases h
  ·split at h
   ·cases h
   ·rename_i d c
    have:a=b:=HC.1 (by rw[Aa]at d c;omega)
    rw[this,XbR h]
theorem N6:∀l q,GO q l = - GO l q
 | [],[]=>rfl
 | [],_::_=>rfl
 |_::_,[]=>rfl
 |a::r,b::q=>by
  rw[GO,GO]
  by_cases d:a<b
  ·have c:¬b<a:=λh=>by rw[Aa]at h d;omega
   simp[d,c]
  ·by_cases c:b<a
   ·simp[d,c]
   ·simp[d,c,N6 r q]
theorem MM:∀{l q s},GO l q<0->GO q s<0->GO l s<0
 | [],[],_,h,_=>by simp[GO]at h
 | [],_::_,[],_,h=>by simp[GO]at h
 | [],_::_,_::_,_,_=>by simp[GO]
 |_::_,[],_,h,_=>by simp[GO]at h
 |_::_,_::_,[],_,h=>by simp[GO]at h
 |a::r,b::q,c::s,e,d=>by
  rw[GO]at e d⊢
  simp only[Aa]at e d⊢
  by_cases m:a.toNat<b.toNat
  ·by_cases i:b.toNat<c.toNat
   ·rw[if_pos O];decide
   ·rw[if_neg i]at d
    by_cases g:c.toNat<b.toNat
    ·rw[if_pos g]at d;exact absurd d (by decide)
    ·rw[if_pos O];decide
  ·rw[if_neg m]at e
   by_cases j:b.toNat<a.toNat
   ·rw[if_pos j]at e;exact absurd e (by decide)
   ·rw[if_neg j]at e
    by_cases i:b.toNat<c.toNat
    ·rw[if_pos O];decide
    ·rw[if_neg i]at d
     by_cases g:c.toNat<b.toNat
     ·rw[if_pos g]at d;exact absurd d (by decide)
     ·rw[if_neg g]at d
      rw[if_neg O,if_neg O]
      exact MM e d
theorem B6:∀{l q:List UInt8}(a b:List UInt8),l.length=q.length->GO (l++a) (q++b)=if GO l q=0 then GO a b else GO l q
 | [],[],a,b,_=>rfl
 | [],_::_,_,_,h=>by simp at h
 |_::_,[],_,_,h=>by simp at h
 |x::r,y::q,a,b,h=>by
  rw[Au,Au,GO,GO]
  by_cases d:x<y
  ·rw[if_pos d,if_pos d,if_neg (by decide)]
  ·rw[if_neg d,if_neg d]
   by_cases c:y<x
   ·rw[if_pos c,if_pos c,if_neg (by decide)]
   ·rw[if_neg c,if_neg c]
    exact B6 a b (by simpa using h)
def QO(l:List (List UInt8)):Prop:=l.Pairwise λa b=>GO a b<0
theorem Qx:∀{l q:List (List UInt8)},QO l->QO q->(∀x,x∈l↔x∈q)->l=q
 | [],[],_,_,_=>rfl
 | [],b::q,_,_,h=>by have:=(h b).2 (by simp);cases this
 |a::r,[],_,_,h=>by have:=(h a).1 (by simp);cases this
 |a::r,b::q,n,p,h=>by
  have c:=Fd.1 n
  have d:=Fd.1 p
  have j:a=b:=by
   apply Decidable.byContradiction
   intro g
   have s:a∈q:=by
    rcases Ap.1 ((h a).1 (by simp))with e|e
    ·exact absurd e g
    ·exact e
   have o:b∈r:=by
    rcases Ap.1 ((h b).2 (by simp))with e|e
    ·exact absurd e.symm g
    ·exact e
   have t:=c.1 b o
   have u:=d.1 a s
   have:=N6 a b
   omega
  subst j
  have:r=q:=Qx c.2 d.2 λx=>by
   have m:=h x
   constructor
   ·intro i
    rcases Ap.1 (m.1 (by simp[i]))with e|e
    ·subst e
     have:=c.1 x i
     rw[EK]at this;omega
    ·exact e
   ·intro i
    rcases Ap.1 (m.2 (by simp[i]))with e|e
    ·subst e
     have:=d.1 x i
     rw[EK]at this;omega
    ·exact e
  rw[this]
def V7:List (List UInt8)->List (List UInt8)
 | []=>[]
 | [a]=>[a]
 |a::b::r=>if a=b then V7 (b::r)else a::V7 (b::r)
theorem Mc:∀{l:List (List UInt8)} {x},x∈V7 l↔x∈l
 | [],x=>by simp[V7]
 | [a],x=>by simp[V7]
 |a::b::r,x=>by
  have c:=Mc (l:=b::r) (x:=x)
  rw[V7]
  split
  ·rename_i h
   subst h
   rw[c];simp
  ·rw[Ap,c,Ap (a:=x) (b:=a)]
theorem NT:∀{l:List (List UInt8)},(l.Pairwise λa b=>¬GO b a<0)->QO (V7 l)
 | [],_=>List.Pairwise.nil
 | [a],_=>by simp[V7,QO]
 |a::b::r,h=>by
  have g:=Fd.1 h
  have j:=NT g.2
  rw[V7]
  split
  ·exact j
  ·rename_i d
   refine Fd.2 ⟨λx i=>?_,j⟩
   rw[Mc]at i
   have m:=g.1 b (by simp)
   have c:GO a b<0:=by
    have:=N6 a b
    rcases Int.lt_trichotomy (GO a b) 0 with h2|h2|h2
    ·exact h2
    ·exact absurd (XbR h2) d
    ·omega
   rcases Ap.1 i with e|e
   ·subst e;exact c
   ·have h2:=(Fd.1 g.2).1 x e
    have:=N6 b x
    rcases Int.lt_trichotomy (GO b x) 0 with h3|h3|h3
    ·exact MM c h3
    ·rw[<-XbR h3];exact c
    ·omega
def Xnc(p:Prg)(m:UInt8)(x:List UInt8):Prop:=∃r z,RunM p m (Ur p) r z/\V0 p m z=[]/\x=toL 38 (GS z)
def Xmr(a:Fnd):List (List UInt8):=a.ends.map λk=>toL 38 (GS (a.list.getD k zb))
theorem Xmq{a:Fnd}(h:FndI p m most a.list.length a){x:List UInt8}:x∈Xmr a↔Xnc p m x:=by
 unfold Xmr Xnc
 rw[AT]
 constructor
 ·rintro⟨k,b,rfl⟩
  obtain⟨z,d,c,e⟩:=Xpy h b
  exact⟨_,z,c,e,by rw[AS,d];rfl⟩
 ·rintro⟨r,z,d,c,rfl⟩
  obtain⟨k,b,g,_⟩:=Xce h d c
  exact⟨k,b,by rw[AS,g];rfl⟩
def XpL(s:By)(t:Nat):List (UInt8×UInt8):=(List.range (VW s t)).map λi=>(UD s t i,QL s t i)
def Xgm(l:List (UInt8×UInt8))(k:UInt8):List (UInt8×UInt8):=l.filter λx=>x.1==k
theorem XpK(s:By)(t i:Nat):(XpL s t)[i]?=if i<VW s t then some (UD s t i,QL s t i)else none:=by
 unfold XpL
 rw[AD]
 by_cases h:i<VW s t
 ·rw[if_pos h,Av h];rfl
 ·rw[if_neg h,AV (by simpa using h)];rfl
theorem Xdx(a b:List (UInt8×UInt8))(k:UInt8):Xgm (a++b) k=Xgm a k++Xgm b k:=Fz ..
theorem XlE(x:UInt8×UInt8)(k:UInt8):Xgm [x] k=if x.1=k then[x]else[]:=by
 unfold Xgm
 by_cases h:x.1=k
 ·rw[if_pos h,I1 (by simpa using h)];rfl
 ·rw[if_neg h,I2 (by simpa using h)];rfl
theorem XiN{l:List (UInt8×UInt8)}{k:UInt8}(h:∀(i:Nat)(x:UInt8×UInt8),l[i]?=some x->x.1≠k):Xgm l k=[]:=by
 unfold Xgm
 rw[F3]
 intro x b
 obtain⟨i,c⟩:=Af.1 b
 simpa using h i x c
section
variable{p:Prg}{m:UInt8}{s:By}{t a:Nat}
theorem DrainOf.before(h:DrainOf p m s t a){k:UInt8}(d:UD s t a=k):Xgm ((XpL s t).take a) k=[]:=XiN λi y c=>by
 rcases AN i a with hi|hi
 ·rw[F7 hi,XpK]at c
  split at c
  ·cases c
   intro b
   have b:UD s t i=k:=b
   exact(h.fst i hi).2 (b.trans d.symm)
  ·cases c
 ·rw[AV (by rw[Aj];omega)]at c;cases c
end
theorem XeJ(h:RightM p m s)(d:t<4)(k:UInt8):ND s t k=match(Xgm (XpL s t) k).getLast? with|some x=>x.2|none=>s (36+k.toNat):=by
 rw[Xdi h d]
 unfold XpL
 generalize VW s t=n
 induction n with
 |zero=>rfl
 |succ n c=>
  rw[seenN,HB,Ae,Xdx]
  show _=match(Xgm _ k++Xgm [(UD s t n,QL s t n)] k).getLast? with|some x=>x.2|none=>s (36+k.toNat)
  rw[XlE]
  by_cases b:UD s t n=k
  ·rw[if_pos b,if_pos b,List.getLast?_append];rfl
  ·rw[if_neg b,if_neg b,Ak];exact c
structure SimW (q:Prg) (s z:By):Prop where
 r:RightM q 2 s
 rz:RightM q 3 z
 low:∀i,i<42->z i=s i
 many:∀t,t<4->VW z t=VW s t
 per:∀t,t<4->∀k,Xgm (XpL z t) k=Xgm (XpL s t) k
theorem SimW.seen{q:Prg}(h:SimW q s z)(b:t<4){k:UInt8}(c:k.toNat<6):ND z t k=ND s t k:=by
 rw[XeJ h.rz b,XeJ h.r b,h.per t b,h.low _ O]
structure PlainOf (p:Prg) (m:UInt8) (s:By) (t:Nat):Prop where
 r:RightM p m s
 z:∀i,42<=i->i<142->s i=0
 t4:t<4
 tl:t<p.threads.length
 mem:(⟨UInt8.ofNat t,false,0⟩:Pss)∈V0 p m s
 instr:∃l x,ExecOf p m s t l x/\NE p s t=some x/\Uw p m s ⟨UInt8.ofNat t,false,0⟩=Up m x s t/\G6 p s t=N5 x s t
theorem XiK(h:UC p s=true)(hm:Gb m=true)(n:t∈Ue p s):PlainOf p m s t:=by
 obtain⟨j,q⟩:=My h hm
 have c:t<p.threads.length:=Ab.1 (Az.1 n).1
 have d:=(Az.1 n).2
 have b:t<4:=by have:=(valid j.prog).thr4;omega
 have e:Ud p m s t=true:=by rw[Ed q b];exact d
 obtain⟨l,x,g,o⟩:=XnT j c e
 refine⟨j,q,b,c,Xfg e _ c,l,x,g,o,?_,?_⟩
 ·unfold Uw
  rw[if_neg (by simp)]
  show(match NE p s (UInt8.ofNat t).toNat with|some i=>Up m i s (UInt8.ofNat t).toNat|none=>s)=_
  rw[EC b,o]
 ·exact Es g.hl g.hx
theorem XgO{x:Ins}{t:By}{v:UInt8}(h:x.op=1):EM x t v=v:=by
 unfold EM
 rw[if_neg (by rw[h];decide),if_neg (by rw[h];decide),if_neg (by rw[h];decide)]
theorem Ce{l:List Ins}{x:Ins}(h:ExecOf p m s t l x)(r:∀i,42<=i->i<142->s i=0)(hb:¬US m x)(i:Nat):Up m x s t i=N5 x s t i:=by
 rw[h.val,JS]
 by_cases n:t*9<=i/\i<t*9+9
 ·rw[if_pos n,if_pos n]
  unfold El Bj
  by_cases d:x.op=1
  ·rw[if_pos d,Xlg (Dt r h.t4),if_neg (by simp[VV,d])]
  ·rw[if_neg d]
   by_cases g:x.op=2
   ·rw[if_pos g,if_neg (by simp[VV,g])]
    unfold XgU
    rw[if_pos g]
    rfl
   ·rw[if_neg g]
    by_cases c:x.op=4\/x.op=5\/x.op=6
    ·rw[if_pos c,if_neg (by rcases c with h|h|h<;>simp[VV,h])]
    ·rw[if_neg c,if_pos]
     rcases h.op with h|h|h|h|h|h|h|h
     ·exact absurd h d
     ·exact absurd h g
     ·simp[VV,h]
     ·exact absurd (.inl h) c
     ·exact absurd (.inr (.inl h)) c
     ·exact absurd (.inr (.inr h)) c
     ·simp[VV,h]
     ·simp[VV,h]
 ·rw[if_neg n,if_neg n,if_neg hb]
  by_cases b:Ge m x
  ·have q:=h.notLocal (.inl b)
   by_cases e:i=36+x.loc.toNat
   ·rw[if_pos ⟨b,e⟩,if_pos ⟨q,e⟩]
   ·rw[if_neg (λj=>e j.2),if_neg (λj=>e j.2)]
  ·rw[if_neg (λj=>b j.1)]
   by_cases e:VV x=false/\i=36+x.loc.toNat
   ·rw[if_pos e]
    have d:x.op=1:=by
     rcases h.op with h|h|h|h|h|h|h|h
     ·exact h
     ·by_cases o:m=1
      ·exact absurd (.inl ⟨h,o⟩) b
      ·exact absurd ⟨h,o⟩ hb
     ·simp[VV,h]at e
     ·exact absurd (.inr (.inl h)) b
     ·exact absurd (.inr (.inr (.inl h))) b
     ·exact absurd (.inr (.inr (.inr h))) b
     ·simp[VV,h]at e
     ·simp[VV,h]at e
    rw[XgO d,e.2]
   ·rw[if_neg e]
theorem XgV{l:List Ins}{x:Ins}(h:ExecOf p m s t l x)(n:∀i,42<=i->i<142->s i=0)(hb:US m x):
 VW (Up m x s t) t=1/\UD (Up m x s t) t 0=x.loc/\∀i,i<142->UJ (Up m x s t) t 0 i=N5 x s t i:=by
 have g:=Dt n h.t4
 have y:=h.t4
 have e:J3 m s t x.loc (VW s t)=0:=by rw[g];rfl
 obtain⟨C,w⟩:=h.adds hb t
 have b:VW (Up m x s t) t=1:=by
  rw[C]
  have:=EU (st:=stP x.loc (Qq x (cut s (t*9)))) (G5 (m:=m) (s:=s) (t:=t) (loc:=x.loc) (VW s t)) h.room
  exact this.trans (by rw[g])
 have c:UD (Up m x s t) t 0=x.loc:=by
  rw[(w 0).1]
  unfold addP
  rw[XkP (G5 _) h.room y O,if_pos (by rw[show stP x.loc (Qq x (cut s (t*9))) 0=x.loc from Z,e])]
  rfl
 have j:QL (Up m x s t) t 0=Qq x (cut s (t*9)):=by
  rw[(w 0).2]
  unfold addP
  rw[XkN (G5 _) h.room y O,if_pos (by rw[show stP x.loc (Qq x (cut s (t*9))) 0=x.loc from Z,e])]
  rfl
 refine⟨b,c,λi A=>?_⟩
 have D:=h.loc6 (h.notLocal (.inr hb))
 have z:=h.notLocal (.inr hb)
 rw[Gs _ _ _ (by rw[b];omega),c,j,b,JS]
 by_cases o:i=36+x.loc.toNat
 ·rw[if_pos o,if_neg O,if_pos ⟨z,o⟩]
  unfold EM
  rw[if_pos (.inl hb.1)]
 ·have d:¬(VV x=false/\i=36+x.loc.toNat):=λv=>o v.2
  rw[if_neg o]
  by_cases q:i=138+t
  ·have u:(Up m x s t (138+t)).toNat=1:=b
   rw[if_pos q,if_neg O,if_neg d,q,n _ O O];rw[show Up m x s t (138+t)=1 from HC.1 u]
   rfl
  ·rw[if_neg q]
   by_cases B:42+t*24+(1-1)*2<=i/\i<42+t*24+1*2
   ·rw[if_pos B,if_neg O,if_neg d,n _ O O]
   ·rw[if_neg B,if_neg O]
    by_cases r:t*9<=i/\i<t*9+9
    ·rw[h.val,if_pos r,if_pos r]
     unfold El Bj
     rw[if_neg (by rw[hb.1];decide),if_pos hb.1,if_neg (by rw[z];simp)]
     unfold XgU
     rw[if_pos hb.1]
     rfl
    ·rw[if_neg r,if_neg d]
     rcases AN i 42 with h42|h42
     ·rw[h.low h42,if_neg r,if_neg (λv=>o v.2)]
     ·rw[h.high h42,if_pos hb,n i h42 A]
      unfold addP
      rw[show stP x.loc (Qq x (cut s (t*9))) 0=x.loc from Z,e,QG _ _ _ _ (AU _),if_neg q,if_neg O,if_neg O]
      exact n i h42 A
structure HeldT (q:Prg) (s z:By) (t:Nat):Prop where
 many:VW s t=1
 ex:∃l x,q.threads[t]?=some l/\l[pcP z t]?=some x/\x.op=2/\UD s t 0=x.loc/\QL s t 0=Qq x (cut z (t*9))
 pc:s (t*9)=z (t*9)+1
 regs:∀k,1<=k->k<9->s (t*9+k)=z (t*9+k)
def SideT(q:Prg)(s z:By)(t:Nat):Prop:=(VW s t=0/\∀k,k<9->s (t*9+k)=z (t*9+k))\/HeldT q s z t
theorem SideT.keep{q:Prg}{b g:By}{u:Nat}(h:SideT q s z u)(hm:VW b u=VW s u)(hb:∀i,i<12->UD b u i=UD s u i/\QL b u i=QL s u i)(hs:∀k,k<9->b (u*9+k)=s (u*9+k))(e:∀k,k<9->g (u*9+k)=z (u*9+k)):SideT q b g u:=by
 rcases h with⟨j,c⟩|h
 ·exact .inl ⟨hm.trans j,λk d=>by rw[hs k d,e k d,c k d]⟩
 ·obtain⟨l,x,p,v,r,t,o⟩:=h.ex
  have n:g (u*9)=z (u*9):=e 0 O
  have m:b (u*9)=s (u*9):=hs 0 O
  refine .inr ⟨hm.trans h.many,⟨l,x,p,by unfold pcP;rw[n];exact v,r,(hb 0 O).1.trans t,(hb 0 O).2.trans (o.trans (Ll λk d=>(e k d).symm))⟩,by rw[n,m];exact h.pc,λk j c=>by rw[hs k c,e k c];exact h.regs k j c⟩
def Xoa(p:Prg):By->List Nat->By->Prop
 |s,[],z=>z=s
 |s,t::r,z=>t∈Ue p s/\Xoa p (G6 p s t) r z
structure Bare (p:Prg) (s:By):Prop where
 r:UC p s=true
 t:Xnb s
theorem Bare.step{p:Prg}{s:By}{t:Nat}(h:Bare p s)(c:t∈Ue p s):Bare p (G6 p s t):=by
 obtain⟨l,x,b⟩:=LX (Gg h.r) c
 exact⟨b.right h.r,λi d=>(b.rest (Gg h.r) O).trans (h.t i d)⟩
theorem LT(h:VX p=0):Bare p (Ur p):=⟨E3 h,BO h⟩
theorem Bare.run{p:Prg}{z:By}:∀{r:List Nat}{s:By},Bare p s->Xoa p s r z->Bare p z
 | [],s,h,e=>by
   have e:z=s:=e
   subst e;exact h
 |_::_,_,h,e=>Bare.run (h.step e.1) e.2
theorem Xha(hm:Gb m=true)(h:Bare p s)(w:t∈Ue p s):∃r,RunM p m s r (G6 p s t):=by
 have b:=XiK h.r hm w
 obtain⟨l,x,A,J,u,v⟩:=b.instr
 have D:=(h.step w).t
 by_cases y:US m x
 ·obtain⟨I,K,C⟩:=XgV A b.z y
  have B:=Xng b.r b.mem
  have g:=B.right
  have j:=B.tidy h.t
  rw[u]at g j
  have n:0<VW (Up m x s t) t:=by rw[I];omega
  have c:=B4 n (p:=p) (m:=m) p.threads.length b.tl
  have o:=Xng g c
  have q:=EC b.t4
  have E:Na m (Up m x s t) t (V4 m (Up m x s t) t 0).l=0:=by
   have:=(Xka g b.t4 n).1.lt
   omega
  have e:Uw p m (Up m x s t) (V4 m (Up m x s t) t 0)=G6 p s t:=by
   refine(Xc3 (o.tidy j) D).1 (same_iff.2 λi G=>?_)
   unfold Uw
   rw[if_pos (show(V4 m (Up m x s t) t 0).d=true from Z)]
   show MY m (Up m x s t) (UInt8.ofNat t).toNat _ i=_
   rw[q]
   unfold MY
   rw[E,C i G,v]
  exact⟨[⟨UInt8.ofNat t,false,0⟩,V4 m (Up m x s t) t 0],b.mem,by rw[u];exact⟨c,e.symm⟩⟩
 ·refine⟨[⟨UInt8.ofNat t,false,0⟩],b.mem,?_⟩
  show G6 p s t=Uw p m s ⟨UInt8.ofNat t,false,0⟩
  rw[u,v]
  funext i
  exact(Ce A b.z y i).symm
theorem RunM.append{p:Prg}{m:UInt8}{y z:By}{q:List Pss}:∀{r:List Pss}{s:By},RunM p m s r y->RunM p m y q z->RunM p m s (r++q) z
 | [],s,h,e=>by
   have h:y=s:=h
   subst h;exact e
 |_::_,_,h,e=>⟨h.1,RunM.append h.2 e⟩
theorem XfM{p:Prg}{m:UInt8}{z:By}(hm:Gb m=true):∀{r:List Nat}{s:By},Bare p s->Xoa p s r z->∃q,RunM p m s q z
 | [],s,_,e=>⟨[],e⟩
 |_::_,_,h,e=>by
  obtain⟨c,d⟩:=Xha hm h e.1
  obtain⟨g,b⟩:=XfM hm (h.step e.1) e.2
  exact⟨c++g,d.append b⟩
theorem Xm4(hm:Gb m=true)(h:Bare p s)(d:Ue p s=[]):V0 p m s=[]:=by
 obtain⟨c,e⟩:=My h.r hm
 have b:=(valid c.prog).thr4
 unfold V0
 rw[EI e m _ b]
 have:(List.range p.threads.length).filter (XdI p s)=[]:=d
 rw[this];rfl
theorem Xnq{p:Prg}{z:By}:∀{r:List Pss}{s:By},Bare p s->RunM p 1 s r z->∃q,Xoa p s q z
 | [],s,_,e=>⟨[],e⟩
 |x::r,s,h,e=>by
  have g:Gb 1=true:=by decide
  obtain⟨v,C⟩:=My h.r g
  have b:=(valid v.prog).thr4
  have d:=e.1
  unfold V0 at d
  rw[EI C 1 _ b]at d
  obtain⟨t,c,rfl⟩:=AT.1 d
  have j:=XiK h.r g c
  obtain⟨l,i,n,D,B,o⟩:=j.instr
  have w:¬US 1 i:=λu=>u.2 Z
  have A:Uw p 1 s ⟨UInt8.ofNat t,false,0⟩=G6 p s t:=by
   rw[B,o]
   funext k
   exact Ce n j.z w k
  have m:=e.2
  rw[A]at m
  obtain⟨q,y⟩:=Xnq (h.step c) m
  exact⟨t::q,c,y⟩
theorem XqJ(h:Bare p s)(b:V0 p 1 s=[]):Ue p s=[]:=by
 obtain⟨d,e⟩:=My h.r (show Gb 1=true by decide)
 have c:=(valid d.prog).thr4
 unfold V0 at b
 rw[EI e 1 _ c]at b
 exact List.map_eq_nil_iff.1 b
structure ThA (th:By) (r:RunP):Prop where
 pc:(th 0).toNat=r.pc
 regs:∀d,d<8->th (1+d)=r.regs d
theorem XcZ{r:RunP}{x:Ins}(h:ThA th r)(d:InR x):Qq x th=UX x.aR x.aN r:=by
 unfold Qq JO UX
 cases c:x.aR with
 |true=>
  have b:=d.a c
  simp only[if_true,b]
  show th (1+x.aN.toNat)=_
  exact h.regs _ b
 |false=>simp
theorem XcY{r:RunP}{x:Ins}(h:ThA th r)(e:InR x):XaZ x th=UX x.bR x.bN r:=by
 unfold XaZ JO UX
 cases d:x.bR with
 |true=>
  have c:=e.b d
  simp only[if_true,c]
  show th (1+x.bN.toNat)=_
  exact h.regs _ c
 |false=>simp
theorem XoB{c a b:UInt8}(h:c=4\/c=5\/c=6):NK c a b=XeE c a b:=by
 unfold NK XeE
 rcases h with h|h|h<;>rw[h]<;>rfl
theorem Xo4{c a b:UInt8}(h:c=1\/c=2\/c=3):L9 c a b=Xo5 c a b:=by
 unfold L9 Xo5
 rcases h with h|h|h<;>rw[h]<;>rfl
theorem XqB{l:List Ins}(h:Ua 6 l=true){x:Ins}(d:l[k]?=some x):(x.op=3->x.fn=1\/x.fn=2\/x.fn=3)/\(x.op=8->x.fn=4\/x.fn=5\/x.fn=6):=by
 simp only[Ua,AJ,decide_eq_true_eq]at h
 have e:=Jo h.2 d
 have b:XjN x.op x.fn=true:=U8 e 6 (by decide)
 unfold XjN at b
 constructor
 ·intro c
  rw[if_pos c]at b
  simp only[FM,beq_iff_eq]at b
  rcases b with(h|h)|h<;>simp[h]
 ·intro c
  rw[c,if_neg (by decide),if_pos Z]at b
  simp only[FM,beq_iff_eq]at b
  rcases b with(h|h)|h<;>simp[h]
def wrE(m:By)(e:Ev):By:=if e.kind=2 then put m e.loc.toNat e.val else m
theorem Xpa{x:Ins}{M:By}{r:RunP}(h:ThA th r)(o:InR x)(p:x.op=1\/x.op=2\/x.op=3\/x.op=4\/x.op=5\/x.op=6\/x.op=7\/x.op=8)(k:Nat):
   (if VV x=false/\k=x.loc.toNat then EM x th (M x.loc.toNat)else M k)=(U1 x (M x.loc.toNat) r).foldl wrE M k:=by
 have n:M k=M k:=rfl
 have i:=XcZ h o
 have q:=XcY h o
 have g:∀v:UInt8,put M x.loc.toNat v k=if k=x.loc.toNat then v else M k:=λv=>rfl
 rcases p with h1|h1|h1|h1|h1|h1|h1|h1
 ·have e:U1 x (M x.loc.toNat) r=[⟨1,x.loc,M x.loc.toNat,x.mode,UInt8.ofNat r.pc,UInt8.ofNat r.many⟩]:=by unfold U1;rw[if_pos h1]
  rw[e]
  show _=M k
  unfold EM
  rw[h1]
  split
  next j=>rw[if_neg (by decide),if_neg (by decide),if_neg (by decide),j.2]
  next j=>exact n
 ·have e:U1 x (M x.loc.toNat) r=[⟨2,x.loc,UX x.aR x.aN r,x.mode,UInt8.ofNat r.pc,UInt8.ofNat r.many⟩]:=by unfold U1;rw[h1];rfl
  rw[e]
  show _=put M x.loc.toNat (UX x.aR x.aN r) k
  rw[g]
  have d:VV x=false:=by simp[VV,h1]
  by_cases b:k=x.loc.toNat
  ·rw[if_pos b,if_pos ⟨d,b⟩];unfold EM;rw[if_pos (.inl h1),i]
  ·rw[if_neg b,if_neg (λc=>b c.2)]
 ·have e:U1 x (M x.loc.toNat) r=[]:=by unfold U1;rw[h1];rfl
  rw[e]
  have d:VV x=true:=by simp[VV,h1]
  rw[if_neg (λc=>by rw[d]at c;exact Bool.noConfusion c.1)];exact n
 ·have e:U1 x (M x.loc.toNat) r=[⟨1,x.loc,M x.loc.toNat,3,UInt8.ofNat r.pc,UInt8.ofNat r.many⟩,⟨2,x.loc,UX x.aR x.aN r,3,UInt8.ofNat r.pc,UInt8.ofNat (r.many+1)⟩]:=by unfold U1;rw[h1];rfl
  rw[e]
  show _=put M x.loc.toNat (UX x.aR x.aN r) k
  rw[g]
  have d:VV x=false:=by simp[VV,h1]
  by_cases b:k=x.loc.toNat
  ·rw[if_pos b,if_pos ⟨d,b⟩];unfold EM;rw[if_pos (.inr h1),i]
  ·rw[if_neg b,if_neg (λc=>b c.2)]
 ·have e:U1 x (M x.loc.toNat) r=[⟨1,x.loc,M x.loc.toNat,3,UInt8.ofNat r.pc,UInt8.ofNat r.many⟩,⟨2,x.loc,M x.loc.toNat+UX x.aR x.aN r,3,UInt8.ofNat r.pc,UInt8.ofNat (r.many+1)⟩]:=by unfold U1;rw[h1];rfl
  rw[e]
  show _=put M x.loc.toNat (M x.loc.toNat+UX x.aR x.aN r) k
  rw[g]
  have d:VV x=false:=by simp[VV,h1]
  by_cases b:k=x.loc.toNat
  ·rw[if_pos b,if_pos ⟨d,b⟩];unfold EM;rw[h1,if_neg (by decide),if_pos Z,i]
  ·rw[if_neg b,if_neg (λc=>b c.2)]
 ·have d:VV x=false:=by simp[VV,h1]
  by_cases m:M x.loc.toNat≠UX x.aR x.aN r
  ·have e:U1 x (M x.loc.toNat) r=[⟨1,x.loc,M x.loc.toNat,3,UInt8.ofNat r.pc,UInt8.ofNat r.many⟩]:=by
     unfold U1
     rw[h1]
     exact if_pos m
   rw[e]
   show _=M k
   split
   next j=>unfold EM;rw[h1,if_neg (by decide),if_neg (by decide),if_pos Z,i,if_neg m,j.2]
   next j=>exact n
  ·have e:U1 x (M x.loc.toNat) r=[⟨1,x.loc,M x.loc.toNat,3,UInt8.ofNat r.pc,UInt8.ofNat r.many⟩,⟨2,x.loc,UX x.bR x.bN r,3,UInt8.ofNat r.pc,UInt8.ofNat (r.many+1)⟩]:=by
     unfold U1
     rw[h1]
     exact if_neg m
   rw[e]
   show _=put M x.loc.toNat (UX x.bR x.bN r) k
   rw[g]
   by_cases b:k=x.loc.toNat
   ·rw[if_pos b,if_pos ⟨d,b⟩];unfold EM;rw[h1,if_neg (by decide),if_neg (by decide),if_pos Z,i,q,if_pos (Decidable.not_not.1 m)]
   ·rw[if_neg b,if_neg (λc=>b c.2)]
 ·have e:U1 x (M x.loc.toNat) r=[⟨3,0,0,x.mode,UInt8.ofNat r.pc,UInt8.ofNat r.many⟩]:=by unfold U1;rw[h1];rfl
  rw[e]
  have d:VV x=true:=by simp[VV,h1]
  show _=M k
  rw[if_neg (λc=>by rw[d]at c;exact Bool.noConfusion c.1)]
 ·have e:U1 x (M x.loc.toNat) r=[]:=by unfold U1;rw[h1];rfl
  rw[e]
  have d:VV x=true:=by simp[VV,h1]
  show _=M k
  rw[if_neg (λc=>by rw[d]at c;exact Bool.noConfusion c.1)]
theorem Xlu{x:Ins}{r:RunP}(h:ThA th r)(j:InR x)(s:x.op=1\/x.op=2\/x.op=3\/x.op=4\/x.op=5\/x.op=6\/x.op=7\/x.op=8)(m:x.op=3->x.fn=1\/x.fn=2\/x.fn=3)(d:Nat)(hd:d<8)(v:UInt8):
 Bj x th v (1+d)=C5 x v r d:=by
 have u:=XcZ h j
 have p:=XcY h j
 have i:th (1+d)=r.regs d:=h.regs d hd
 have g:∀(t:By)(q:UInt8),put t 0 q (1+d)=t (1+d):=λt q=>by unfold put;rw[if_neg O]
 have n:∀q:UInt8,NV th x.dst q (1+d)=put r.regs x.dst.toNat q d:=λq=>by
  unfold NV
  rw[if_pos j.d]
  unfold put
  by_cases e:d=x.dst.toNat
  ·rw[if_pos e,if_pos O]
  ·rw[if_neg e,if_neg O];exact i
 have b:VV x=false->x.op≠2->Bj x th v (1+d)=put r.regs x.dst.toNat v d:=λc o=>by
  unfold Bj XgU
  rw[if_neg (by rw[c];exact Bool.noConfusion),if_neg o,g]
  exact n v
 unfold C5
 rcases s with h1|h1|h1|h1|h1|h1|h1|h1
 ·rw[if_pos (.inl h1)];exact b (by simp[VV,h1]) (by rw[h1];decide)
 ·rw[if_neg (by rw[h1];decide),if_neg (by rw[h1];decide)]
  unfold Bj XgU
  have c:VV x=false:=by simp[VV,h1]
  rw[if_neg (by rw[c];exact Bool.noConfusion),if_pos h1,g]
  exact i
 ·rw[if_neg (by rw[h1];decide),if_pos h1]
  unfold Bj Je
  have c:VV x=true:=by simp[VV,h1]
  rw[if_pos c,if_pos h1,g,n,u,p,Xo4 (m h1)]
 ·rw[if_pos (.inr (.inl h1))];exact b (by simp[VV,h1]) (by rw[h1];decide)
 ·rw[if_pos (.inr (.inr (.inl h1)))];exact b (by simp[VV,h1]) (by rw[h1];decide)
 ·rw[if_pos (.inr (.inr (.inr h1)))];exact b (by simp[VV,h1]) (by rw[h1];decide)
 ·rw[if_neg (by rw[h1];decide),if_neg (by rw[h1];decide)]
  unfold Bj Je
  have c:VV x=true:=by simp[VV,h1]
  rw[if_pos c,if_neg (by rw[h1];decide),if_neg (by rw[h1];decide),if_pos h1,g]
  exact i
 ·rw[if_neg (by rw[h1];decide),if_neg (by rw[h1];decide)]
  unfold Bj Je
  have c:VV x=true:=by simp[VV,h1]
  rw[if_pos c,if_neg (by rw[h1];decide),if_pos h1,g]
  exact i
structure Sim (p:Prg) (s:By) (R:Nat->RunP):Prop where
 bare:Bare p s
 thr:∀t,t<p.threads.length->ThA (cut s (t*9)) (R t)
 rest:∀i,p.threads.length*9<=i->i<36->s i=0
def Bk(s:By):By:=λk=>s (36+k)
def Xa0(R:Nat->RunP)(t:Nat)(r:RunP):Nat->RunP:=λu=>if u=t then r else R u
theorem Xno{R:Nat->RunP}{l:List Ins}{x:Ins}(h:Sim p s R)(y:p.threads[t]?=some l)(w:l[(R t).pc]?=some x)(C:Ua 6 l=true):
 t∈Ue p s/\Sim p (G6 p s t) (Xa0 R t (Ub x (Bk s x.loc.toNat) (R t)))/\∀k,k<6->Bk (G6 p s t) k=(U1 x (Bk s x.loc.toNat) (R t)).foldl wrE (Bk s) k:=by
 have q:=(AB.1 y).1
 have b:=h.thr t q
 have o:(s (t*9)).toNat=(R t).pc:=b.pc
 have S:=(AB.1 w).1
 have m:t∈Ue p s:=Az.2 ⟨Ab.2 q,by unfold XdI;rw[y];exact decide_eq_true O⟩
 obtain⟨V,X,j⟩:=LX (Gg h.bare.r) m
 have K:=j.hl
 rw[y]at K
 cases K
 have A:=j.hx
 unfold pcP at A
 rw[o,w]at A
 cases A
 have g:=BL C w
 have P:=NW C
 have I:=MF x.op (by rw[AJ];exact⟨decide_eq_true (Ai.2 g.op.1),decide_eq_true (Ai.2 g.op.2)⟩)
 have L:=XqB C w
 have Q:=XcZ b g.inr
 have N:=XcY b g.inr
 have T:=j.t4
 refine⟨m,⟨h.bare.step m,λu J=>?_,λi E z=>by rw[j.at',if_neg O,if_neg O];exact h.rest i E z⟩,λk W=>?_⟩
 ·unfold Xa0
  by_cases c:u=t
  ·rw[if_pos c,c]
   refine⟨?_,λd D=>?_⟩
   ·show(G6 p s t (t*9+0)).toNat=_
    rw[j.at' (t*9+0),if_pos O,show t*9+0-t*9=0 by omega,Xc4,XoV]
    unfold C6
    rw[Q,N]
    have G:(1:UInt8).toNat=1:=rfl
    have hs:=g.skip
    have o:=b.pc
    by_cases B:x.op=8
    ·rw[XoB (L.2 B)]
     by_cases e:x.op=8/\XeE x.fn (UX x.aR x.aN (R t)) (UX x.bR x.bN (R t))=true
     ·rw[if_pos e,if_pos e,H6,H6,G];omega
     ·rw[if_neg e,if_neg e,if_pos g.op,H6,G];omega
    ·rw[if_neg (λv=>B v.1),if_neg (λv=>B v.1),if_pos g.op,H6,G];omega
   ·show G6 p s t (t*9+(1+d))=_
    rw[j.at' (t*9+(1+d)),if_pos O,show t*9+(1+d)-t*9=1+d by omega,Xlu b g.inr I L.1 d D,XiB];rfl
  ·rw[if_neg c]
   have n:u<4:=by have:=(valid (Gg h.bare.r)).thr4;omega
   refine⟨?_,λd D=>?_⟩
   ·show(G6 p s t (u*9+0)).toNat=_
    rw[j.far c O n];exact(h.thr u J).pc
   ·show G6 p s t (u*9+(1+d))=_
    rw[j.far c O n];exact(h.thr u J).regs d D
 ·unfold Bk
  have U:=Xpa (M:=λk=>s (36+k)) b g.inr I k
  rw[j.at' (36+k),if_neg O,<-U]
  by_cases e:VV x=false/\k=x.loc.toNat
  ·rw[if_pos e,if_pos ⟨e.1,O⟩]
  ·rw[if_neg e,if_neg (λv=>e ⟨v.1,O⟩)]
theorem XdA(g:VX p=0){x:List UInt8}:Xnc p 1 x↔∃i z,Xoa p (Ur p) i z/\Ue p z=[]/\x=toL 38 (GS z):=by
 have c:=LT g
 constructor
 ·rintro⟨r,z,n,d,e⟩
  obtain⟨q,b⟩:=Xnq c n
  exact⟨q,z,b,XqJ (c.run b) d,e⟩
 ·rintro⟨q,z,b,d,e⟩
  obtain⟨r,j⟩:=XfM (m:=1) (by decide) c b
  exact⟨r,z,j,Xm4 (by decide) (c.run b) d,e⟩
theorem BS(hp:VX p=0):Sim p (Ur p) (λ_=>zRun) where
 bare:=LT hp
 thr:=λt g=>by
  have e:=(valid hp).thr4
  have b:∀k,k<9->Ur p (t*9+k)=0:=λk c=>by rw[Ni hp,if_neg O]
  exact⟨by show(Ur p (t*9+0)).toNat=0;rw[b 0 O];rfl,λd hd=>b (1+d) O⟩
 rest:=λi _ hi=>by rw[Ni hp,if_neg O]
theorem Dr(b:VX p=0)(k:Nat):Bk (Ur p) k=p.init.getD k 0:=by
 have c:=valid b
 unfold Bk
 rw[Ni b,Fq]
 by_cases h:k<p.locs.length
 ·rw[if_pos ⟨O,O⟩]
 ·rw[if_neg O,AS,AV (by rw[c.init];omega)];rfl
theorem XeF{R:Nat->RunP}(h:Sim p s R):Ue p s=[]↔∀t l,p.threads[t]?=some l->l[(R t).pc]?=none:=by
 constructor
 ·intro g t l c
  have b:=(AB.1 c).1
  rcases AN (R t).pc l.length with h1|h1
  ·have:t∈Ue p s:=Az.2 ⟨Ab.2 b,by
     unfold XdI
     rw[c]
     have d:(s (t*9)).toNat=(R t).pc:=(h.thr t b).pc
     exact decide_eq_true O⟩
   rw[g]at this;cases this
  ·exact AV h1
 ·intro i
  refine F3.2 λt c=>?_
  have b:=Ab.1 c
  have e:=AA b
  have h1:=List.getElem?_eq_none_iff.1 (i t _ e)
  have d:(s (t*9)).toNat=(R t).pc:=(h.thr t b).pc
  unfold XdI
  rw[e]
  simp only[decide_eq_true_eq]
  omega
theorem XnP{f:By}{R:Nat->RunP}(h:Sim p s R)(g:∀t d,t<p.threads.length->d<8->f (t*8+d)=(R t).regs d)(c:∀i,p.threads.length*8<=i->i<32->f i=0)(j:∀k,k<6->f (32+k)=Bk s k):toL 38 (GS s)=toL 38 f:=by
 refine toL_eq.2 (same_iff.2 λi m=>?_)
 unfold GS
 split
 next b=>
  rcases AN (i/8) p.threads.length with ht|ht
  ·have e:=g (i/8) (i%8) ht O
   rw[show i/8*8+i%8=i by omega]at e;rw[e]
   have:=(h.thr (i/8) ht).regs (i%8) O
   unfold cut at this
   rw[<-this,FY]
  ·rw[c i O b]
   exact h.rest _ O O
 next b=>
  have:=j (i-32) O
  rw[show 32+(i-32)=i by omega]at this
  rw[this];rfl
end Go.Proofs.YtajfpcgbnflceaaGreatDoor
