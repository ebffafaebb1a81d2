/- WALK2. Package runs: states, Count, Reached. Conditions: the program lies in memory; block 0 holds the table of needs. -/
import Derived.Test.YtajfpcgbnflceaaGreatDoorJn21
import Derived.Test.YtajfpcgbnflceaaGreatDoorJn20
set_option linter.unusedSimpArgs false
set_option linter.unusedVariables false
namespace Go.Proofs.YtajfpcgbnflceaaGreatDoor
open Go.Proofs.Tryz
open Go.RowKit
set_option maxRecDepth 100000
set_option maxHeartbeats 1000000
variable{k:Nat}{m:UInt8}{n:Int}{p:Prg}{w:World}
def Jh(p:Prg):Prg:={p with name:=⟨#[97]⟩,ask:=1,cond:=.mk 0 0 0 0 []}
theorem L5(p:Prg)(m:UInt8)(s:By):∀n,UU (Jh p) m s n=UU p m s n
 |0=>rfl
 |n+1=>by rw[UU,UU,L5 p m s n];rfl
theorem Xbx(p:Prg)(m:UInt8)(s:By):V0 (Jh p) m s=V0 p m s:=L5 p m s _
theorem N1(p:Prg)(m:UInt8)(b k:Nat)(s:By):∀r l q,UT (Jh p) m b k s r l q=UT p m b k s r l q
 | [],_,_=>rfl
 |x::r,l,q=>by
  rw[UT,UT,N1 p m b k s r,N1 p m b k s r]
  rfl
theorem L4(p:Prg)(m:UInt8)(b:Nat):∀f k a,Gj (Jh p) m b f k a=Gj p m b f k a
 |0,_,_=>rfl
 |f+1,k,a=>by
  rw[Gj,Gj]
  cases a.list[k]? with
  |none=>rfl
  |some s=>
   simp only[Xbx,N1]
   cases UT p m b k s (V0 p m s) a.list a.links with
   |none=>rfl
   |some c=>exact L4 p m b f (k+1) _
theorem Dd(p:Prg)(m:UInt8)(b:Nat):QX (Jh p) m b=QX p m b:=L4 p m b _ _ _
theorem XaB(h:∀i,i<6->Jl p i=true):VX p=0:=by
 unfold VX
 simp[Ja,h]
theorem Xsf:Q2 ⟨#[97]⟩=true:=by kernel_rfl
theorem Xdv(h:VX p=0):VX (Jh p)=0:=XaB λi g=>by
 have c:=U3 h 1 O
 have b:=U3 h 2 O
 have d:=U3 h 3 O
 rcases(by omega:i=0\/i=1\/i=2\/i=3\/i=4\/i=5)with e|e|e|e|e|e<;>rw[e]
 ·rw[Jl];exact Xsf
 ·rw[Jl]at c⊢;exact c
 ·rw[Jl]at b⊢;exact b
 ·rw[Jl]at d⊢;exact d
 ·rw[Jl];rfl
 ·rw[Jl];rfl
def NX(p:Prg)(m:UInt8)(n:Int):Prop:=Gb m=true/\1<=n/\n<=65536/\VX p=0
instance (p:Prg) (m:UInt8) (n:Int):Decidable (NX p m n):=by unfold NX;infer_instance
def Qt(p:Prg)(m:UInt8)(n:Int):Option Fnd:=if NX p m n then QX p m n.toNat else none
def Ux(p:Prg)(m:UInt8)(n:Int):Int:=if NX p m n then(if(QX p m n.toNat).isSome=true then 0 else 5)else 2
theorem J8(h:¬NX p m n){b:World}{c:List Res}(H:Own b none w c):XfT (Qt p m n) (Ve (Ux p m n)) b (.returned (.tuple #[.agg #[.slice none 0 0,.slice none 0 0,.slice none 0 0],Ve 2])) w:=by
 rw[Qt,Ux,if_neg h,if_neg h]
 exact Xas H
theorem JU{b:World}(c:w.grownBy b none):Own w none b []:=⟨c,λi r h=>by simp at h,λi r h=>by simp at h,λi j r s h=>by simp at h⟩
theorem Xks(p:Prg)(b:UInt8)(g i:Nat)(v c1 c2 j u m t q c8 n:Value)(d:World)(B:d.rangeAt g 0 [v,c1,c2,j,u,m,t,q,c8,n])(G:d.rangeAt i 0 [YtajfpcgbnflceaaGreatDoor.b8 b])(D:ProgAt d [v,c1,c2,j,u,m,t,q,c8,n] p)(C:NeedsAt d)(s:By)(E:Fine p b s):
 JL prog (.func (.func 46) #[] #[Vc g 0,Vc i 0]) [.agg (bs 142 s).toArray] d (λe z=>∃A c,e=.returned (.slice A (V0 p b s).length c)/\Own d none z [.rws 117 3 (.slice A (V0 p b s).length c) ((V0 p b s).map Pss.cells)]):=by
 refine⟨_,[],[Vc g 0,Vc i 0],Z,call46,?_⟩
 have H:=Own.start d none
 have y:GQ p b s=V0 p b s:=XbI E.r
 refine VU func46 Z ntmps46 Z (λa F=>?_)
 refine gg 2 λa F=>?_
 refine Eo H F λg a w F H=>?_
 refine gg 4 λa F=>?_
 refine zLr F (H.argR (Xnm B 0 10)) λa F=>?_
 refine gg 2 λa F=>?_
 refine Xi call47 F Z ((by have:=B1 _ p _ (D.own H) (C.own H) b s;rw[y]at this;exact this)) ?_;rintro e w ⟨A,c,rfl,o⟩;replace H:=H.join o;clear o
 refine zq λa F=>?_
 refine gg 4 λa F=>?_
 exact⟨A,c,Z,H.pick 0 Z⟩
theorem Xkr(p:Prg)(c:UInt8)(g d:Nat)(u c1 c2 j t m q o c8 n:Value)(b:World)(y:b.rangeAt g 0 [u,c1,c2,j,t,m,q,o,c8,n])(J:b.rangeAt d 0 [YtajfpcgbnflceaaGreatDoor.b8 c])(C:ProgAt b [u,c1,c2,j,t,m,q,o,c8,n] p)(A:NeedsAt b)(s:By)(x:Pss)(D:Fine p c s)(z:x∈V0 p c s):
 JL prog (.func (.func 48) #[] #[Vc g 0,Vc d 0]) [.agg (bs 142 s).toArray,.agg x.cells.toArray] b (λe v=>e=.returned (.agg (bs 142 (Uw p c s x)).toArray)/\Below b.heap.size b v):=by
 refine⟨_,[],[Vc g 0,Vc d 0],Z,call48,?_⟩
 have H:=Own.start b none
 have i:x∈GQ p c s:=by rw[XbI D.r];exact z
 have B:Xfd p c s x=Uw p c s x:=if_pos i
 refine VU func48 Z ntmps48 Z (λa F=>?_)
 refine gg 2 λa F=>?_
 refine Eo H F λd a w F H=>?_
 refine zBx H F λG a w F H=>?_
 refine Mj Lf H F λI a w F H=>?_
 refine gg 3 λa F=>?_
 refine zLr F (H.argR (Xnm y 0 10)) λa F=>?_
 refine gg 3 λa F=>?_
 refine zCa F ((by have:=Xjd _ p _ (C.own H) (A.own H) c s x;rw[B]at this;exact this)) H λa w F H=>?_
 refine gg 3 λa F=>?_
 refine Mj Lf H F λE a w F H=>?_
 refine Gp H 0 F λw H=>?_
 rw[V3]at H
 refine gg 5 λa F=>?_
 refine Gp H 1 F λw H=>?_
 rw[V3]at H
 refine gg 2 λa F=>?_
 refine J2 results48 F Z underlying85 Z sizeOf85 H 1 Z ?_
 exact⟨Z,H.below⟩
theorem Xf6(I:List Value)(p:Prg)(B:World)(R:ProgAt B I p)(N:NeedsAt B)(d:UInt8)(n:Int)(a1:-9223372036854775808<=n)(a4:n<=9223372036854775807):
 Calls prog 17 #[.agg I.toArray,YtajfpcgbnflceaaGreatDoor.b8 d,Ve n] B λe A=>XfT (Qt p d n) (Ve (Ux p d n)) B e A:=by
 have H:=Own.start B none
 have J:=R
 obtain⟨X,LC,IA,IC,TA,V,h,a3,i⟩:=R
 obtain⟨c1,c2,c3,c4,c5,rfl⟩:=Xa2 (Uk i.cond)
 have L:=i.cs
 subst L
 have c:Gb d=true↔(1:UInt8)<=d/\d<=3:=by unfold Gb;simp
 refine VU func17 Z ntmps17 Z (λa F=>?_)
 refine gg 2 λa F=>?_
 refine zBx H F λP a w F H=>?_
 refine zBx H F λU a w F H=>?_
 refine zAl zeroValue72 H F λb6 a w F H=>?_
 refine gg 4 λa F=>?_
 refine zAl zeroValue72 H F λb8 a w F H=>?_
 refine gg 7 λa F=>?_
 refine zSp 15 F (λv F=>?_) λv F=>?_
 ·
  refine gg 12 λa F=>?_
  refine cIfT F Z ?_
  refine gg 3 λa F=>?_
  refine sSr H 1 ?si F Z Z Z ?s1 Z Z ?_
  case si=>exact VT sizeOf72
  case s1=>rfl
  clear H;intro w H
  refine gg 3 λa F=>?_
  refine La results17 F Z Z underlying72 Z H 1 Z sizeOf72 Z ?_
  (refine J8 ?_ H
   intro b
   obtain⟨q,D,C,E⟩:=b
   have t:=c.1 q
   exact absurd v (UInt8.not_lt.2 t.1))
 refine gg 4 λa F=>?_
 refine zSp 19 F (λu F=>?_) λu F=>?_
 ·
  refine gg 8 λa F=>?_
  refine cIfT F Z ?_
  refine gg 3 λa F=>?_
  refine sSr H 1 ?si F Z Z Z ?s1 Z Z ?_
  case si=>exact VT sizeOf72
  case s1=>rfl
  clear H;intro w H
  refine gg 3 λa F=>?_
  refine La results17 F Z Z underlying72 Z H 1 Z sizeOf72 Z ?_
  (refine J8 ?_ H
   intro b
   obtain⟨q,D,C,E⟩:=b
   have t:=c.1 q
   exact absurd u (UInt8.not_lt.2 t.2))
 refine gg 4 λa F=>?_
 refine zSp 23 F (λr F=>?_) λr F=>?_
 ·
  refine gg 4 λa F=>?_
  refine cIfT F Z ?_
  refine gg 3 λa F=>?_
  refine sSr H 1 ?si F Z Z Z ?s1 Z Z ?_
  case si=>exact VT sizeOf72
  case s1=>rfl
  clear H;intro w H
  refine gg 3 λa F=>?_
  refine La results17 F Z Z underlying72 Z H 1 Z sizeOf72 Z ?_
  (refine J8 ?_ H
   intro b
   obtain⟨q,D,C,E⟩:=b
   have t:=c.1 q
   exact absurd r O)
 refine gg 5 λa F=>zi (λM=>?_) λM=>?_
 ·
  refine gg 3 λa F=>?_
  refine sSr H 1 ?si F Z Z Z ?s1 Z Z ?_
  case si=>exact VT sizeOf72
  case s1=>rfl
  clear H;intro w H
  refine gg 3 λa F=>?_
  refine La results17 F Z Z underlying72 Z H 1 Z sizeOf72 Z ?_
  (refine J8 ?_ H
   intro b
   obtain⟨q,D,C,E⟩:=b
   have t:=c.1 q
   exact absurd r O)
 refine gg 4 λa F=>?_
 refine zCa F (XhZ _ p _ (J.own H) (N.own H)) H λa w F H=>?_
 refine gg 3 λa F=>?_
 refine Mj Lf H F λb9 a w F H=>?_
 refine Gp H 0 F λw H=>?_
 rw[V3]at H
 refine gg 9 λa F=>zi (λm=>?_) λm=>?_
 ·
  have z:VX p≠0:=λh=>m (if_pos h)
  have eE:Xbg p=2:=if_neg z
  simp only[eE]at F
  refine gg 4 λa F=>?_
  refine sSr H 2 ?si F Z Z Z ?s1 Z Z ?_
  case si=>exact VT sizeOf72
  case s1=>rfl
  clear H;intro w H
  refine gg 3 λa F=>?_
  refine La results17 F Z Z underlying72 Z H 2 Z sizeOf72 Z ?_
  (refine J8 ?_ H
   intro b
   obtain⟨q,D,C,E⟩:=b
   have t:=c.1 q
   exact absurd r O)
 have z:VX p=0:=by
  apply Decidable.byContradiction
  intro hh
  rw[Xbg,if_neg hh]at m
  cases m
 have G:=Xdv z
 have W:XeB p=Ur (Jh p):=if_pos z
 have S:Gb d=true:=c.2 ⟨UInt8.not_lt.1 v,UInt8.not_lt.1 u⟩
 have b:NX p d n:=⟨S,O,O,z⟩
 have en:((n.toNat:Nat):Int)=n:=O
 rw[W]at H
 refine gg 3 λa F=>?_
 refine sBd (cs:=[YtajfpcgbnflceaaGreatDoor.b8 0,YtajfpcgbnflceaaGreatDoor.b8 0,YtajfpcgbnflceaaGreatDoor.b8 0,YtajfpcgbnflceaaGreatDoor.b8 0,.slice none 0 0]) (places:=[(0,1),(1,1),(2,1),(3,1),(4,1)]) zeroValue27 underlying27 Y F Z Z Z Z λa F=>?_
 refine gg 1 λa F=>?_
 refine zSt H 4 F λw H=>?_
 refine gg 1 λa F=>?_
 refine zSt H 4 F λw H=>?_
 refine gg 1 λa F=>?_
 refine sSr H 4 ?si F Z Z Z ?s1 Z Z ?_
 case si=>exact VT sizeOf27
 case s1=>rfl
 clear H;intro w H
 refine gg 7 λa F=>?_
 refine Xi call45 F Z ((by
  have y:ProgAt _ _ (Jh p):=⟨X,LC,IA,IC,TA,V,1,[YtajfpcgbnflceaaGreatDoor.b8 0,YtajfpcgbnflceaaGreatDoor.b8 0,YtajfpcgbnflceaaGreatDoor.b8 0,YtajfpcgbnflceaaGreatDoor.b8 0,.slice none 0 0],Z,(by show 1<=maxLen;decide),(i.own H).locs,i.locsN,i.locsC,i.locsS,(i.own H).init,i.initN,(i.own H).threads,i.threadsN,⟨none,0,Z,by simp[Jh],λj a5 h=>by simp at h⟩⟩
  have T:=XdW (Jh p) d n.toNat _ _ _ G S O O
   (λA o s K=>Xks (Jh p) d P U _ _ _ _ _ _ _ _ _ _ A ((JU o).argR (H.whole 4 Z)) ((JU o).argR (H.whole 3 Z)) (y.own (JU o)) ((N.own H).own (JU o)) s K)
   (λA o s x K hx=>Xkr (Jh p) d P U _ _ _ _ _ _ _ _ _ _ A ((JU o).argR (H.whole 4 Z)) ((JU o).argR (H.whole 3 Z)) (y.own (JU o)) ((N.own H).own (JU o)) s x K hx)
  rw[en]at T
  exact T)) ?_
 rintro e w ⟨A1,k1,A2,k2,A3,k3,rfl,Q⟩;replace H:=H.join Q;clear Q
 refine zq λa F=>?_
 refine gg 3 λa F=>?_
 refine zAl zeroValue72 H F λa2 a w F H=>?_
 refine sSr H 0 ?si F Z Z Z ?s1 Z Z ?_
 case si=>exact VT sizeOf72
 case s1=>rfl
 clear H;intro w H
 refine gg 9 λa F=>zi (λg=>?_) λg=>?_
 ·
  refine gg 3 λa F=>?_
  refine sSr H 6 ?si F Z Z Z ?s1 Z Z ?_
  case si=>exact VT sizeOf72
  case s1=>rfl
  clear H;intro w H
  refine gg 3 λa F=>?_
  refine La results17 F Z Z underlying72 Z H 6 Z sizeOf72 Z ?_
  (simp only[Dd]at g
   have e:QX p d n.toNat=none:=Option.not_isSome_iff_eq_none.1 (by rw[g];simp)
   rw[Qt,Ux,if_pos b,if_pos b,e]
   exact Xas H)
 refine gg 4 λa F=>?_
 refine sSr H 6 ?si F Z Z Z ?s1 Z Z ?_
 case si=>exact VT sizeOf72
 case s1=>rfl
 clear H;intro w H
 refine gg 3 λa F=>?_
 refine La results17 F Z Z underlying72 Z H 6 Z sizeOf72 Z ?_
 (simp only[Dd]at g H⊢
  rw[Qt,Ux,if_pos b,if_pos b,if_pos g]
  exact⟨_,_,_,_,_,_,Z,H.sel [1,2,3] Z Z⟩)
theorem Xbe{a:Fnd}(h:Qt p m n=some a):a.list.length<=65536/\a.ends.length<=65536:=by
 unfold Qt at h
 split at h
 ·rename_i d
  obtain⟨c,i,g,e⟩:=d
  have b:=XeP e c O h
  have:=b.many
  refine⟨O,?_⟩
  rw[b.ends];refine AW (Fy _ _) ?_
  rw[Aq];omega
 ·cases h
theorem Xdc(h:Ux p m n=0):∃b,Qt p m n=some b/\FndI p m n.toNat b.list.length b/\n.toNat<=65536/\VX p=0/\Gb m=true:=by
 unfold Ux at h
 split at h
 ·rename_i d
  have i:Qt p m n=QX p m n.toNat:=if_pos d
  obtain⟨g,o,q,e⟩:=d
  split at h
  ·rename_i j
   obtain⟨b,c⟩:=Option.isSome_iff_exists.1 j
   exact⟨b,by rw[i,c],XeP e g O c,O,e,g⟩
  ·cases h
 ·cases h
def Bq(b:Fnd):List By:=b.ends.map λk=>GS (b.list.getD k zb)
theorem XrU(b:Fnd):tl (Bq b)=Xmr b:=by
 unfold tl Bq Xmr
 rw[Fj];rfl
def Xsn(p:Prg)(m:UInt8)(n:Int)(l:List By):Prop:=(Ux p m n≠0->l=[])/\(Ux p m n=0->l≠[]/\l.length<=65536/\QO (tl l)/\∀x,x∈tl l↔Xnc p m x)
theorem XgR(cs:List Value)(p:Prg)(o:World)(hP:ProgAt o cs p)(hN:NeedsAt o)(j:UInt8)(n:Int)(N:-9223372036854775808<=n)(V:n<=9223372036854775807):
 Calls prog 9 #[.agg cs.toArray,YtajfpcgbnflceaaGreatDoor.b8 j,Ve n] o λe w'=>∃(A:Option Addr)(c:Nat)(q:List By),e=.returned (.tuple #[.slice A q.length c,Ve (Ux p j n)])/\Xsn p j n q/\Own o none w' [.rws 63 38 (.slice A q.length c) (q.map (bs 38))]:=by
 have H:=Own.start o none
 have T:=hP
 obtain⟨LA,LC,IA,IC,TA,TC,h,a6,hp⟩:=hP
 obtain⟨c1,c2,c3,B,c5,rfl⟩:=Xa2 (Uk hp.cond)
 have a1:=hp.cs
 subst a1;refine VU func9 Z ntmps9 Z (λa F=>?_);refine gg 2 ?_;clear F a;intro a F
 refine zBx H F ?_;clear F a H;intro b3 a w F H
 refine gg 8 ?_;clear F a;intro a F;refine Xi call17 F Z (Xf6 _ p _ (T.own H) (hN.own H) j n N V) ?_;rintro e w ⟨A1,k1,A2,k2,A3,k3,rfl,v⟩;replace H:=H.join v;clear v;refine zq ?_;clear F a;intro a F;refine gg 3 ?_;clear F a;intro a F
 refine zAl zeroValue72 H F ?_;clear F a H;intro b8 a w F H
 refine sSr H 0 ?si F Z Z Z ?s1 Z Z ?_
 case si=>exact VT sizeOf72
 case s1=>rfl
 clear H;intro w H
 refine gg 9 ?_;clear F a;intro a F;refine zi (λg=>?_) λg=>?_
 ·
  refine gg 7 ?_;clear F a;intro a F;refine Gy results9 F Z Z ?_
  (have D:Ux p j n≠0:=g
   exact⟨none,0,[],Z,⟨λ_=>rfl,λh=>absurd h D⟩,(H.nilRws 63 38).pick 0 Z⟩)
 have D:Ux p j n=0:=g
 obtain⟨b,C,W,a5,_,_⟩:=Xdc D
 rw[C]at H F
 have a8:=(Xbe C).2
 have U:fo (some b)=b:=rfl
 rw[U]at H F
 have X:∀i,i<=b.ends.length->((Bq b).take i).length=i:=λi hi=>by rw[Aj];unfold Bq;rw[AH];omega
 refine gg 4 ?_;clear F a;intro a F
 replace H:=H.nilRws 63 38
 refine gg 10 ?_;clear F a;intro a F
 refine cLoopS [8,24,25] (λm u w=>∃(i:Nat)(G:Option Addr)(B:Nat),m=b.ends.length-i/\u=[(10,.slice G ((Bq b).take i).length B),(26,Ve ((i:Nat):Int))]/\i<=b.ends.length/\Own o none w [.rws 63 38 (.slice G ((Bq b).take i).length B) (((Bq b).take i).map (bs 38)),.rws 85 142 (.slice A1 b.list.length k1) (b.list.map (bs 142)),.rws 3 1 (.slice A3 b.ends.length k3) (b.ends.map enC),.blk b8 [.slice A1 b.list.length k1,.slice A2 b.links.length k2,.slice A3 b.ends.length k3] 72]) F (b.ends.length) [(10,.slice none 0 0),(26,Ve ((0:Nat):Int))] ?_ ?_
 ·exact⟨0,none,0,Z,Z,O,H.sel [0,2,4,1] Z Z⟩
 clear F
 clear H
 intro m u a w hI F
 obtain⟨i,G,B,rfl,rfl,hi,H⟩:=hI
 refine gg 6 ?_;clear F a;intro a F;refine zi (λK=>?_) λK=>?_
 ·
  have a2:i<b.ends.length:=O
  obtain⟨k,S⟩:∃k,b.ends[i]?=some k:=⟨_,AA a2⟩
  obtain⟨s,I,_⟩:=(Xaw W).1 (AF S)
  have P:k<b.list.length:=(AB.1 I).1
  have J:b.list.getD k zb=s:=by rw[AS,I];rfl
  obtain⟨bE,oE,rfl,Q⟩:=H.rowsAt 2 Z (λr hr=>by obtain⟨x,_,rfl⟩:=AT.1 hr;rfl) (by decide) i (enC k) (by rw[AD,S];rfl)
  obtain⟨bS,oS,rfl,aA⟩:=H.rowsAt 1 Z (LR _) (by decide) k (bs 142 s) (by rw[AD,I];rfl)
  have R:(Bq b).take (i+1)=(Bq b).take i++[GS s]:=by
   rw[At]
   unfold Bq
   rw[AD,S]
   show _++[GS (b.list.getD k zb)]=_
   rw[J]
  refine gg 6 ?_;clear F a;intro a F;refine sLd isAgg3 F Z Z Z (by simpa using Q 0 _ Z) ?_;clear F a;intro a F;refine gg 7 ?_;clear F a;intro a F
  refine sIx underlying68 sizeOf85 F Z Z Z Z ?_ ?_
  focus exact P
  clear F a;intro a F
  refine Qo underlying85 Z sizeOf85 F Z Z Z (by obtain⟨b',o',g1,g2⟩:=H.rowsAt 1 Z (LR _) (by decide) k (bs 142 s) (by rw[AD,I];rfl);cases g1;exact g2) ?_;clear F a;intro a F
  refine zCa F (XjQ s _) H ?_;clear F a H;intro a w F H
  refine XeM H underlying36 sizeOf63 zeroValue63 Z F Z Z Z Z Z ?_;clear F a H;intro a7 a w F H
  refine G7 (bytes:=38) H 1 underlying36 typeInfo63 Z Z Z Z Z Z F Z Z Z Z Z (H.whole 0 Z) Z ?s1 ?s2 ?_
  case s1=>rfl
  case s2=>(rw[AH,X i hi];omega)
  clear F a H;intro M a3 a w F H;refine gg 6 ?_;clear F a;intro a F
  have e2:((Bq b).take i).map (bs 38)++[bs 38 (GS s)]=((Bq b).take (i+1)).map (bs 38):=by rw[R,Ae];rfl
  have e3:(((Bq b).take i).map (bs 38)++[bs 38 (GS s)]).length=((Bq b).take (i+1)).length:=by rw[e2,AH]
  rw[e3]at F H;rw[e2]at H
  exact⟨_,O,_,⟨i+1,M,a3,Z,Z,O,H.sel [1,2,3,4] Z Z⟩,F.tt⟩
 have a9:i=b.ends.length:=O
 have E:(Bq b).take i=Bq b:=FD (by unfold Bq;rw[AH];omega)
 rw[E]at F H
 have L:(Bq b).length=b.ends.length:=by unfold Bq;rw[AH]
 have t:Bq b≠[]:=λe=>by
  have:b.ends=[]:=Al (by rw[<-L,e];rfl)
  exact XmF W this
 refine gg 4 ?_;clear F a;intro a F;refine Xi call16 F Z (XeD G B (Bq b) _ (H.rowsAt 0 Z (M7 _) (by decide)) O t) ?_;rintro e w ⟨A5,c5,q,rfl,a4,z,d,v⟩;replace H:=H.join v;clear v;refine zq ?_;clear F a;intro a F;refine gg 4 ?_;clear F a;intro a F;refine Gy results9 F Z Z ?_
 (rw[D]
  refine⟨A5,c5,q,Z,⟨λh=>absurd D h,λ_=>⟨?_,?_,z,λx=>?_⟩⟩,H.pick 0 Z⟩
  ·intro e
   obtain⟨y,hy⟩:=List.exists_mem_of_ne_nil _ t
   have:=(d (toL 38 y)).2 (AT.2 ⟨y,hy,Z⟩)
   rw[e]at this;cases this
  ·omega
  ·rw[d,XrU]
   exact Xmq W)
theorem XhL(A B:Option Addr)(C D:Nat)(l q:List By)(c:World)(G:RowsAt c A 38 (l.map (bs 38)))(K:RowsAt c B 38 (q.map (bs 38)))(M:l.length<=65536)(s:tl l=tl q):
 Calls prog 10 #[.slice A l.length C,.slice B q.length D] c λe E=>e=.returned (.bool true)/\Below c.heap.size c E:=by
 have H:=Own.start c none
 have p:l.length=q.length:=by have:=congrArg List.length s;simpa[tl]using this
 refine VU func10 Z ntmps10 Z (λa F=>?_)
 refine gg 14 λa F=>zi (λn=>?_) λn=>?_
 ·
  omega
 refine gg 9 λa F=>?_
 refine cLoopS [0,1,12] (λm d w=>∃(j:Nat),m=l.length-j/\d=[(13,Ve ((j:Nat):Int))]/\j<=l.length/\Own c none w []) F (l.length) [(13,Ve ((0:Nat):Int))] ?_ ?_
 ·exact⟨0,Z,Z,AU _,H⟩
 clear F H;intro m d a w J F
 obtain⟨j,rfl,rfl,P,H⟩:=J
 refine gg 6 λa F=>zi (λg=>?_) λg=>?_
 ·
  have i:j<l.length:=O
  obtain⟨x,r⟩:∃x,l[j]?=some x:=⟨_,AA i⟩
  obtain⟨y,u⟩:∃y,q[j]?=some y:=⟨_,AA O⟩
  obtain⟨N,R,rfl,z⟩:=G j (bs 38 x) (by rw[AD,r];rfl)
  obtain⟨Q,L,rfl,I⟩:=K j (bs 38 y) (by rw[AD,u];rfl)
  have o:toL 38 x=toL 38 y:=by
   have t:(tl l)[j]?=some (toL 38 x):=by unfold tl;rw[AD,r];rfl
   have v:(tl q)[j]?=some (toL 38 y):=by unfold tl;rw[AD,u];rfl
   rw[s,v]at t
   exact(Ac t).symm
  refine gg 9 λa F=>?_
  refine zRO H λH=>?_
  refine gg 3 λa F=>?_
  refine Xe 3 Z F Z Z (λw H=>L3 underlying63 Z sizeOf63 F Z (H.argR z)) H qq0 λa F=>?_
  refine gg 3 λa F=>?_
  refine Xe 7 Z F Z Z (λw H=>L3 underlying63 Z sizeOf63 F Z (H.argR I)) H qq0 (Xg 8 Z Z (λa F w=>Gt F Z Z (Xqg eT63 gT63 Z)) H qq0 λa F=>?_)
  refine gg 2 λa F=>zi (λb=>?_) λb=>?_
  ·
   rw[toL_eq.1 o]at b
   cases b
  refine gg 5 λa F=>?_
  exact⟨_,O,_,⟨j+1,Z,Z,O,H⟩,F.tt⟩
 refine gg 7 λa F=>?_
 exact⟨Z,H.below⟩
def Xqi(p:Prg):Prop:=p.threads.length<=3/\(p.threads.map List.length).sum<=8/\VX p=0
def Xow(l:List (List Ins)):Int:=l.foldl (λn t=>IntKind.i64.wrap (n+(t.length:Int))) 0
theorem Xf5:∀l:List (List Ins),l.length<=4->(∀t∈l,t.length<=12)->Xow l=((l.map List.length).sum:Nat):=by
 have b:∀(l:List (List Ins)) (z:Nat),z+l.length*12<=1000->(∀t∈l,t.length<=12)->l.foldl (λn t=>IntKind.i64.wrap (n+(t.length:Int))) (z:Int)=((z+(l.map List.length).sum:Nat):Int):=by
  intro l
  induction l with
  |nil=>intro z _ _;simp
  |cons t l d=>
   intro z j c
   have g:=c t (by simp)
   rw[AY]at j
   rw[Fa,show IntKind.i64.wrap ((z:Int)+(t.length:Int))=((z+t.length:Nat):Int) by rw[IntKind.wrap_i64];omega,d _ O (λu i=>c u (by simp[i]))]
   simp;omega
 intro l g e
 have h:=b l 0 O e
 simpa[Xow]using h
theorem XdU:(p.threads.length<=3/\Xow p.threads<=8/\VX p=0)↔Xqi p:=by
 unfold Xqi
 refine and_congr_right λe=>and_congr_left λd=>?_
 rw[Xf5 p.threads O λt c=>by
  obtain⟨i,b⟩:=Af.1 c
  exact(valid d).long i t b]
 omega
theorem Xpp(t:List Value)(p:Prg)(d:World)(v:ProgAt d t p)(V:NeedsAt d):
 Calls prog 4 #[.agg t.toArray] d λe D=>∃c:Bool,e=.returned (.bool c)/\(c=true↔Xqi p)/\Below d.heap.size d D:=by
 have H:=Own.start d none
 have q:=v
 obtain⟨K,W,G,P,T,I,h,E,i⟩:=v
 obtain⟨L,y,C,S,Q,rfl⟩:=Xa2 (Uk i.cond)
 have r:=i.cs
 subst r
 have U:=i.threadsN
 refine VU func4 Z ntmps4 Z (λa F=>?_)
 refine gg 2 λa F=>?_
 refine zBx H F λA a w F H=>?_
 refine gg 15 λa F=>?_
 refine cLoopS [1,7,8] (λm g w=>∃(j:Nat),m=p.threads.length-j/\g=[(3,Ve (Xow (p.threads.take j))),(9,Ve ((j:Nat):Int))]/\j<=p.threads.length/\Own d none w [.blk A ([.string p.name,.slice K p.locs.length W,.slice G p.init.length P,.slice T p.threads.length I,b8 p.ask]++[L,y,C,S,Q]) 29]) F (p.threads.length) [(3,Ve 0),(9,Ve ((0:Nat):Int))] ?_ ?_
 ·exact⟨0,Z,Z,AU _,H⟩
 clear F H;intro m g a w M F
 obtain⟨j,rfl,rfl,hj,H⟩:=M
 refine gg 6 λa F=>zi (λo=>?_) λo=>?_
 ·
  have b:j<p.threads.length:=O
  obtain⟨l,u⟩:∃l,p.threads[j]?=some l:=⟨_,AA b⟩
  obtain⟨bT,X,B,CB,rfl,R,N,J⟩:=i.threads j l u
  have n:Xow (p.threads.take (j+1))=IntKind.i64.wrap (Xow (p.threads.take j)+(l.length:Int)):=by unfold Xow;rw[At,u,FW,Fs];rfl
  refine gg 13 λa F=>?_
  refine Xh F Z Z bAdd λa F=>?_
  refine gg 6 λa F=>?_
  exact⟨_,O,_,⟨j+1,Z,by rw[n],O,H⟩,F.tt⟩
 have b:j=p.threads.length:=O
 refine gg 8 λa F=>?_
 refine zSp 22 F (λz F=>?_) λz F=>?_
 ·
  refine gg 4 λa F=>?_
  refine zSp 26 F (λs F=>?_) λs F=>?_
  ·
   refine gg 1 λa F=>?_
   refine zCa F (Qb _ p _ (q.own H) (V.own H)) H λa w F H=>?_
   refine gg 6 λa F=>?_
   subst b
   refine⟨_,Z,?_,H.below⟩
   rw[<-XdU]
   simp only[FT,beq_iff_eq,decide_eq_true_eq]at *
   exact⟨λh=>⟨O,s,h⟩,λh=>h.2.2⟩
  refine gg 8 λa F=>?_
  subst b
  refine⟨_,Z,?_,H.below⟩
  rw[<-XdU]
  simp only[FT,beq_iff_eq,decide_eq_true_eq]at *
  exact⟨λh=>absurd h (by simp),λh=>absurd h.2.1 O⟩
 refine gg 12 λa F=>?_
 subst b
 refine⟨_,Z,?_,H.below⟩
 rw[<-XdU]
 simp only[FT,beq_iff_eq,decide_eq_true_eq]at *
 exact⟨λh=>absurd h (by simp),λh=>absurd h.2.1 O⟩
theorem Xj3(W:List Value)(p:Prg)(M d:UInt8)(o:World)(X:ProgAt o W p)(E:VX p=0)(hN:NeedsAt o)(hT:TabAt o)(P:Tab6At o)(s:∀G∈NC p (V5 p 16).1,∀q∈G,GoodP p.init.length q)(J:∀G∈JT p (V5 p 16).1,∀ws∈Qn (UE p.init G G.length) p.init.length,1<=ws.length)(hM:M=2\/M=3)(hok:CandGo p 3000->∀v∈Uf p,∃n rk,RightOk n v rk)(z:CandGo p 3000->∃v∈Uf p,GU M v)(K:NX p d 3000)(Q:CandGo p 3000->∀t,Bz p M t↔Xnc p d t):
 Calls prog 5 #[.agg W.toArray,b8 M,b8 d] o λe w'=>e=.returned (.bool true)/\Below o.heap.size o w':=by
 have H:=Own.start o none
 have B:=X
 have g:Ux p d 3000=0\/Ux p d 3000=5:=by unfold Ux;rw[if_pos K];split<;>simp
 obtain⟨LA,LC,IA,IC,TA,TC,h,a1,hp⟩:=X
 obtain⟨d1,d2,d3,d4,d5,rfl⟩:=Xa2 (Uk hp.cond)
 have N:=hp.cs
 subst N;refine VU func5 Z ntmps5 Z (λa F=>?_)
 refine gg 2 λa F=>?_
 refine zBx H F λb3 a w F H=>?_
 refine gg 6 λa F=>?_
 refine Xi call8 F Z (Xkx _ p M 3000 _ (B.own H) E (hN.own H) (hT.own H) (P.own H) O s J hM hok z) ?_;rintro e w j
 obtain⟨l,A,C,U,rfl,b,I,D⟩:=Xkw j
 replace H:=H.join D
 clear D j
 have i:U=0\/U=5:=b.elim (λh=>.inr h.2) (λh=>.inl h.1)
 refine zq λa F=>?_
 refine gg 10 λa F=>?_
 refine Xi call9 F Z (XgR _ p _ (B.own H) (hN.own H) d 3000 (by decide) (by decide)) ?_;rintro e w ⟨A2,c2,V,rfl,c,D⟩;replace H:=H.join D;clear D
 refine zq λa F=>?_
 refine gg 12 λa F=>?_
 refine zSp 25 F (λa2 F=>?_) λa2 F=>?_
 ·
  refine gg 4 λa F=>?_
  refine cIfT F Z ?_
  refine gg 5 λa F=>?_
  refine zSp 31 F (λT F=>?_) λT F=>?_
  ·
   refine gg 7 λa F=>?_
   refine zSp 38 F (λu F=>?_) λu F=>?_
   ·
    refine gg 8 λa F=>?_
    refine⟨?_,H.below⟩
    clear F H
    generalize Ux p d 3000=m at *
    clear c b
    rfl
   refine gg 8 λa F=>?_
   refine⟨?_,H.below⟩
   clear F H
   generalize Ux p d 3000=m at *
   clear c b
   (rcases i with rfl|rfl<;>rcases g with rfl|rfl<;>first|rfl|contradiction)
  refine gg 4 λa F=>?_
  refine zSp 35 F (λS F=>?_) λS F=>?_
  ·
   refine gg 3 λa F=>?_
   refine zSp 38 F (λu F=>?_) λu F=>?_
   ·
    refine gg 8 λa F=>?_
    refine⟨?_,H.below⟩
    clear F H
    generalize Ux p d 3000=m at *
    clear c b
    rfl
   refine gg 8 λa F=>?_
   refine⟨?_,H.below⟩
   clear F H
   generalize Ux p d 3000=m at *
   clear c b
   (rcases i with rfl|rfl<;>rcases g with rfl|rfl<;>first|rfl|contradiction)
  refine gg 11 λa F=>?_
  refine⟨?_,H.below⟩
  clear F H
  generalize Ux p d 3000=m at *
  clear c b
  (rcases i with rfl|rfl<;>rcases g with rfl|rfl<;>contradiction)
 refine gg 5 λa F=>zi (λR=>?_) λR=>?_
 ·
  refine gg 5 λa F=>?_
  refine zSp 31 F (λT F=>?_) λT F=>?_
  ·
   refine gg 7 λa F=>?_
   refine zSp 38 F (λu F=>?_) λu F=>?_
   ·
    refine gg 8 λa F=>?_
    refine⟨?_,H.below⟩
    clear F H
    generalize Ux p d 3000=m at *
    clear c b
    rfl
   refine gg 8 λa F=>?_
   refine⟨?_,H.below⟩
   clear F H
   generalize Ux p d 3000=m at *
   clear c b
   (rcases i with rfl|rfl<;>rcases g with rfl|rfl<;>first|rfl|contradiction)
  refine gg 4 λa F=>?_
  refine zSp 35 F (λS F=>?_) λS F=>?_
  ·
   refine gg 3 λa F=>?_
   refine zSp 38 F (λu F=>?_) λu F=>?_
   ·
    refine gg 8 λa F=>?_
    refine⟨?_,H.below⟩
    clear F H
    generalize Ux p d 3000=m at *
    clear c b
    rfl
   refine gg 8 λa F=>?_
   refine⟨?_,H.below⟩
   clear F H
   generalize Ux p d 3000=m at *
   clear c b
   (rcases i with rfl|rfl<;>rcases g with rfl|rfl<;>first|rfl|contradiction)
  refine gg 11 λa F=>?_
  refine⟨?_,H.below⟩
  clear F H
  generalize Ux p d 3000=m at *
  clear c b
  (rcases i with rfl|rfl<;>rcases g with rfl|rfl<;>contradiction)
 refine gg 2 λa F=>?_
 have L:tl l=tl V:=by
  obtain⟨_,h1,h2,h3⟩:=b.resolve_left (λh9=>O)
  obtain⟨_,_,h5,h6⟩:=c.2 O
  exact Qx h2 h5 λx=>(h3 x).trans ((Q h1 x).trans (h6 x).symm)
 refine gg 3 λa F=>?_
 refine zCa F (XhL A A2 C c2 l V _ (H.rowsAt 1 Z (λr E=>by obtain⟨y,_,rfl⟩:=AT.1 E;exact bs_length _ _) O) (H.rowsAt 0 Z (λr E=>by obtain⟨y,_,rfl⟩:=AT.1 E;exact bs_length _ _) O) I L) H λa w F H=>?_
 refine gg 4 λa F=>?_
 refine⟨?_,H.below⟩
 clear F H
 generalize Ux p d 3000=m at *
 clear c b
 rfl
structure TopOk (p:Prg) (M:UInt8) (most:Nat):Prop where
 good:∀ps∈NC p (V5 p 16).1,∀q∈ps,GoodP p.init.length q
 w1:∀ps∈JT p (V5 p 16).1,∀ws∈Qn (UE p.init ps ps.length) p.init.length,1<=ws.length
 ok:CandGo p most->∀v∈Uf p,∃n rk,RightOk n v rk
 some:CandGo p most->∃v∈Uf p,GU M v
def stI(x:UInt8):Ins:=⟨2,0,x,false,1,false,0,0,0,0⟩
def ldI(x:UInt8):Ins:=⟨1,0,x,false,0,false,0,0,0,0⟩
def sbP:Prg where
 name:=⟨#[115,98]⟩
 locs:=[⟨#[120]⟩,⟨#[121]⟩]
 init:=[0,0]
 threads:=[[stI 0,ldI 1],[stI 1,ldI 0]]
 ask:=1
 cond:=.mk 0 0 0 0 []
def Xim(d c b:Nat):List Value:=[.string ⟨#[115,98]⟩,.slice (some ⟨d,0,none⟩) 2 2,.slice (some ⟨c,0,none⟩) 2 2,.slice (some ⟨b,0,none⟩) 2 2,b8 1,b8 0,b8 0,b8 0,b8 0,.slice none 0 0]
theorem BR(x:UInt8)(b:World):Va 11 #[b8 x] b (.agg (stI x).cells.toArray):=by
 refine Vb func11 ntmps11 λH a F=>?_
 refine gg 2 λa F=>?_
 refine zAl zeroValue43 H F λd a w F H=>?_
 refine gg 4 λa F=>?_
 refine sBd (places:=[(0,1),(1,1)]) zeroValue41 underlying41 Y F Z Z Z Z (qBd (places:=[(0,1),(1,1),(2,1),(3,2),(5,2),(7,1),(8,1),(9,1)]) zeroValue43 underlying43 Y Z Z Z Z λa F=>?_)
 refine sSr H 0 ?si F Z Z Z ?s1 Z Z ?_
 case si=>exact VT sizeOf43
 case s1=>rfl
 clear H;intro w H
 refine gg 2 λa F=>?_
 refine Nf results11 F Z underlying43 Z H 0 Z sizeOf43 Z ?_
 exact⟨Z,H.below⟩
theorem BQ(x:UInt8)(b:World):Va 12 #[b8 x] b (.agg (ldI x).cells.toArray):=by
 refine Vb func12 ntmps12 λH a F=>?_
 refine gg 2 λa F=>?_
 refine zAl zeroValue43 H F λd a w F H=>?_
 refine gg 4 λa F=>?_
 refine sBd (places:=[(0,1),(1,1),(2,1),(3,2),(5,2),(7,1),(8,1),(9,1)]) zeroValue43 underlying43 Y F Z Z Z Z λa F=>?_
 refine sSr H 0 ?si F Z Z Z ?s1 Z Z ?_
 case si=>exact VT sizeOf43
 case s1=>rfl
 clear H;intro w H
 refine gg 2 λa F=>?_
 refine Nf results12 F Z underlying43 Z H 0 Z sizeOf43 Z ?_
 exact⟨Z,H.below⟩
def XqM(e d g b c:Nat):List Res:=[.blk g [.slice (some ⟨b,0,none⟩) 2 2,.slice (some ⟨c,0,none⟩) 2 2] 33,.blk c ([stI 1,ldI 0].map Ins.cells).flatten 43,.blk b ([stI 0,ldI 1].map Ins.cells).flatten 43,.blk d [b8 0,b8 0] 5,.blk e [.string ⟨#[120]⟩,.string ⟨#[121]⟩] 9]
theorem Nn{b sz:Nat}{rows:List (List Value)}(h:w.rangeAt b 0 rows.flatten)(e:∀r∈rows,r.length=sz):RowsAt w (some ⟨b,0,none⟩) sz rows:=λj c g=>by
 refine⟨b,0,Z,λk v d=>?_⟩
 have i:∀(rows:List (List Value)),(∀r∈rows,r.length=sz)->∀j c,rows[j]?=some c->c[k]?=some v->rows.flatten[j*sz+k]?=some v:=by
  intro rows
  induction rows with
  |nil=>intro _ j c h;simp at h
  |cons r rows p=>
   intro e j c g d
   rw[FO]
   cases j with
   |zero=>
    cases g
    rw[IZ,As,AP (AB.1 d).1]
    exact d
   |succ j=>
    have m:=e r (by simp)
    rw[AQ (by rw[m,FB];omega),m,show(j+1)*sz+k-sz=j*sz+k by rw[FB];omega]
    exact p (λr o=>e r (by simp[o])) j c (by simpa using g) d
 have n:=h (j*sz+k) v (i rows e j c g d)
 rwa [<-FY]at n
theorem Xii{u:World}{row:Option Nat}{e g d m i:Nat}(H:Own u row w (XqM e g d m i)):ProgAt w (Xim e g d) sbP:=by
 refine⟨some ⟨e,0,none⟩,2,some ⟨g,0,none⟩,2,some ⟨d,0,none⟩,2,1,[b8 0,b8 0,b8 0,b8 0,.slice none 0 0],?_⟩
 have o:=H.blk 0 Z
 have B:=H.whole 1 Z
 have z:=H.whole 2 Z
 have p:=H.whole 3 Z
 have A:=H.whole 4 Z
 have c:∀(l:List Ins)(r:List Value),r∈l.map Ins.cells->r.length=10:=λl r q=>by
  obtain⟨x,_,rfl⟩:=AT.1 q;rfl
 refine⟨Z,by decide,Nn (sz:=1) (rows:=[[_],[_]]) A (by simp),by decide,by decide,?_,Nn (sz:=1) (rows:=[[_],[_]]) p (by simp),by decide,?_,by decide,none,0,Z,by decide,λj y b=>by simp at b⟩
 ·intro s v
  have:s=⟨#[120]⟩\/s=⟨#[121]⟩:=by simpa[sbP]using v
  rcases this with rfl|rfl<;>decide
 ·intro j t b
  match j,b with
  |0,b=>cases b;exact⟨d,0,some ⟨m,0,none⟩,2,Z,o.cell 0 Z,Nn z (c _),by decide⟩
  |1,b=>cases b;exact⟨d,0,some ⟨i,0,none⟩,2,Z,o.cell 1 Z,Nn B (c _),by decide⟩
  |n+2,b=>simp[sbP]at b
def Mh(M:UInt8)(n:Nat):Prop:=∀l:List By,QO (tl l)->(∀t,t∈tl l↔Bz sbP M t)->l.length=n
theorem Xbj(g:World)(I:NeedsAt g)(A:TabAt g)(n:Tab6At g)(E:VX sbP=0)(o:TopOk sbP 2 100)(p:TopOk sbP 3 100)(i:¬JW sbP 100)(t:Mh 2 3)(q:Mh 3 4):
 Va 6 #[] g (.bool true):=by
 refine Vb func6 ntmps6 λH a F=>?_
 refine gg 14 λa F=>?_
 refine sBs H underlying22 sizeOf9 zeroValue9 Z F Z Z Z Z Z λb8 a w F H=>?_;refine sBs H underlying23 sizeOf5 zeroValue5 Z F Z Z Z Z Z λB a w F H=>?_
 refine gg 1 λa F=>?_
 refine NL F Z Z Z Z (⟨11,[],[],Z,call11,BR 0 _⟩) ?_;rintro e w ⟨rfl,d⟩;replace H:=H.grow d;clear d
 refine zq λa F=>?_
 refine gg 1 λa F=>?_
 refine NL F Z Z Z Z (⟨12,[],[],Z,call12,BQ 1 _⟩) ?_;rintro e w ⟨rfl,d⟩;replace H:=H.grow d;clear d
 refine zq λa F=>?_
 refine sBsR (rows:=[(stI 0).cells,(ldI 1).cells]) H underlying33 sizeOf43 zeroValue43 Z F Z Z Z Z Z λr a w F H=>?_
 refine gg 1 λa F=>?_
 refine NL F Z Z Z Z (⟨11,[],[],Z,call11,BR 1 _⟩) ?_;rintro e w ⟨rfl,d⟩;replace H:=H.grow d;clear d
 refine zq λa F=>?_
 refine gg 1 λa F=>?_
 refine NL F Z Z Z Z (⟨12,[],[],Z,call12,BQ 0 _⟩) ?_;rintro e w ⟨rfl,d⟩;replace H:=H.grow d;clear d
 refine zq λa F=>?_
 refine sBsR (rows:=[(stI 1).cells,(ldI 0).cells]) H underlying33 sizeOf43 zeroValue43 Z F Z Z Z Z Z λy a w F H=>?_;refine sBs H underlying24 sizeOf33 zeroValue33 Z F Z Z Z Z Z λj a w F H=>?_;refine sBd (places:=[(0,1),(1,1),(2,1),(3,1),(4,1),(5,5)]) zeroValue29 underlying29 Y F Z Z Z Z λa F=>?_
 refine zAl zeroValue29 H F λK a w F H=>?_
 refine sSr H 0 ?si F Z Z Z ?s1 Z Z ?_
 case si=>exact VT sizeOf29
 case s1=>rfl
 clear H;intro w H
 refine gg 1 λa F=>?_
 replace H:Own g none w (.blk K (Xim b8 B j) 29::XqM b8 B j r y):=H
 refine gg 3 λa F=>?_
 refine Xi call8 F Z (Xkx _ sbP 2 100 _ (Xii H.tail) E (I.own H) (A.own H) (n.own H) O o.good o.w1 (.inl Z) o.ok o.some) ?_;rintro e w b
 obtain⟨G,T,Q,s,rfl,c,D,m⟩:=Xkw b
 replace H:=H.join m
 clear m b
 obtain⟨rfl,L⟩:s=0/\G.length=3:=c.elim (λh=>absurd h.1 i) (λh=>⟨h.1,t G h.2.2.1 h.2.2.2⟩)
 refine zq λa F=>?_
 refine gg 9 λa F=>?_
 refine Xi call8 F Z (Xkx _ sbP 3 100 _ (Xii H.tail.tail) E (I.own H) (A.own H) (n.own H) O p.good p.w1 (.inr Z) p.ok p.some) ?_;rintro e w b
 obtain⟨C,S,R,u,rfl,c,z,m⟩:=Xkw b
 replace H:=H.join m
 clear m b
 obtain⟨rfl,v⟩:u=0/\C.length=4:=c.elim (λh=>absurd h.1 i) (λh=>⟨h.1,q C h.2.2.1 h.2.2.2⟩)
 refine zq λa F=>?_
 refine gg 11 λa F=>?_
 refine zSp 34 F (λP F=>?_) λP F=>?_
 ·
  refine gg 4 λa F=>?_
  refine zSp 38 F (λN F=>?_) λN F=>?_
  ·
   refine gg 5 λa F=>?_
   refine zSp 43 F (λM F=>?_) λM F=>?_
   ·
    refine gg 8 λa F=>?_
    refine⟨?_,H.below⟩
    (rw[v];rfl)
   refine gg 8 λa F=>?_
   refine⟨?_,H.below⟩
   (exfalso;omega)
  refine gg 13 λa F=>?_
  refine⟨?_,H.below⟩
  contradiction
 refine gg 17 λa F=>?_
 refine⟨?_,H.below⟩
 contradiction
theorem XhN(z:List Value)(p:Prg)(c:World)(D:ProgAt c z p)(o:NeedsAt c)(s:TabAt c)(d:Tab6At c)(hok:Xqi p->TopOk p 2 3000)(r:Xqi p->CandGo p 3000->∀t,Bz p 2 t↔Xnc p 1 t)(B:VX sbP=0)(v:TopOk sbP 2 100)(C:TopOk sbP 3 100)(g:¬JW sbP 100)(j:Mh 2 3)(m:Mh 3 4):
 Calls prog 3 #[.agg z.toArray] c λe E=>e=.returned (.bool true)/\Below c.heap.size c E:=by
 have H:=Own.start c none
 have i:=D
 obtain⟨Q,W,N,S,V,P,h,G,A⟩:=D
 obtain⟨R,J,K,U,T,rfl⟩:=Xa2 (Uk A.cond)
 have u:=A.cs
 subst u;refine VU func3 Z ntmps3 Z (λa F=>?_)
 refine gg 2 λa F=>?_
 refine zBx H F λL a w F H=>?_
 refine gg 5 λa F=>?_
 refine Xi call4 F Z (Xpp _ p _ (i.own H) (o.own H)) ?_;rintro e w ⟨M,rfl,q,y⟩;replace H:=H.grow y;clear y
 refine zq λa F=>?_
 refine gg 2 λa F=>?_
 refine zSp 6 F (λh6 F=>?_) λh6 F=>?_
 ·
  refine gg 4 λa F=>?_
  refine zCa F (Xbj _ (o.own H) (s.own H) (d.own H) B v C g j m) H λa w F H=>?_
  refine gg 5 λa F=>?_
  refine⟨?_,H.below⟩
  rfl
 have b:Xqi p:=q.1 (by simpa using h6)
 have n:=hok b
 refine gg 1 λa F=>?_
 refine zCa F (Xj3 _ p 2 1 _ (i.own H) b.2.2 (o.own H) (s.own H) (d.own H) n.good n.w1 (.inl Z) n.ok n.some ⟨Z,by decide,by decide,b.2.2⟩ (r b)) H λa w F H=>?_
 refine gg 2 λa F=>?_
 refine F.split 10 Z (λI F=>?_) λI F=>?_
 ·
  refine zCa F (Xbj _ (o.own H) (s.own H) (d.own H) B v C g j m) H λa w F H=>?_
  refine gg 5 λa F=>?_
  refine⟨?_,H.below⟩
  rfl
 refine gg 6 λa F=>?_
 refine⟨?_,H.below⟩
 contradiction
theorem Eu:VX sbP=0:=by kernel_rfl
theorem Xih:V5 sbP 16=([0,1],0):=by kernel_rfl
theorem XeL:∀l∈sbP.threads,(UI l (V5 sbP 16).1 4096).2=0:=by
 have h:(sbP.threads.all λl=>(UI l (V5 sbP 16).1 4096).2==0)=true:=by kernel_rfl
 intro l b
 exact beq_iff_eq.1 (Ah.1 h l b)
theorem Ew:(Uf sbP).length=4:=by kernel_rfl
theorem Xij:¬JW sbP 100:=by
 rintro(h|h|h)
 ·exact h (by rw[Xih])
 ·rcases h with⟨l,g,h⟩|⟨j,i,h⟩|⟨d,c,h⟩
  ·exact h (XeL l g)
  ·have b:((List.range 3).all λj=>Nat.ble (Xhh (NC sbP (V5 sbP 16).1) j) 4096)=true:=by kernel_rfl
   have e:j∈List.range 3:=Ab.2 (by have:sbP.threads.length=2:=rfl;omega)
   exact absurd (FG (Ah.1 b j e)) O
  ·have b:((JA ((NC sbP (V5 sbP 16).1).map List.length)).all λd=>Nat.ble (V1 sbP.init (UF (NC sbP (V5 sbP 16).1) d) (UF (NC sbP (V5 sbP 16).1) d).length) 48)=true:=by kernel_rfl
   exact absurd (FG (Ah.1 b d c)) O
 ·rw[Ew]at h;omega
section
variable(M:UInt8)(v:XcV)(l:List Nat)
def frb(i j:Nat):Bool:=(List.range 6).any λk=>v.rf.has k i&&v.co.has k j
def fenb(i j:Nat):Bool:=(plL v.evs (J5 3) v.evs.length).any λk=>v.po.has i k&&v.po.has k j
def Xpg(i j:Nat):Bool:=v.po.has i j&&XkR v.evs i&&XkR v.evs j&&(M==2||Ek v.evs i 1||Ek v.evs j 2||fenb v i j||Xac v.evs i 3||Xac v.evs j 3)
def cohR(i j:Nat):Bool:=(v.po.has i j&&Xbm v.evs i j)||v.rf.has i j||v.co.has i j||frb v i j
def ordR(i j:Nat):Bool:=Xpg M v i j||rfM M v i j||v.co.has i j||frb v i j
def Xqh(f:Nat->Nat->Bool):Bool:=(List.range 6).all λi=>(List.range 6).all λj=>f i j
def Xmh:Bool:=Xqh (λi j=>!cohR v i j||Nat.blt (l.getD i 0) (l.getD j 0))&&Xqh (λi j=>Xqh λk _=>!(v.rm.has i j&&frb v i k&&v.co.has k j))&&Xqh (λi j=>!ordR M v i j||Nat.blt (l.getD i 0) (l.getD j 0))
end
section
variable{M:UInt8}{v:XcV}{l:List Nat}{i j:Nat}
theorem Xeh{f:Nat->Nat->Bool}(h:Xqh f=true)(b:i<6)(c:j<6):f i j=true:=
 Ah.1 (Ah.1 h i (Ab.2 b)) j (Ab.2 c)
variable(h:RelsOk v)(h6:v.evs.length=6)
include h h6
omit h in
theorem rl6{r:Rl}(b:RlN v.evs.length r)(c:r.has i j=true):i<6/\j<6:=by
 have:=b.ok.lt i j c
 rw[b.n,h6]at this
 exact this
theorem XdQ:frB v i j↔frb v i j=true:=by
 unfold frB frb
 rw[HN]
 simp only[Ab,AJ]
 exact⟨λ⟨k,b,c⟩=>⟨k,(rl6 h6 h.rf b).1,b,c⟩,λ⟨k,_,b,c⟩=>⟨k,b,c⟩⟩
theorem fr6(d:frB v i j):i<6/\j<6:=by
 obtain⟨k,b,c⟩:=d
 exact⟨(rl6 h6 h.rf b).2,(rl6 h6 h.co c).2⟩
omit h h6 in
theorem Xjz:XbV M v i j↔Xpg M v i j=true:=by
 unfold XbV Xpg fenb fenB
 simp only[AJ,FM,beq_iff_eq,HN]
 constructor
 ·rintro⟨c,b,d,h4|h4|h4|⟨k,h4,e,h6⟩|h4|h4⟩
  ·simp[c,b,d,h4]
  ·simp[c,b,d,h4]
  ·simp[c,b,d,h4]
  ·exact⟨⟨⟨c,b⟩,d⟩,.inl (.inl (.inr ⟨k,e,h4,h6⟩))⟩
  ·simp[c,b,d,h4]
  ·simp[c,b,d,h4]
 ·rintro⟨⟨⟨c,b⟩,d⟩,((((h4|h4)|h4)|⟨k,e,h4,h6⟩)|h4)|h4⟩
  ·simp[c,b,d,h4]
  ·simp[c,b,d,h4]
  ·simp[c,b,d,h4]
  ·exact⟨c,b,d,.inr (.inr (.inr (.inl ⟨k,h4,e,h6⟩)))⟩
  ·simp[c,b,d,h4]
  ·simp[c,b,d,h4]
theorem rfM6(b:rfM M v i j=true):i<6/\j<6:=by
 unfold rfM at b
 split at b
 ·exact rl6 h6 h.rf b
 ·unfold Xmu at b
  rw[AJ]at b
  exact rl6 h6 h.rf b.1
theorem Xfm(hb:Xmh M v l=true):GU M v:=by
 unfold Xmh at hb
 rw[AJ,AJ]at hb
 obtain⟨⟨p,n⟩,q⟩:=hb
 have c:∀{R:Nat->Nat->Bool}{i j:Nat},Xqh (λi j=>!R i j||Nat.blt (l.getD i 0) (l.getD j 0))=true->i<6->j<6->R i j=true->l.getD i 0<l.getD j 0:=λ{R i j} t r s u=>by
   have d:(!R i j||Nat.blt (l.getD i 0) (l.getD j 0))=true:=Xeh t r s
   rw[u,I6,Ho]at d
   exact FG d
 refine⟨⟨λi=>l.getD i 0,λi j hh=>?_⟩,λi j k m g w=>?_,⟨λi=>l.getD i 0,λi j hh=>?_⟩⟩
 ·have d:cohR v i j=true:=by
    unfold cohR
    rw[XdQ h h6]at hh
    simp only[FM]
    rcases hh with hh|hh|hh|hh<;>simp[hh]
  have b:i<6/\j<6:=by
    rcases hh with hh|hh|hh|hh
    ·exact rl6 h6 h.po (by rw[AJ]at hh;exact hh.1)
    ·exact rl6 h6 h.rf hh
    ·exact rl6 h6 h.co hh
    ·exact fr6 h h6 hh
  exact c p b.1 b.2 d
 ·have e:=rl6 h6 h.rm m
  have o:=(fr6 h h6 g).2
  have:=Xeh (Xeh n e.1 e.2) o (Nat.succ_pos 5)
  rw[m,(XdQ h h6).1 g,w]at this
  cases this
 ·have d:ordR M v i j=true:=by
    unfold ordR
    rw[XdQ h h6,Xjz]at hh
    simp only[FM]
    rcases hh with hh|hh|hh|hh<;>simp[hh]
  have b:i<6/\j<6:=by
    rcases hh with hh|hh|hh|hh
    ·exact rl6 h6 h.po hh.1
    ·exact rfM6 h h6 hh
    ·exact rl6 h6 h.co hh
    ·exact fr6 h h6 hh
  exact c q b.1 b.2 d
end
def zXcV:XcV:=⟨[],zR 0,zR 0,zR 0,zR 0,zR 0,zR 0,zb⟩
def cK(k:Nat):XcV:=((Uf sbP)[k]?).getD zXcV
theorem Xn0:∀k,k<4->(cK k).evs.length=6:=by
 have h:((List.range 4).all λk=>(cK k).evs.length==6)=true:=by kernel_rfl
 exact λk b=>beq_iff_eq.1 (Ah.1 h k (Ab.2 b))
def outK:List By:=[λi=>if i=32\/i=33 then 1 else 0,λi=>if i=8\/i=32\/i=33 then 1 else 0,λi=>if i=0\/i=32\/i=33 then 1 else 0,λi=>if i=0\/i=8\/i=32\/i=33 then 1 else 0]
theorem BY:QO (tl outK):=of_decide_eq_true (p:=List.Pairwise (λa b=>GO a b<0) (tl outK)) Y
theorem Xr5:(List.range 4).map (λk=>toL 38 (cK k).fi)=tl outK:=by kernel_rfl
theorem cK_ts:((List.range 4).all λk=>Xmh 3 (cK k) ([[0,0,2,1,2,1],[0,0,2,1,2,3],[0,0,2,3,2,1],[0,0,2,3,2,3]].getD k []))=true:=by kernel_rfl
theorem cK_sc:((List.range 3).all λk=>Xmh 2 (cK (k+1)) ([[0,0,1,2,3,4],[0,0,3,4,1,2],[0,0,1,2,1,2]].getD k []))=true:=by kernel_rfl
theorem sb_mem{v:XcV}:v∈Uf sbP↔∃k,k<4/\v=cK k:=by
 rw[Af]
 constructor
 ·rintro⟨k,b⟩
  have:=(AB.1 b).1
  rw[Ew]at this
  exact⟨k,this,by unfold cK;rw[b];rfl⟩
 ·rintro⟨k,b,rfl⟩
  refine⟨k,?_⟩
  unfold cK
  rw[AA (by rw[Ew];exact b)];rfl
theorem Xe0(b:k<4):(tl outK)[k]?=some (toL 38 (cK k).fi):=by
 rw[<-Xr5,AD,Av b];rfl
theorem cK_no:¬GU 2 (cK 0):=λ⟨_,_,ρ,h⟩=>by
 have d:∀i j,(cK 0).po.has i j=true->XkR (cK 0).evs i=true->XkR (cK 0).evs j=true->ρ i<ρ j:=λi j c b g=>h i j (.inl ⟨c,b,g,.inl Z⟩)
 have e:∀k i j,(cK 0).rf.has k i=true->(cK 0).co.has k j=true->ρ i<ρ j:=λk i j c b=>h i j (.inr (.inr (.inr ⟨k,c,b⟩)))
 have c:=d 2 3 Y Y Y
 have b:=e 1 3 4 Y Y
 have g:=d 4 5 Y Y Y
 have m:=e 0 5 2 Y Y
 omega
theorem XfF{M:UInt8}{n:Nat}{q:List By}(c:QO (tl q))(e:q.length=n)(h:∀t,Bz sbP M t↔t∈tl q):Mh M n:=λl d b=>by
 have:=congrArg List.length (Qx d c λx=>(b x).trans (h x))
 unfold tl at this
 rw[AH,AH,e]at this
 exact this
section
variable(hok:∀v∈Uf sbP,RelsOk v)
include hok
theorem XqK(b:k<4):GU 3 (cK k):=
 Xfm (hok _ (sb_mem.2 ⟨k,b,Z⟩)) (Xn0 k b) (Ah.1 cK_ts k (Ab.2 b))
theorem XqL(b:k<3):GU 2 (cK (k+1)):=
 Xfm (hok _ (sb_mem.2 ⟨k+1,O,Z⟩)) (Xn0 _ O) (Ah.1 cK_sc k (Ab.2 b))
theorem Xik:Mh 3 4:=XfF BY Z λt=>by
 unfold Bz
 constructor
 ·rintro⟨v,d,_,rfl⟩
  obtain⟨k,b,rfl⟩:=sb_mem.1 d
  exact AF (Xe0 b)
 ·intro e
  obtain⟨k,b⟩:=Af.1 e
  have c:k<4:=(AB.1 b).1
  rw[Xe0 c]at b
  exact⟨cK k,sb_mem.2 ⟨k,c,Z⟩,XqK hok c,(Ac b).symm⟩
theorem Xil:Mh 2 3:=XfF (q:=outK.drop 1) (List.Pairwise.sublist (List.drop_sublist 1 (tl outK)) BY) Z λt=>by
 have e:tl (outK.drop 1)=(tl outK).drop 1:=rfl
 rw[e]
 unfold Bz
 constructor
 ·rintro⟨v,d,g,rfl⟩
  obtain⟨k,b,rfl⟩:=sb_mem.1 d
  cases k with
  |zero=>exact absurd g cK_no
  |succ k=>exact AF (i:=k) (by rw[Fi,Ij];exact Xe0 b)
 ·intro j
  obtain⟨k,b⟩:=Af.1 j
  rw[Fi,Ij]at b
  have c:k+1<4:=(AB.1 b).1
  rw[Xe0 c]at b
  exact⟨cK (k+1),sb_mem.2 ⟨k+1,c,Z⟩,XqL hok O,(Ac b).symm⟩
end
def Xoc:Prop:=∀(p:Prg)(b:Nat),VX p=0->b<=10000->CandGo p b->∀t,Bz p 2 t↔Xnc p 1 t
theorem Xip{p:Prg}:∀(n:Nat)(s:By),Bare p s->mu p s<=n->∃c z,Xoa p s c z/\Ue p z=[]
 |n,s,h,m=>by
  cases d:Ue p s with
  |nil=>exact⟨[],s,Z,d⟩
  |cons t r=>
   have b:t∈Ue p s:=by rw[d];exact IT
   obtain⟨l,x,i⟩:=LX (Gg h.r) b
   have g:=i.mu
   cases n with
   |zero=>omega
   |succ n=>
    obtain⟨c,z,j,e⟩:=Xip n _ (h.step b) O
    exact⟨t::c,z,⟨b,j⟩,e⟩
theorem XhM{M:UInt8}{b:Nat}(hp:VX p=0)(hm:b<=10000)(hs:CandGo p b->∃v∈Uf p,GU M v):TopOk p M b where
 good:=Xgo (valid hp) _
 w1:=λ_ _=>Xqs (by rw[(valid hp).init];exact(valid hp).locs6)
 ok:=D7 hp hm
 some:=hs
theorem sb_go:CandGo sbP 100 where
 vals:=by rw[Xih]
 paths:=XeL
 small:=λps b=>by
  obtain⟨d,hd,rfl⟩:=AT.1 b
  rcases AN 48 (V1 sbP.init (UF (NC sbP (V5 sbP 16).1) d) (UF (NC sbP (V5 sbP 16).1) d).length)with h|h
  ·exact absurd (.inr (.inl (.inr (.inr ⟨d,hd,h⟩)))) Xij
  ·exact h
 few:=by rw[Ew];omega
theorem CL:∀v∈Uf sbP,RelsOk v:=λv b=>by
 obtain⟨n,c,h⟩:=D7 Eu O sb_go v b
 exact h.rels
theorem Xf2(b:Xoc)(j:List Value)(p:Prg)(c:World)(s:ProgAt c j p)(q:NeedsAt c)(u:TabAt c)(i:Tab6At c):
 Calls prog 3 #[.agg j.toArray] c λe m=>e=.returned (.bool true)/\Below c.heap.size c m:=
 XhN j p c s q u i
  (λg=>XhM g.2.2 O λd=>by
   obtain⟨r,z,w,n⟩:=Xip _ _ (LT g.2.2) (AI _)
   obtain⟨v,t,o,_⟩:=(b p 3000 g.2.2 O d _).2 ((XdA g.2.2).2 ⟨r,z,w,n,Z⟩)
   exact⟨v,t,o⟩)
  (λg d=>b p 3000 g.2.2 O d) Eu
  (XhM Eu O λ_=>⟨_,sb_mem.2 ⟨1,O,Z⟩,XqL CL (k:=0) O⟩)
  (XhM Eu O λ_=>⟨_,sb_mem.2 ⟨0,O,Z⟩,XqK CL O⟩)
  Xij (Xil CL) (Xik CL)
theorem XrL:Xoc:=λp d c g b t=>⟨λ⟨v,i,j,e⟩=>by rw[e];exact XmY c g b i j,λh=>Xlj c b h⟩
theorem XhO(d:List Value)(p:Prg)(b:World)(i:ProgAt b d p)(m:NeedsAt b)(j:TabAt b)(c:Tab6At b):
 Calls prog 3 #[.agg d.toArray] b λe g=>e=.returned (.bool true)/\Below b.heap.size b g:=Xf2 XrL d p b i m j c
end Go.Proofs.YtajfpcgbnflceaaGreatDoor
