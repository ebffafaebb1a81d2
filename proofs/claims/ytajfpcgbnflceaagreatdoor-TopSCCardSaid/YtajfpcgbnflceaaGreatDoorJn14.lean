/- WALK2. Package model: access, same, union, fr. Conditions: the execution lies in memory; its relations are valid; the table of trailing zeros lies in memory. -/
import Derived.Test.YtajfpcgbnflceaaGreatDoorJn13
set_option linter.unusedSimpArgs false
set_option linter.unusedVariables false
namespace Go.Proofs.YtajfpcgbnflceaaGreatDoor
open Go.Proofs.Tryz
open Go.RowKit
set_option maxRecDepth 100000
set_option maxHeartbeats 4000000
variable{a:Pr}{b j l n x:Nat}{d:List Nat}{ps:List PathP}{q r:Rl}
structure RlN (n:Nat) (r:Rl):Prop where
 ok:OkR r
 n:r.n=n
structure RelsOk (v:XcV):Prop where
 l48:v.evs.length<=48
 po:RlN v.evs.length v.po
 rf:RlN v.evs.length v.rf
 co:RlN v.evs.length v.co
 rm:RlN v.evs.length v.rm
def frB(v:XcV)(i j:Nat):Prop:=∃k,v.rf.has k i=true/\v.co.has k j=true
structure FrOk (v:XcV) (q:Rl):Prop where
 ok:RlN v.evs.length q
 has:∀i j,q.has i j=true↔frB v i j
def XkQ(e:EvT):Bool:=e.ev.kind==1||e.ev.kind==2
def XkR(E:List EvT)(i:Nat):Bool:=match E[i]? with|some e=>XkQ e|none=>false
def Xbm(E:List EvT)(i j:Nat):Bool:=match E[i]?,E[j]? with|some e,some f=>XkQ e&&XkQ f&&e.ev.loc==f.ev.loc|_,_=>false
theorem Cz(b:RlN n r)(e:RlN n q):RlN n (rlF n λi=>Qp q (r.to i))/\∀i j,(rlF n λi=>Qp q (r.to i)).has i j=true↔∃k,r.has i k=true/\q.has k j=true:=by
 have m:∀i j,(rlF n λi=>Qp q (r.to i)).has i j=true↔∃k,r.has i k=true/\q.has k j=true:=λi j=>by
  show has (if i<n then _ else 0) j=true↔_
  by_cases c:i<n
  ·rw[if_pos c,Xpl];rfl
  ·rw[if_neg c,V8]
   exact⟨λh=>(by cases h),λ⟨k,h,_⟩=>absurd (b.ok.lt i k h).1 (by rw[b.n];exact c)⟩
 refine⟨⟨⟨by show n<=48;rw[<-b.n];exact b.ok.n48,λi j h=>?_⟩,Z⟩,m⟩
 obtain⟨k,o,p⟩:=(m i j).1 h
 have d:=b.ok.lt i k o
 have g:=e.ok.lt k j p
 rw[b.n]at d;rw[e.n]at g
 exact⟨d.1,g.2⟩
theorem XpM(b:RlN n r)(g:RlN n q):RlN n (rlF n λi=>r.to i&&&q.to i)/\∀i j,(rlF n λi=>r.to i&&&q.to i).has i j=(r.has i j&&q.has i j):=by
 have e:∀i j,(rlF n λi=>r.to i&&&q.to i).has i j=(r.has i j&&q.has i j):=λi j=>by
  show has (if i<n then _ else 0) j=_
  by_cases c:i<n
  ·rw[if_pos c,JE];rfl
  ·rw[if_neg c,V8]
   cases h:r.has i j with
   |false=>rfl
   |true=>exact absurd (b.ok.lt i j h).1 (by rw[b.n];exact c)
 refine⟨⟨⟨by show n<=48;rw[<-b.n];exact b.ok.n48,λi j h=>?_⟩,Z⟩,e⟩
 rw[e,AJ]at h
 have d:=b.ok.lt i j h.1
 rw[b.n]at d;exact d
theorem or_ok(b:RlN n r)(d:RlN n q):RlN n (rlF n λi=>r.to i|||q.to i)/\∀i j,(rlF n λi=>r.to i|||q.to i).has i j=(r.has i j||q.has i j):=by
 have g:∀i j,(rlF n λi=>r.to i|||q.to i).has i j=(r.has i j||q.has i j):=λi j=>by
  show has (if i<n then _ else 0) j=_
  by_cases e:i<n
  ·rw[if_pos e,GR];rfl
  ·rw[if_neg e,V8]
   cases h:r.has i j with
   |true=>exact absurd (b.ok.lt i j h).1 (by rw[b.n];exact e)
   |false=>
    cases m:q.has i j with
    |true=>exact absurd (d.ok.lt i j m).1 (by rw[d.n];exact e)
    |false=>rfl
 refine⟨⟨⟨by show n<=48;rw[<-b.n];exact b.ok.n48,λi j h=>?_⟩,Z⟩,g⟩
 rw[g,FM]at h
 rcases h with h|h
 ·have c:=b.ok.lt i j h
  rw[b.n]at c;exact c
 ·have c:=d.ok.lt i j h
  rw[d.n]at c;exact c
theorem NB(x:EvT)(b:World):Va 128 #[.agg x.cells.toArray] b (.bool (XkQ x)):=by
 refine Vb func128 ntmps128 λH a F=>?_
 refine gg 2 λa F=>?_
 refine zBx H F λc a w F H=>?_
 refine gg 2 λa F=>?_
 replace H:Own b none w [.blk c x.cells 156]:=H
 refine gg 6 λa F=>?_
 refine zSp 6 F (λg F=>?_) λg F=>?_
 ·
  refine gg 8 λa F=>?_
  refine⟨?_,H.below⟩
  (unfold XkQ;simp[*])
 refine gg 8 λa F=>?_
 refine⟨?_,H.below⟩
 (unfold XkQ;simp[*])
theorem Xi8(b o i j:Nat)(x:XcP)(m:World)(p:ExAt m b o x)(z:i<x.v.evs.length)(A:j<x.v.evs.length):
 Calls prog 76 #[Vc b o,Ve (i:Int),Ve (j:Int)] m λe u=>e=.returned (.bool (Xbm x.v.evs i j))/\Below m.heap.size m u:=by
 have H:=Own.start m none
 have c:=p.c0
 obtain⟨e,s⟩:∃e,x.v.evs[i]?=some e:=⟨_,AA z⟩
 obtain⟨f,r⟩:∃f,x.v.evs[j]?=some f:=⟨_,AA A⟩
 obtain⟨E,C,g,q⟩:=p.evs i e.cells (by rw[AD,s];rfl)
 obtain⟨D,G,n,t⟩:=p.evs j f.cells (by rw[AD,r];rfl)
 rw[g]at n
 cases n
 rw[g]at c
 have d:Xbm x.v.evs i j=(XkQ e&&XkQ f&&e.ev.loc==f.ev.loc):=by unfold Xbm;rw[s,r]
 refine VU func76 Z ntmps76 Z (λa F=>?_)
 refine gg 5 λa F=>?_
 refine zRO H λH=>?_
 refine gg 3 λa F=>?_
 refine Xe 3 Z F Z Z (λw H=>rLd isAgg53 F Z (H.arg c)) H qq0 λa F=>?_
 refine gg 2 λa F=>?_
 refine Xa (k:=6) (i:=6) Z F Z Z (λw H=>rLr underlying156 Z ?si F Z (H.argR q)) H (λ_ _ _ h=>h) ?_
 case si=>exact VT sizeOf156
 clear F a;intro a F
 refine zEc 7 F (NB e _) H λa w F H=>?_
 refine gg 2 λa F=>?_
 refine F.split 15 Z (λB F=>?_) λB F=>?_
 ·
  refine gg 3 λa F=>?_
  refine Xe 12 Z F Z Z (λw H=>rLd isAgg53 F Z (H.arg c)) H qq0 λa F=>?_
  refine gg 2 λa F=>?_
  refine Xa (k:=15) (i:=15) Z F Z Z (λw H=>rLr underlying156 Z ?si F Z (H.argR t)) H (λ_ _ _ h=>h) ?_
  case si=>exact VT sizeOf156
  clear F a;intro a F
  refine zEc 16 F (NB f _) H λa w F H=>?_
  refine gg 3 λa F=>?_
  refine F.split 25 Z (λy F=>?_) λy F=>?_
  ·
   refine gg 3 λa F=>?_
   refine Xe 22 Z F Z Z (λw H=>rLd isAgg53 F Z (H.arg c)) H qq0 λa F=>?_
   refine gg 3 λa F=>?_
   refine Xe 26 Z F Z Z (λw H=>rLd isAgg5 F Z (H.arg (q 2 _ Z))) H qq0 λa F=>?_
   refine gg 3 λa F=>?_
   refine Xe 30 Z F Z Z (λw H=>rLd isAgg53 F Z (H.arg c)) H qq0 λa F=>?_
   refine gg 3 λa F=>?_
   refine Xe 34 Z F Z Z (λw H=>rLd isAgg5 F Z (H.arg (t 2 _ Z))) H qq0 λa F=>?_
   refine gg 6 λa F=>?_
   refine⟨?_,H.below⟩
   rw[d]
   (simp[*])
  refine gg 22 λa F=>?_
  refine⟨?_,H.below⟩
  rw[d]
  (simp[*])
 refine gg 32 λa F=>?_
 refine⟨?_,H.below⟩
 rw[d]
 (simp[*])
def InvA(r:RunP):Prop:=∀i k,(r.att i).testBit k=true->i=k+1
theorem XkK(x:Ins)(v:UInt8)(r:RunP):(Js x v r).att=r.att\/(Js x v r).att=GB r.att (r.many+1) (En r.many):=by
 refine MW (M:=λy=>y.att=r.att\/y.att=GB r.att (r.many+1) (En r.many)) x v r (λ_=>.inl Z) (λ_=>.inl Z) (λ_=>.inl Z) (λ_=>.inr Z) (λ_=>.inr Z) (λ_=>?_) (λ_=>.inl Z) (λ_=>?_)
 ·unfold XaL
  split
  ·exact .inl Z
  ·exact .inr Z
 ·unfold JY
  split
  ·exact .inl Z
  ·exact .inl Z
theorem InvA.exec{r:RunP}(h:InvA r)(x:Ins)(v:UInt8):InvA (Ub x v r):=λi k b=>by
 have b:((Js x v r).att i).testBit k=true:=b
 rcases XkK x v r with e|e
 ·rw[e]at b;exact h i k b
 ·rw[e]at b
  by_cases c:i=r.many+1
  ·subst c
   rw[QH]at b;rw[XaO b]
  ·rw[Jy c]at b;exact h i k b
theorem PathD.invA{l:List Ins}{dom:List UInt8}{r z:RunP}(h:PathD l dom r z):InvA r->InvA z:=h.keep λ_ x v _ b=>b.exec x v
theorem Xlq{z:RunP}(h:InvA z)(hm:z.many<=24)(hs:SetsOk z)(c:a∈(Ul z).rmw):a.2.toNat=a.1.toNat+1:=by
 obtain⟨i,k,d,b,rfl⟩:=(JB hs.att _).1 c
 have:=h i k b
 show(UInt8.ofNat i).toNat=(UInt8.ofNat k).toNat+1
 rw[ofN O,ofN O];exact this
section
variable{v:List UInt8}{ps:List PathP}{sel:PathP->List Pr}{N:Nat}
theorem Xiw:∀J,(rlK N v ps sel J).n=N
 |0=>rfl
 |J+1=>by
  rw[rlK]
  split
  ·rw[Xrd];exact Xiw J
  ·exact Xiw J
theorem Jg(c:V1 v ps ps.length<=48)(hs:∀q∈ps,∀a∈sel q,a.1.toNat<q.evs.length/\a.2.toNat<q.evs.length){x y:Nat}:∀J,J<=ps.length->((rlK N v ps sel J).has x y=true↔∃j q a,j<J/\ps[j]?=some q/\a∈sel q/\x=V1 v ps j+a.1.toNat/\y=V1 v ps j+a.2.toNat)
 |0,_=>by
  show has 0 y=true↔_
  rw[V8]
  exact⟨λh=>(by cases h),λ⟨j,_,_,h,_⟩=>absurd h (Fx _)⟩
 |J+1,r=>by
  have t:=Jg c hs (x:=x) (y:=y) J O
  obtain⟨q,d⟩:∃q,ps[J]?=some q:=⟨_,AA O⟩
  have n:=Qa (v:=v) d
  have g:=Qv (v:=v) (ps:=ps) r
  rw[EA d,Xly _ (λa s=>by
   have:=hs q (AF d) a s
   unfold V1 at n g c
   omega),t]
  constructor
  ·rintro(⟨j,m,a,i,b⟩|⟨a,i,b,e⟩)
   ·exact⟨j,m,a,O,b⟩
   ·exact⟨J,q,a,Fc _,d,i,b,e⟩
  ·rintro⟨j,m,a,i,b,e,o,p⟩
   rcases AN j J with h|h
   ·exact .inl ⟨j,m,a,h,b,e,o,p⟩
   ·obtain rfl:j=J:=O
    rw[d]at b
    cases b
    exact .inr ⟨a,e,o,p⟩
end
section
variable{p:Prg}{dom:List UInt8}{ps:List PathP}
theorem MixOk.pairs{q:PathP}(h:MixOk p dom ps)(c:q∈ps):PairsOk 0 q.evs q.data/\PairsOk 1 q.evs q.ctrl/\PairsOk 2 q.evs q.rmw:=by
 obtain⟨j,d⟩:=Af.1 c
 obtain⟨l,z,_,_,b,rfl⟩:=h.run j q d
 exact b.invH.pairs b.many b.inv.sets
theorem Gm{E:List Ev}{l:List Pr}(h:PairsOk j E l):∀a∈l,a.1.toNat<E.length/\a.2.toNat<E.length:=λa b=>by
 have:=h.mem a b
 have d:=this.lt
 have c:=this.hi
 omega
theorem MixOk.next{q:PathP}(h:MixOk p dom ps)(d:ps[j]?=some q)(e:a∈q.rmw):a.2.toNat=a.1.toNat+1:=by
 obtain⟨l,z,_,g,b,rfl⟩:=h.run j q d
 exact Xlq (g.invA λi k c=>(Q3 c).elim) b.many b.inv.sets e
theorem Xdz(h:MixOk p dom ps)(g:V1 p.init ps ps.length<=48){q:PathP}(d:ps[j]?=some q)(r:a.1.toNat<a.2.toNat)(o:a.2.toNat<q.evs.length):
 ∃e f,q.evs[a.1.toNat]?=some e/\q.evs[a.2.toNat]?=some f/\(UE p.init ps ps.length)[V1 p.init ps j+a.1.toNat]?=some ⟨(j:Int),e⟩/\(UE p.init ps ps.length)[V1 p.init ps j+a.2.toNat]?=some ⟨(j:Int),f⟩ /\
  (poR (UE p.init ps ps.length)).has (V1 p.init ps j+a.1.toNat) (V1 p.init ps j+a.2.toNat)=true:=by
 have n:=(AB.1 d).1
 obtain⟨e,m⟩:∃e,q.evs[a.1.toNat]?=some e:=⟨_,AA O⟩
 obtain⟨f,i⟩:∃f,q.evs[a.2.toNat]?=some f:=⟨_,AA o⟩
 have c:=Xcc (v:=p.init) d m n
 have b:=Xcc (v:=p.init) d i n
 refine⟨e,f,m,i,c,b,?_⟩
 rw[Xbv g]
 unfold poB
 rw[c,b,decide_eq_true (show V1 p.init ps j+a.1.toNat<V1 p.init ps j+a.2.toNat by omega)]
 have:(j:Int) ≠ -1:=O
 simp[this]
theorem XoL(b:V1 p.init ps ps.length<=48){sel:PathP->List Pr}{k:Nat}(hs:∀q∈ps,PairsOk k q.evs (sel q)):RlN (V1 p.init ps ps.length) (rlK (V1 p.init ps ps.length) p.init ps sel ps.length):=by
 refine⟨⟨by rw[Xiw];exact b,λx y c=>?_⟩,Xiw _⟩
 obtain⟨j,q,a,g,d,i,rfl,rfl⟩:=(Jg b (λq e=>Gm (hs q e)) _ (AI _)).1 c
 have:=Gm (hs q (AF d)) a i
 have m:=Qa (v:=p.init) d
 have n:=Qv (v:=p.init) (ps:=ps) (show j+1<=ps.length from g)
 rw[Xiw];omega
theorem Xr1(h:MixOk p dom ps)(b:V1 p.init ps ps.length<=48):DepOk (UE p.init ps ps.length) (poR (UE p.init ps ps.length)) (rlK (V1 p.init ps ps.length) p.init ps PathP.data ps.length) (rlK (V1 p.init ps ps.length) p.init ps PathP.ctrl ps.length) (rlK (V1 p.init ps ps.length) p.init ps PathP.rmw ps.length):=by
 have A:=λq c=>(h.pairs (q:=q) c).1
 have B:=λq c=>(h.pairs (q:=q) c).2.1
 have t:=λq c=>(h.pairs (q:=q) c).2.2
 refine⟨λi x n=>?_,λi x n=>?_,λi x n=>?_,λi x y n z=>?_,λi j x n z=>?_⟩
 ·obtain⟨j,q,a,w,g,m,rfl,rfl⟩:=(Jg b (λq c=>Gm (A q c)) _ (AI _)).1 n
  have d:=(A q (AF g)).mem a m
  obtain⟨e,f,s,o,r,u,v⟩:=Xdz h b g d.lt d.hi
  refine⟨?_,v,_,r,d.rd e s⟩
  unfold wrK
  rw[u]
  exact beq_iff_eq.2 (d.wr (by decide) f o)
 ·obtain⟨j,q,a,w,g,m,rfl,rfl⟩:=(Jg b (λq c=>Gm (B q c)) _ (AI _)).1 n
  have d:=(B q (AF g)).mem a m
  obtain⟨e,f,s,o,r,u,v⟩:=Xdz h b g d.lt d.hi
  exact⟨v,_,r,d.rd e s⟩
 ·obtain⟨j,q,a,w,g,m,rfl,rfl⟩:=(Jg b (λq c=>Gm (t q c)) _ (AI _)).1 n
  have d:=(t q (AF g)).mem a m
  obtain⟨e,f,s,o,r,u,v⟩:=Xdz h b g d.lt d.hi
  refine⟨?_,v,_,_,r,d.rd e s,u,(d.lc Z e f s o).symm⟩
  unfold wrK
  rw[u]
  exact beq_iff_eq.2 (d.wr (by decide) f o)
 ·obtain⟨j,q,a,w,g,m,D,rfl⟩:=(Jg b (λq c=>Gm (t q c)) _ (AI _)).1 n
  obtain⟨C,G,E,s,o,r,I,rfl⟩:=(Jg b (λq c=>Gm (t q c)) _ (AI _)).1 z
  have:=h.next g m
  have:=h.next o r
  omega
 ·obtain⟨j,q,a,w,g,m,rfl,D⟩:=(Jg b (λq c=>Gm (t q c)) _ (AI _)).1 n
  obtain⟨C,G,E,s,o,r,rfl,I⟩:=(Jg b (λq c=>Gm (t q c)) _ (AI _)).1 z
  have:=h.next g m
  have:=h.next o r
  omega
end
def cI(x y:Nat):Int:=if x<y then -1 else if y<x then 1 else 0
theorem cI_neg{y:Nat}:(cI x y<0)=(x<y):=by
 unfold cI
 split
 ·simp[*]
 ·split<;>simp[*]
theorem XbX(x:Nat)(b:World):Va 179 #[Ve (x:Int)] b (.bool false):=by
 refine Vb func179 ntmps179 λH a F=>?_
 refine gg 13 λa F=>?_
 exact⟨by simp,H.below⟩
theorem XmT(x y:Nat)(d:World):Va 126 #[Ve (x:Int),Ve (y:Int)] d (Ve (cI x y)):=by
 refine Vb func126 ntmps126 λH a F=>?_
 refine gg 7 λa F=>?_
 refine zCa F (XbX x _) H λa w F H=>?_
 refine gg 5 λa F=>?_
 refine zCa F (XbX y _) H λa w F H=>?_
 refine gg 7 λa F=>?_
 refine cIf F Z (λc=>?_) (λc=>?_)
 ·
  cases c
 refine gg 6 λa F=>?_
 refine cIf F Z (λb=>?_) (λb=>?_)
 ·
  cases b
 refine gg 9 λa F=>zi (λi=>?_) λi=>?_
 ·
  refine gg 6 λa F=>?_
  refine⟨?_,H.below⟩
  unfold cI
  rw[if_pos O]
 refine gg 9 λa F=>zi (λg=>?_) λg=>?_
 ·
  refine gg 6 λa F=>?_
  refine⟨?_,H.below⟩
  unfold cI
  rw[if_neg O,if_pos O]
 refine gg 7 λa F=>?_
 refine⟨?_,H.below⟩
 unfold cI
 rw[if_neg O,if_neg O]
def KeyF(v:Value)(κ:Nat->Nat)(W:World)(b:List Res):Prop:=∀(x y:Nat)(w:World)(r:Res),x<48->y<48->Own W none w (r::b)->JL prog v [.int .i64 (x:Int),.int .i64 (y:Int)] w λe c=>e=.returned (.int .i64 (cI (κ y) (κ x)))/\Below w.heap.size w c
def XkX(κ:Nat->Nat)(l:List Nat)(k:Nat):Prop:=∀p q x y,p<q->q<k->l[p]?=some x->l[q]?=some y->κ y<=κ x
def SrtX(κ:Nat->Nat)(l:List Nat)(j k:Nat):Prop:=∀p q x y,p<q->q<k->q≠j->l[p]?=some x->l[q]?=some y->κ y<=κ x
section
variable{κ:Nat->Nat}{l:List Nat}{j k x y:Nat}
theorem SrtX.start(h:XkX κ l k):SrtX κ l k (k+1):=λp q x y c e g b d=>h p q x y c O b d
def Xp5(l:List Nat)(j x y:Nat):List Nat:=(l.set j y).set (j-1) x
theorem Xnl(e:0<j)(d:j<l.length)(i:Nat):(Xp5 l j x y)[i]?=if i=j-1 then some x else if i=j then some y else l[i]?:=by
 unfold Xp5
 rw[Am,Am,F9]
 by_cases b:i=j-1
 ·subst b;rw[if_pos Z,if_pos Z,if_pos O]
 ·rw[if_neg (λh=>b h.symm),if_neg b]
  by_cases c:i=j
  ·subst c;rw[if_pos Z,if_pos Z,if_pos d]
  ·rw[if_neg (λh=>c h.symm),if_neg c]
theorem Xk8(n:0<j)(m:l[j]?=some x)(g:l[j-1]?=some y):(Xp5 l j x y).Perm l:=by
 obtain⟨d,rfl⟩:=AB.1 m
 obtain⟨c,rfl⟩:=AB.1 g
 have e:Xp5 l j l[j] l[j-1]=l.take (j-1)++(l[j]::l[j-1]::l.drop (j+1)):=by
  refine Ar λi=>?_
  rw[Xnl n d]
  rcases F5 i (j-1)with h|h|h
  ·rw[if_neg O,if_neg O,AP (by rw[Aj];omega),F7 h]
  ·rw[if_pos h,AQ (by rw[Aj];omega),Aj,Fv O,h,Ih];rfl
  ·rw[if_neg O,AQ (by rw[Aj];omega),Aj,Fv O]
   by_cases b:i=j
   ·rw[if_pos b,b,show j-(j-1)=1 by omega];rfl
   ·rw[if_neg b,show i-(j-1)=(i-(j+1))+2 by omega,IN,IN,Fi];congr 1;omega
 have p:l=l.take (j-1)++(l[j-1]::l[j]::l.drop (j+1)):=by
  have o:=FA d
  have b:=FA c
  rw[show j-1+1=j by omega]at b;rw[<-o,<-b,FL]
 rw[e]
 conv=>rhs;rw[p]
 exact List.Perm.append_left _ (List.Perm.swap _ _ _)
theorem SrtX.swap(h:SrtX κ l j k)(t:0<j)(z:j<k)(o:j<l.length)(s:l[j]?=some x)(m:l[j-1]?=some y)(n:κ y<κ x):SrtX κ (Xp5 l j x y) (j-1) k:=λp q u v w i r b c=>by
 rw[Xnl t o]at b c;rw[if_neg r]at c
 by_cases e:q=j
 ·rw[if_pos e]at c;cases c
  by_cases d:p=j-1
  ·rw[if_pos d]at b;cases b;omega
  ·rw[if_neg d,if_neg O]at b
   exact h p (j-1) u y O O O b m
 ·rw[if_neg e]at c
  by_cases d:p=j-1
  ·rw[if_pos d]at b;cases b
   exact h j q x v O i e s c
  ·rw[if_neg d]at b
   by_cases g:p=j
   ·rw[if_pos g]at b;cases b
    exact h (j-1) q y v O i e m c
   ·rw[if_neg g]at b
    exact h p q u v w i e b c
theorem SrtX.done0(h:SrtX κ l 0 k):XkX κ l k:=λp q x y d b e c=>h p q x y d b O e c
theorem SrtX.done(h:SrtX κ l j k)(s:0<j)(r:j<k)(o:l[j]?=some x)(g:l[j-1]?=some y)(b:κ x<=κ y):XkX κ l k:=λp q u v n m c d=>by
 by_cases e:q=j
 ·subst e
  rw[o]at d;cases d
  by_cases i:p=q-1
  ·subst i;rw[g]at c;cases c;exact b
  ·exact AW b (h p (q-1) u y O O O c g)
 ·exact h p q u v n m e c d
end
theorem Xmf(W:World)(g n c:Nat)(l:List Nat)(v:Value)(κ:Nat->Nat)(A:List Res)(hv:KeyF v κ W A)(T:World)(X:Own W none T (.rws 3 1 (Vd g 0 n c) (Uo l)::A))(hn:n=l.length)(I:∀x∈l,x<48)(U:n<=48):
 Calls prog 226 #[Vd g 0 n c,Ve ((0:Nat):Int),Ve (n:Int),v] T λe w'=>e=.returned (.tuple #[])/\∃Q,Q.Perm l/\XkX κ Q n/\Own W none w' (.rws 3 1 (Vd g 0 n c) (Uo Q)::A):=by
 have H:=X
 refine VU func226 Z ntmps226 Z (λa F=>?_)
 refine gg 7 λa F=>?_
 refine cLoopS [0,1,2,3] (λm r w=>∃(i:Nat)(D:List Nat),m=n-i/\r=[(8,Ve ((i:Nat):Int))]/\1<=i/\(i<=n\/i=1)/\D.Perm l/\XkX κ D i/\Own W none w (.rws 3 1 (Vd g 0 n c) (Uo D)::A)) F (n-1) [(8,Ve ((1:Nat):Int))] ?_ ?_
 ·exact⟨1,l,Z,Z,AI _,.inr Z,List.Perm.refl _,λp q x y S h2=>O,H⟩
 clear F H;intro m r a w N F
 obtain⟨i,D,rfl,rfl,V,a2,G,K,H⟩:=N
 refine gg 8 λa F=>zi (λM=>?_) λM=>?_
 ·
  have a5:i<n:=O
  refine gg 9 λa F=>?_
  refine cLoopS [0,1,2,3,8] (λm r w=>∃(j:Nat)(b:List Nat),m=j+1/\r=[(9,Ve ((j:Nat):Int))]/\j<=i/\b.Perm l/\SrtX κ b j (i+1)/\Own W none w (.rws 3 1 (Vd g 0 n c) (Uo b)::A)) F (i+1) [(9,Ve ((i:Nat):Int))] ?_ ?_
  ·exact⟨i,D,Z,Z,AI _,G,SrtX.start K,H⟩
  clear F H;intro m r a w N F
  obtain⟨j,b,rfl,rfl,a3,o,t,H⟩:=N
  have a1:b.length=n:=by rw[o.length_eq,hn]
  refine gg 2 λa F=>?_
  refine zRO H λH=>?_
  refine gg 4 λa F=>?_
  refine zSp 21 F (λa4 F=>?_) λa4 F=>?_
  ·
   have d:0<j:=O
   obtain⟨x,u⟩:∃x,b[j]?=some x:=⟨_,AA O⟩
   obtain⟨y,s⟩:∃y,b[j-1]?=some y:=⟨_,AA O⟩
   have J:=I x (o.mem_iff.1 (AF u))
   have E:=I y (o.mem_iff.1 (AF s))
   refine gg 4 λa F=>?_
   refine Xe 8 Z F Z Z (λw H=>rLd isAgg3 F Z (GI H 0 Z Uu (UQ u))) H qq0 λa F=>?_
   refine gg 4 λa F=>?_
   refine Xe 13 Z F Z Z (λw H=>rLd isAgg3 F Z (GI H 0 Z Uu (UQ s))) H qq0 λa F=>?_;refine Xd (k:=14) (i:=14) Z F (BZ F Z Z Z (hv x y _ _ J E H) ?_);rintro e w ⟨rfl,R⟩;replace H:=H.grow R;clear R
   refine zq λa F=>?_
   refine gg 5 λa F=>zi (λC=>?_) λC=>?_
   ·
    have L:κ y<κ x:=by exact cI_neg.mp C
    refine gg 3 λa F=>?_
    refine zRO H λH=>?_
    refine gg 9 λa F=>?_
    refine Xe 9 Z F Z Z (λw H=>rLd isAgg3 F Z (GI H 0 Z Uu (UQ s))) H qq0 λa F=>?_
    refine gg 3 λa F=>?_
    refine Xe 13 Z F Z Z (λw H=>rLd isAgg3 F Z (GI H 0 Z Uu (UQ u))) H qq0 λa F=>?_
    refine gg 1 λa F=>?_
    refine Xd (k:=15) (i:=15) Z F (oStW H 0 sizeOf3 F Z Z Z Z (Uu) ((UQ u)) ((by decide:0<1)) (O) λw H=>?_)
    replace H:Own W none w (.rws 3 1 (Vd g 0 n c) ((Uo b).set j [Ve (y:Int)])::A):=H
    rw[C8]at H
    refine gg 2 λa F=>?_
    refine Xd (k:=17) (i:=17) Z F (oStW H 0 sizeOf3 F Z Z Z Z (Uu) ((UQ (i:=j-1) (x:=y) (by rw[List.getElem?_set_ne O];exact s))) ((by decide:0<1)) (O) ?_)
    clear H;intro w H
    refine gg 2 λa F=>?_
    replace H:Own W none w (.rws 3 1 (Vd g 0 n c) ((Uo (b.set j y)).set (j-1) [Ve (x:Int)])::A):=H
    rw[C8]at H
    refine gg 5 λa F=>?_
    exact⟨_,O,_,⟨j-1,Xp5 b j x y,Z,Z,O,(Xk8 d u s).trans o,SrtX.swap t d O O u s L,H⟩,F.tt⟩
   have z:j=0\/∃x y,b[j]?=some x/\b[j-1]?=some y/\0<j/\κ x<=κ y:=by exact .inr ⟨x,y,u,s,d,Nat.le_of_not_lt λh=>(by exact C (cI_neg.mpr h))⟩
   refine gg 6 λa F=>?_
   have B:XkX κ b (i+1):=by
    have P:j=0\/∃x y,b[j]?=some x/\b[j-1]?=some y/\0<j/\κ x<=κ y:=by exact z
    rcases P with rfl|⟨x,y,u,s,d,z⟩
    ·exact SrtX.done0 t
    ·exact SrtX.done t d O u s z
   exact⟨_,O,_,⟨i+1,b,Z,Z,O,.inl O,o,B,H⟩,F.tt⟩
  refine gg 14 λa F=>?_
  refine cIfF F Z ?_
  refine gg 6 λa F=>?_
  have B:XkX κ b (i+1):=by
   have P:j=0\/∃x y,b[j]?=some x/\b[j-1]?=some y/\0<j/\κ x<=κ y:=by exact .inl O
   rcases P with rfl|⟨x,y,u,s,d,z⟩
   ·exact SrtX.done0 t
   ·exact SrtX.done t d O u s z
  exact⟨_,O,_,⟨i+1,b,Z,Z,O,.inl O,o,B,H⟩,F.tt⟩
 refine gg 1 λa F=>?_
 refine bEnd results226 F ?_
 exact⟨Z,D,G,λp q x y S h2=>K p q x y S O,H⟩
theorem Xf7(W:World)(g n c:Nat)(l:List Nat)(v:Value)(κ:Nat->Nat)(i:List Res)(E:KeyF v κ W i)(y:World)(A:Own W none y (.rws 3 1 (Vd g 0 n c) (Uo l)::i))(D:n=l.length)(r:∀x∈l,x<48)(B:n<20):
 Calls prog 124 #[Vd g 0 n c,v] y λe p=>e=.returned (.tuple #[])/\∃b,b.Perm l/\XkX κ b n/\Own W none p (.rws 3 1 (Vd g 0 n c) (Uo b)::i):=by
 have C:Calls prog 178 #[Vd g 0 n c,Ve (n:Int),v] y λe p=>e=.returned (.tuple #[])/\∃b,b.Perm l/\XkX κ b n/\Own W none p (.rws 3 1 (Vd g 0 n c) (Uo b)::i):=by
  have H:=A
  refine VU func178 Z ntmps178 Z (λa F=>?_)
  refine gg 12 λa F=>?_
  refine cLoopS [0,1,2,6] (λm d w=>m=1/\d=[(7,Ve ((0:Nat):Int)),(8,Ve 20)]/\Own W none w (.rws 3 1 (Vd g 0 n c) (Uo l)::i)) F (1) [(7,Ve ((0:Nat):Int)),(8,Ve 20)] ?_ ?_
  ·exact⟨Z,Z,H⟩
  clear F H;intro m d a w u F
  obtain⟨rfl,rfl,H⟩:=u
  refine gg 8 λa F=>zi (λo=>?_) λo=>?_
  ·
   omega
  refine gg 7 λa F=>?_
  refine Xi call226 F Z (Xmf W g n c l v κ i E _ H D r O) ?_;rintro e w ⟨rfl,b,t,z,j⟩
  replace H:=j;clear j
  refine zq λa F=>?_
  refine gg 2 λa F=>?_
  refine cLoopS [0,1,2] (λm d w=>∃(q:Nat),m=1/\d=[(6,Ve 20)]/\Own W none w (.rws 3 1 (Vd g 0 n c) (Uo b)::i)) F (1) [(6,Ve 20)] ?_ ?_
  ·exact⟨0,Z,Z,H⟩
  clear F H;intro m d a w u F
  obtain⟨q,rfl,rfl,H⟩:=u
  refine gg 8 λa F=>zi (λs=>?_) λs=>?_
  ·
   omega
  refine gg 1 λa F=>?_
  refine bEnd results178 F ?_
  exact⟨Z,b,t,z,H⟩
 have H:=A
 refine VU func124 Z ntmps124 Z (λa F=>?_)
 refine gg 5 λa F=>?_
 refine Xi call178 F Z (C) ?_;rintro e w ⟨rfl,b,t,z,j⟩
 replace H:=j;clear j
 refine zq λa F=>?_
 refine gg 1 λa F=>?_
 refine bEnd results124 F ?_
 exact⟨Z,b,t,z,H⟩
def κR(r:Rl)(i:Nat):Nat:=(els (r.to i)).length
def coT(N:Nat)(rk:Nat->List Nat):Nat->Rl
 |0=>zR N
 |l+1=>XbQ (coT N rk l) (rk l)
def XbL(E:List EvT)(rk:Nat->List Nat):Nat->By
 |0=>zb
 |l+1=>put (XbL E rk l) l (Bn E (rk l))
structure CoOk (n:Nat) (E:List EvT) (co:Rl) (fi:By) (rk:Nat->List Nat):Prop where
 perm:∀l,l<n->(rk l).Perm (wrL E l)
 head:∀l,l<n->(rk l)[0]?=some l
 key:∀l,l<n->(rk l).Pairwise λx y=>κR co y<κR co x
 few:∀l,l<n->(rk l).length<20
 co:co.cells=(coT E.length rk n).cells
 mem:∀i,i<6->XbL E rk n i=fi (32+i)
theorem Xlb{κ:Nat->Nat}{l:List Nat}(h:XkX κ l l.length):l.Pairwise λx y=>κ y<=κ x:=Ao.2 λp q d c b=>h p q _ _ b c (AA d) (AA c)
theorem XeC{κ:Nat->Nat}:∀{r l:List Nat},l.Perm r->l.Pairwise (λx y=>κ y<=κ x)->r.Pairwise (λx y=>κ y<κ x)->l=r
 | [],l,b,_,_=>b.eq_nil
 |x::r,l,b,d,e=>by
  cases l with
  |nil=>exact absurd b.symm.eq_nil (by simp)
  |cons y l=>
   have c:y=x:=by
    rcases Ap.1 (b.mem_iff.1 (show y∈y::l by simp))with h|h
    ·exact h
    ·have g:κ y<κ x:=(Fd.1 e).1 y h
     rcases Ap.1 (b.mem_iff.2 (show x∈x::r by simp))with h2|h2
     ·exact h2.symm
     ·have:=(Fd.1 d).1 x h2;omega
   subst c;rw[XeC ((List.perm_cons _).1 b) (Fd.1 d).2 (Fd.1 e).2]
theorem XdK{N:Nat}{rk:Nat->List Nat}(h:∀x∈rk l,x<48):(lnS 0 (coT N rk l).cells (rk l).reverse).1=(coT N rk (l+1)).cells:=by
 have b:=Xaj (pre:=[]) (post:=[]) (off:=0) Z (rk l).reverse (coT N rk l) 0 (λx c=>h x (List.mem_reverse.1 c))
 rw[Ak,FI,Ak,FI]at b
 unfold lnS;rw[b];rfl
theorem eTRl:EqT prog 3 58 (.int::List.replicate 48 .wd) true:=by
 have d:EqT prog 1 3 [.int] false:=Br XX (.inr Z)
 have c:EqT prog 1 55 [.wd] false:=eqWd underlying55
 have b:=Xcd (P:=prog) (ks:=[.wd]) underlying56 sizeOf55 isAgg55 (λ_=>rfl) c
 have h:=QE (P:=prog) (D:=2) (kss:=[([.int],false),(Xlt 48 [.wd],true)]) Xu Y
  ⟨Z,by decide,XM,Ye,λ_=>rfl,d.up 1,Z,by decide,sizeOf56,isAgg56,λh=>(by cases h),b,trivial⟩
 exact h
theorem XjP:∀(l:List Nat)(f:Nat->UInt64),Fits (List.replicate l.length .wd) (l.map λi=>d8 (f i))
 | [],_=>trivial
 |_::l,f=>⟨⟨_,Z⟩,XjP l f⟩
theorem XnN(r:Rl):Fits (.int::List.replicate 48 .wd) r.cells:=⟨⟨_,Z⟩,by have:=XjP (List.range 48) r.to;rwa [Aq]at this⟩
theorem XnY:∀(l:List Nat)(f:Nat->UInt64),ceq (l.map λi=>d8 (f i)) (l.map λi=>d8 (f i))=true
 | [],_=>rfl
 |i::l,f=>by rw[FH,ceq,XnY l f];simp[NU,d8]
theorem Xse{x y:Operand}{u v:Rl}(h:u.cells=v.cells):Gu prog .eql 58 x y (.agg u.cells.toArray) (.agg v.cells.toArray) (.bool true):=by
 have b:=bEqT (x':=x) (y':=y) eTRl Y (by decide) (XnN u) (XnN v)
 rw[h]at b⊢
 have c:ceq v.cells v.cells=true:=by
  unfold Rl.cells
  rw[ceq,XnY];simp[NU]
 rw[c]at b;exact b
theorem XiF{w:World}{o k m:Nat}{s:By}(h:w.rangeAt b o (bs n s))(e:k+m<=n):w.rangeAt b (o+k) (bs m (cut s k)):=λj v d=>by
 have c:=(AB.1 d).1
 rw[bs_length]at c;rw[GT c]at d;rw[FY];refine h (k+j) v ?_
 rw[GT O];exact d
theorem Xpf(b o g i j:Nat)(x:XcP)(c:World)(hb:c.cell? ⟨g,0,none⟩=some (Vc b o))(m:c.rangeAt b (o+99) x.v.co.cells)(r:i<48)(s:j<48)(n:Tab6At c):
 Calls prog 125 #[Ve (i:Int),Ve (j:Int),Vc g 0] c λe p=>e=.returned (Ve (cI (κR x.v.co j) (κR x.v.co i)))/\Below c.heap.size c p:=by
 have H:=Own.start c none
 have d:c.cell? ⟨b,o+99+1+i*1,none⟩=some (d8 (x.v.co.to i)):=by rw[FZ,FY _ 1];exact m _ _ (Qw r)
 have q:c.cell? ⟨b,o+99+1+j*1,none⟩=some (d8 (x.v.co.to j)):=by rw[FZ,FY _ 1];exact m _ _ (Qw s)
 refine VU func125 Z ntmps125 Z (λa F=>?_)
 refine gg 5 λa F=>?_
 refine zRO H λH=>?_
 refine gg 5 λa F=>?_
 refine Xf (k:=5) (i:=5) Z F Z (λw=>rIa underlying56 sizeOf55 F Z Z ?_) H (λ_ _ _ h=>h) ?_
 focus omega
 clear F a;intro a F
 refine gg 1 λa F=>?_
 refine Xe 8 Z F Z Z (λw H=>rLd isAgg108 F Z (H.arg hb)) H qq0 (Xg 9 Z Z (λa F w=>rMv F Z) H qq0 (qT 10 Z Y Z Z Z Z (λa F w H=>rNc F Z) H qq0 (Xg 11 Z Z (λa F w=>rFa (f:=3) Yk Z Xt Z Z F Z) H qq0 (Xg 12 Z Z (λa F w=>rFa (f:=1) Xu Z sizeOf56 Z Z F Z) H qq0 λa F=>?_))))
 refine Xf (k:=12) (i:=13) Z F Z (λw=>rIa underlying56 sizeOf55 F Z Z ?_) H (λ_ _ _ h=>h) ?_
 focus omega
 clear F a;intro a F;refine Xe 14 Z F Z Z (λw H=>rLd isAgg55 F Z (H.arg d)) H qq0 λa F=>?_
 refine zEc 7 F (Xjr _ _ (n.own H)) H λa w F H=>?_
 refine V6 H ?_
 refine zEc 15 F (Xjr _ _ (n.own H)) H λa w F H=>?_
 refine gg 1 λa F=>?_
 refine zEc 16 F (XmT _ _ _) H λa w F H=>?_
 refine gg 5 λa F=>?_
 exact⟨Z,H.below⟩
theorem Xeb(b o n:Nat)(x:XcP)(rk:Nat->List Nat)(p:World)(S:ExAt p b o x)(B:x.v.evs.length<=48)(hn:n<=6)(h:CoOk n x.v.evs x.v.co x.v.fi rk)(hT:Tab6At p):
   Calls prog 70 #[Vc b o,Ve (n:Int)] p λe w'=>e=.returned (.bool true)/\Below p.heap.size p w':=by
 have H:=Own.start p none
 obtain⟨E,a6⟩:∃E,x.v.evs=E:=⟨_,Z⟩
 have A:=S.c0
 have N:=S.evs
 rw[a6]at A N B h;refine VU func70 Z ntmps70 Z (λa F=>?_)
 refine gg 2 λa F=>?_
 refine zBx H F λC a w F H=>?_
 refine gg 2 λa F=>?_
 replace H:Own p none w [.blk C [Vc b o] 108]:=H
 refine gg 5 λa F=>?_
 refine zLd F (H.arg A) λa F=>?_
 refine gg 1 λa F=>?_
 refine sBd (cs:=(zR E.length).cells) (places:=[(0,1),(1,48)]) XE Xu Y F Z Z Z Z λa F=>?_
 refine zAl XE H F λI a w F H=>?_
 refine sSr H 0 ?si F Z Z Z ?s1 Z Z ?_
 case si=>exact VT Xt
 case s1=>rfl
 clear H;intro w H
 refine gg 1 λa F=>?_
 replace H:Own p none w [.blk I (VZ (zR 0).cells 0 (zR E.length).cells) 58,.blk C [Vc b o] 108]:=H
 rw[Us (Rl.len _)]at H
 refine gg 2 λa F=>?_
 refine Mj zB61 H F λU a w F H=>?_
 refine gg 8 λa F=>?_
 refine cLoopS [2,5,6,17] (λm q w=>∃l:Nat,m=n-l/\q=[(18,Ve ((l:Nat):Int))]/\l<=n/\Own p none w [.blk U (bs 6 (XbL E rk l)) 61,.blk I (coT E.length rk l).cells 58,.blk C [Vc b o] 108]) F (n) [(18,Ve ((0:Nat):Int))] ?_ ?_
 ·exact⟨0,Z,Z,AU _,H⟩
 clear F H;intro m q a w hI F
 obtain⟨l,rfl,rfl,hl,H⟩:=hI
 refine gg 6 λa F=>zi (λa8=>?_) λa8=>?_
 ·
  have d:l<n:=O
  have aI:(plL E (wrF l) E.length).length<=E.length:=GH
  refine gg 11 λa F=>?_
  replace H:=H.nilRws 3 1
  refine gg 7 λa F=>?_
  refine zLd F (H.arg A) λa F=>?_
  refine gg 4 λa F=>?_
  refine cLoopS [2,5,6,7,17,18,24,25] (λm q w=>∃(k:Nat)(R:Option Addr)(t:Nat),m=E.length-k/\q=[(8,.slice R (plL E (wrF l) k).length t),(26,Ve ((k:Nat):Int))]/\k<=E.length/\Own p none w [.rws 3 1 (.slice R (plL E (wrF l) k).length t) (Uo (plL E (wrF l) k)),.blk U (bs 6 (XbL E rk l)) 61,.blk I (coT E.length rk l).cells 58,.blk C [Vc b o] 108]) F (E.length) [(8,.slice none 0 0),(26,Ve ((0:Nat):Int))] ?_ ?_
  ·exact⟨0,none,0,Z,Z,AU _,H⟩
  clear F H;intro m q a w hI F
  obtain⟨k,R,t,rfl,rfl,hk,H⟩:=hI
  refine gg 6 λa F=>zi (λa3=>?_) λa3=>?_
  ·
   have M:k<E.length:=O
   obtain⟨e,he⟩:∃e,E[k]?=some e:=⟨_,AA M⟩
   obtain⟨bE,oE,g,hE⟩:=N k e.cells (by rw[AD,he];rfl)
   rw[g]at F
   have aL:(plL E (wrF l) k).length<=k:=GH
   have u:=N2 (f:=wrF l) he
   have K:wrF l e=(e.ev.kind==2&&e.ev.loc.toNat==l):=rfl
   refine gg 7 λa F=>?_
   refine zLr F (H.argR hE) λa F=>?_
   refine zAl XO H F λa9 a w F H=>?_
   refine gg 1 λa F=>?_
   refine sSr H 0 ?si F Z Z Z ?s1 Z Z ?_
   case si=>exact VT XG
   case s1=>rfl
   clear H;intro w H
   refine gg 1 λa F=>?_
   replace H:Own p none w [.blk a9 e.cells 156,.rws 3 1 (.slice R (plL E (wrF l) k).length t) (Uo (plL E (wrF l) k)),.blk U (bs 6 (XbL E rk l)) 61,.blk I (coT E.length rk l).cells 58,.blk C [Vc b o] 108]:=H
   refine gg 6 λa F=>?_
   refine zSp 34 F (λT F=>?_) λT F=>?_
   ·
    have s:(e.ev.kind==2)=true:=by simpa using T
    refine gg 8 λa F=>zi (λP=>?_) λP=>?_
    ·
     have Q:(e.ev.loc.toNat:Int)=(l:Int):=by simpa using P
     have L:(e.ev.loc.toNat==l)=true:=by rw[beq_iff_eq];omega
     refine gg 3 λa F=>?_
     refine XeN H Xz XM X4 Z F Z Z Z Z λaK a w F H=>?_
     refine G7 (bytes:=8) H 2 Xz Yd Z Z Z Z Z Z F Z Z Z Z Z (H.whole 0 Z) Z ?s1 ?s2 ?_
     case s1=>rfl
     case s2=>(rw[Uz];omega)
     clear F a H;intro a7 a4 a w F H
     refine gg 6 λa F=>?_
     rw[<-g]at F
     (rw[K,s,L]at u
      have e1:Uo (plL E (wrF l) k)++[[Ve (k:Int)]]=Uo (plL E (wrF l) (k+1)):=by rw[u];unfold Uo;rw[Ae];rfl
      have e2:(Uo (plL E (wrF l) k)++[[Ve (k:Int)]]).length=(plL E (wrF l) (k+1)).length:=by rw[e1];exact Uz _
      rw[e2]at F;rw[e2,e1]at H
      exact⟨_,O,_,⟨k+1,a7,a4,Z,Z,O,H.tail.tail⟩,F.tt⟩)
    have Q:¬(e.ev.loc.toNat:Int)=(l:Int):=by simpa using P
    have L:(e.ev.loc.toNat==l)=false:=by rw[beq_eq_false_iff_ne];omega
    refine gg 5 λa F=>?_
    rw[<-g]at F
    (have Q:plL E (wrF l) (k+1)=plL E (wrF l) k:=by
       rw[u,K]
       (rw[s,L];exact Ak _)
     rw[<-Q]at H F
     exact⟨_,O,_,⟨k+1,R,t,Z,Z,O,H.tail⟩,F.tt⟩)
   have s:(e.ev.kind==2)=false:=by simpa using T
   refine gg 7 λa F=>?_
   refine cIfF F Z ?_
   refine gg 5 λa F=>?_
   rw[<-g]at F
   (have Q:plL E (wrF l) (k+1)=plL E (wrF l) k:=by
      rw[u,K]
      (rw[s];exact Ak _)
    rw[<-Q]at H F
    exact⟨_,O,_,⟨k+1,R,t,Z,Z,O,H.tail⟩,F.tt⟩)
  have M:k=E.length:=O
  refine gg 2 λa F=>?_
  subst M
  have D:=h.perm l d
  have aE:(rk l).length=(plL E (wrF l) E.length).length:=D.length_eq
  have aH:=h.few l d
  have aJ:0<(rk l).length:=(AB.1 (h.head l d)).1
  have G:∀y∈rk l,y<E.length:=λy J=>(mem_pl.1 (D.mem_iff.1 J)).1
  obtain⟨gF,rfl⟩:=JR H 0 Z (λQ=>by
    have h7:=congrArg List.length Q
    rw[Uz]at h7
    have h6:(plL E (wrF l) E.length).length=0:=h7
    omega)
  refine gg 3 λa F=>?_
  refine Xi call124 F Z (Xf7 p gF _ t (plL E (wrF l) E.length) _ (κR x.v.co) [.blk U (bs 6 (XbL E rk l)) 61,.blk I (coT E.length rk l).cells 58,.blk C [Vc b o] 108] (λi j w r hi hj HO=>⟨125,[],[Vc C 0],Z,call125,Xpf b o C i j x w (HO.cell 3 Z Z) (HO.argR S.co) hi hj (hT.own HO)⟩) _ H Z (λy J=>FC (mem_pl.1 J).1 B) O) ?_;rintro e w ⟨rfl,l',hp,a2,X⟩
  replace H:=X
  clear X
  obtain rfl:l'=rk l:=XeC (hp.trans D.symm) (Xlb (by rw[hp.length_eq];exact a2)) (h.key l d)
  refine zq λa F=>?_
  refine gg 5 λa F=>?_
  refine sIx (j:=0) Xz XM F Z Z Z Z ?_ ?_
  focus omega
  clear F a;intro a F
  refine zLd F (GI H 0 Z Uu (UQ (h.head l d))) λa F=>?_
  refine gg 4 λa F=>zi (λa1=>?_) λa1=>?_
  ·
   exact absurd Z a1
  refine gg 2 λa F=>?_
  rw[<-aE]at F H
  have aC:=Xdj H 0 2 Z Z Uu O (by decide)
  obtain⟨bY,oY,aA,W,aG⟩:=aC 0 _ (UQ (h.head l d))
  cases aA
  obtain⟨z,hz⟩:∃z,(rk l)[(rk l).length-1]?=some z:=⟨_,AA O⟩
  have V:z<E.length:=G z (AF hz)
  obtain⟨e,he⟩:∃e,E[z]?=some e:=⟨_,AA V⟩
  have aF:Bn E (rk l)=e.ev.val:=by unfold Bn;rw[AS,hz];show(match E[z]? with|some e=>e.ev.val|none=>0)=_;rw[he]
  obtain⟨bE,oE,g,hE⟩:=N z e.cells (by rw[AD,he];rfl)
  refine gg 2 λa F=>?_
  refine Xi call64 F Z (Md.line_any I 0 (coT E.length rk l).cells 58 (some ⟨gF,0,none⟩) t (rk l) _ (H.blk 2 Z) (H.rowsAt 0 Z Uu O) (λb' o h=>by cases h;exact W) O (λy J=>FC (G y J) B) (by rw[Rl.len];decide)) ?_;rintro e w ⟨rfl,X⟩
  replace H:=H.turned 2 Z X;clear X
  refine zq λa F=>?_
  refine gg 1 λa F=>?_
  rw[XdK (λy J=>FC (G y J) B)]at H
  refine zRO H λH=>?_
  refine gg 4 λa F=>?_
  refine Xe 4 Z F Z Z (λw H=>rLd isAgg53 F Z (show _=some (Value.slice (some ⟨bE,oE,none⟩) E.length x.c)from g▸H.arg A)) H qq0 λa F=>?_
  refine gg 5 λa F=>?_
  refine Xe 10 Z F Z Z (λw H=>rLd Ye F Z (GI H 0 Z Uu (UQ hz))) H qq0 λa F=>?_
  refine Xf (k:=11) (i:=11) Z F Z (λw=>rIx XK XG F Z Z ?_) H (λ_ _ _ h=>h) ?_
  focus exact V
  clear F a;intro a F
  refine gg 1 λa F=>?_
  refine Xe 13 Z F Z Z (λw H=>rLd XD F Z (H.arg (hE 3 _ Z))) H qq0 λa F=>?_
  refine Xf (k:=14) (i:=14) Z F Z (λw=>Xq9 XC Xr F Z Z ?_) H (λ_ _ _ h=>h) ?_
  focus(omega)
  clear F a;intro a F;refine Xd (k:=15) (i:=15) Z F (oStB H 1 Xr F Z Z Z O λw H=>?_)
  refine gg 2 λa F=>?_
  have aB:XbL E rk (l+1)=put (XbL E rk l) l e.ev.val:=by rw[XbL,aF]
  replace H:Own p none w [.rws 3 1 (Vd gF 0 (rk l).length t) (Uo (rk l)),.blk U (bs 6 (XbL E rk (l+1))) 61,.blk I (coT E.length rk (l+1)).cells 58,.blk C [Vc b o] 108]:=by rw[aB];exact H
  refine gg 4 λa F=>?_
  exact⟨_,O,_,⟨l+1,Z,Z,O,H.tail⟩,F.tt⟩
 have d:l=n:=O
 refine gg 2 λa F=>?_
 subst d
 refine zRO H λH=>?_
 refine Xa (k:=0) (i:=0) Z F Z Z (λw H=>rLr Xu Z ?si F Z (H.whole 1 Z)) H (λ_ _ _ h=>h) ?_
 case si=>rw[Rl.len];exact VT Xt
 clear F a;intro a F
 refine gg 3 λa F=>?_
 refine Xa (k:=4) (i:=4) Z F Z Z (λw H=>rLr Xu Z ?si F Z (H.argR S.co)) H (λ_ _ _ h=>h) ?_
 case si=>rw[Rl.len];exact VT Xt
 clear F a;intro a F;refine Xb 5 Z F Z (λw=>Gt F Z Z (Xse h.co.symm)) H qq0 λa F=>?_
 refine gg 1 λa F=>?_
 refine F.split 78 Z (λaD F=>?_) λaD F=>?_
 ·
  refine Xe 7 Z F Z Z (λw H=>L3 XC Z XB F Z (H.whole 0 Z)) H qq0 λa F=>?_
  refine gg 4 λa F=>?_
  refine Xe 12 Z F Z Z (λw H=>L3 XC Z XB F Z (H.argR (XiF (k:=32) (m:=6) S.fi O))) H qq0 (Xg 13 Z Z (λa F w=>Gt F Z Z (bEqY eT61 gT61 Z)) H qq0 λa F=>?_)
  refine gg 5 λa F=>?_
  have a5:same 6 (XbL E rk l) (cut x.v.fi 32)=true:=same_iff.2 λi hi=>h.mem i hi
  refine⟨?_,H.below⟩
  rw[a5]
 cases aD
theorem B5(p:Rl×UInt64)(l:List Nat)(x:Nat):Ej p (l++[x])=((Ej p l).1.put x (Ej p l).2,(Ej p l).2|||bit x):=by unfold Ej;rw[Fs];rfl
theorem XbO(q:Rl):∀(l:List Nat),(∀x∈l,x<64)->∀b,has (Ej (q,0) l.reverse).2 b=decide (b∈l)
 | [],_,b=>by show has 0 b=_;rw[V8];simp
 |x::l,h,b=>by
  rw[List.reverse_cons,B5]
  show has (_|||bit x) b=_
  rw[GR,XbO q l (λy c=>h y (by simp[c])),Gx (h x (by simp))]
  by_cases e:b∈l<;>by_cases d:x=b<;>simp_all[eq_comm]
def Aft(l:List Nat)(a b:Nat):Prop:=∃i j:Nat,i<j/\l[i]?=some a/\l[j]?=some b
theorem XaV{a:Nat}{l:List Nat}:Aft (x::l) a b↔(x=a/\b∈l)\/Aft l a b:=by
 constructor
 ·rintro⟨i,j,e,d,c⟩
  cases j with
  |zero=>omega
  |succ j=>
   cases i with
   |zero=>exact .inl ⟨Ac d,AF (by simpa using c)⟩
   |succ i=>exact .inr ⟨i,j,O,by simpa using d,by simpa using c⟩
 ·rintro(⟨rfl,h⟩|⟨i,j,e,d,c⟩)
  ·obtain⟨j,g⟩:=Af.1 h
   exact⟨0,j+1,O,Z,by simpa using g⟩
  ·exact⟨i+1,j+1,O,by simpa using d,by simpa using c⟩
theorem Bf{l:List Nat}{a:Nat}(h:Aft l a b):a∈l/\b∈l:=by
 obtain⟨i,j,_,d,c⟩:=h
 exact⟨AF d,AF c⟩
theorem XbP(q:Rl):∀(l:List Nat),(∀x∈l,x<64)->l.Nodup->∀a b,(XbQ q l).has a b=true↔(Aft l a b\/(a∉l/\q.has a b=true))
 | [],_,_,a,b=>by
   show q.has a b=true↔_
   exact⟨λh=>.inr ⟨IE,h⟩,λh=>h.elim (λ⟨i,j,_,h,_⟩=>by simp at h) (·.2)⟩
 |x::l,h,m,a,b=>by
  obtain⟨o,m⟩:=List.nodup_cons.1 m
  have p:=XbP q l (λy d=>h y (by simp[d])) m a b
  have e:XbQ q (x::l)=(XbQ q l).put x (Ej (q,0) l.reverse).2:=by unfold XbQ;rw[List.reverse_cons,B5]
  rw[e,XiI,XaV]
  by_cases c:a=x
  ·rw[if_pos c,XbO q l (λy d=>h y (by simp[d])),decide_eq_true_eq]
   subst c
   exact⟨λh=>.inl (.inl ⟨Z,h⟩),λh=>h.elim (λh=>h.elim (·.2) (λh=>absurd (Bf h).1 o)) (λh=>absurd (IT) h.1)⟩
  ·rw[if_neg c,p]
   constructor
   ·rintro(h|⟨n,g⟩)
    ·exact .inl (.inr h)
    ·exact .inr ⟨by simp[c,n],g⟩
   ·rintro((⟨h,_⟩|h)|⟨n,g⟩)
    ·exact absurd h.symm c
    ·exact .inl h
    ·exact .inr ⟨λh=>n (by simp[h]),g⟩
structure LinesOk (N n:Nat) (rk:Nat->List Nat):Prop where
 nodup:∀l,l<n->(rk l).Nodup
 lt:∀l,l<n->∀x∈rk l,x<N
 apart:∀l k x,l<n->k<n->x∈rk l->x∈rk k->l=k
section
variable{N n:Nat}{rk:Nat->List Nat}(h:LinesOk N n rk)(hN:N<=48)
include h hN
theorem XaH{a b:Nat}:∀L,L<=n->((coT N rk L).has a b=true↔∃l,l<L/\Aft (rk l) a b)
 |0,_=>by
  show has 0 b=true↔_
  rw[V8]
  exact⟨λh=>(by cases h),λ⟨l,h,_⟩=>absurd h (Fx _)⟩
 |L+1,m=>by
  have g:=XaH (a:=a) (b:=b) L O
  have d:=h.lt L O
  rw[coT,XbP _ _ (λx j=>by have:=d x j;omega) (h.nodup L O),g]
  constructor
  ·rintro(e|⟨_,l,e,c⟩)
   ·exact⟨L,Fc _,e⟩
   ·exact⟨l,O,c⟩
  ·rintro⟨l,e,c⟩
   rcases AN l L with h3|h3
   ·refine .inr ⟨λi=>?_,l,h3,c⟩
    have:=h.apart l L a O O (Bf c).1 i
    omega
   ·obtain rfl:l=L:=O
    exact .inl c
theorem co_rl:RlN N (coT N rk n):=by
 have d:∀L,(coT N rk L).n=N:=λL=>by
  induction L with
  |zero=>rfl
  |succ L i=>rw[coT,Xpd];exact i
 refine⟨⟨by rw[d];exact hN,λa b c=>?_⟩,d n⟩
 obtain⟨l,g,e⟩:=(XaH h hN n (AI _)).1 c
 rw[d]
 exact⟨h.lt l g a (Bf e).1,h.lt l g b (Bf e).2⟩
theorem XnX{i:Nat}(e:l<n)(m:(rk l)[i]?=some x):κR (coT N rk n) x=(rk l).length-1-i:=by
 have d:=h.nodup l e
 have v:(els ((coT N rk n).to x)).Perm ((rk l).drop (i+1)):=by
  refine(List.perm_ext_iff_of_nodup ?_ (d.sublist (List.drop_sublist _ _))).2 λb=>?_
  ·unfold els;exact List.Pairwise.filter _ List.nodup_range
  ·rw[mem_els]
   refine(XaH h hN (a:=x) (b:=b) n (AI _)).trans ⟨?_,λy=>?_⟩
   ·rintro⟨k,A,c,j,z,u,w⟩
    obtain rfl:=h.apart k l x A e (AF u) (AF m)
    obtain⟨s,t⟩:=AB.1 u
    obtain⟨o,p⟩:=AB.1 m
    have g:c=i:=by
     have q:=Ao.1 d
     rcases F5 c i with h9|h9|h9
     ·exact absurd (t.trans p.symm) (q c i s o h9)
     ·exact h9
     ·exact absurd (p.trans t.symm) (q i c o s h9)
    subst g
    exact AF (i:=j-(c+1)) (by rw[Fi,show c+1+(j-(c+1))=j by omega];exact w)
   ·obtain⟨j,r⟩:=Af.1 y
    rw[Fi]at r
    exact⟨l,e,i,i+1+j,O,m,r⟩
 unfold κR
 rw[v.length_eq,Fm];omega
theorem XpF(b:l<n):(rk l).Pairwise λx y=>κR (coT N rk n) y<κR (coT N rk n) x:=by
 refine Ao.2 λi j d c e=>?_
 rw[XnX h hN b (AA d),XnX h hN b (AA c)]
 omega
end
structure RightOk (n:Nat) (v:XcV) (rk:Nat->List Nat):Prop where
 evs:EvsOk n v.evs
 po:RlN v.evs.length v.po
 rf:RlN v.evs.length v.rf
 co:RlN v.evs.length v.co
 da:RlN v.evs.length v.da
 ct:RlN v.evs.length v.ct
 rm:RlN v.evs.length v.rm
 poE:v.po.cells=(poR v.evs).cells
 rfE:RfOk v.evs v.rf
 coE:CoOk n v.evs v.co v.fi rk
 depE:DepOk v.evs v.po v.da v.ct v.rm
theorem XoP{v:XcV}{rk:Nat->List Nat}(h:RightOk n v rk)(g:j<6):∃(e:Nat)(r:Rl),[Vc b (0+1),Vc b (0+50),Vc b (0+99),Vc b (0+148),Vc b (0+197),Vc b (0+246)][0+j*1]?=some (Vc b e)/\RlN v.evs.length r/\∀w A c,ExAt w b 0 ⟨v,A,c⟩->w.rangeAt b e r.cells:=by
 match j,g with
 |0,_=>exact⟨_,v.po,Z,h.po,λw A c d=>d.po⟩
 |1,_=>exact⟨_,v.rf,Z,h.rf,λw A c d=>d.rf⟩
 |2,_=>exact⟨_,v.co,Z,h.co,λw A c d=>d.co⟩
 |3,_=>exact⟨_,v.da,Z,h.da,λw A c d=>d.da⟩
 |4,_=>exact⟨_,v.ct,Z,h.ct,λw A c d=>d.ct⟩
 |5,_=>exact⟨_,v.rm,Z,h.rm,λw A c d=>d.rm⟩
theorem Xgc(n:Nat)(x:XcP)(rk:Nat->List Nat)(g:World)(E:RowsAt g x.A 7 (x.v.evs.map EvT.cells))(h:RightOk n x.v rk)(I:Tab6At g):
 Calls prog 38 #[.agg x.cells.toArray] g λe T=>e=.returned (.bool true)/\Below g.heap.size g T:=by
 have H:=Own.start g none
 have p:=h.evs.l48
 have U:=h.evs.n1
 have K:=h.evs.n6
 refine VU func38 Z ntmps38 Z (λa F=>?_)
 refine gg 2 λa F=>?_
 refine zBx H F λd a w F H=>?_
 refine gg 2 λa F=>?_
 replace H:Own g none w [.blk d x.cells 65]:=H
 have o:∀w q,Own g none w (.blk d x.cells 65::q)->ExAt w d 0 x:=λw q H=>⟨H.whole 0 Z,E.own H⟩
 refine gg 4 λa F=>?_
 refine sLd isAgg53 F Z Z Z (o _ _ H).c0 λa F=>?_
 refine gg 4 λa F=>zi (λz=>?_) λz=>?_
 ·
  omega
 refine gg 4 λa F=>?_
 refine sLd isAgg53 F Z Z Z (o _ _ H).c0 λa F=>?_
 refine zCa F (XbZ x.A x.c n x.v.evs _ (E.own H) h.evs) H λa w F H=>?_
 refine gg 8 λa F=>?_
 refine zSp 15 F (λV F=>?_) λV F=>?_
 ·
  omega
 refine gg 4 λa F=>?_
 refine zSp 19 F (λS F=>?_) λS F=>?_
 ·
  omega
 refine gg 1 λa F=>?_
 refine sLd isAgg53 F Z Z Z (o _ _ H).c0 λa F=>?_
 refine gg 1 λa F=>?_
 refine zCa F (XgW x.A x.c n x.v.evs _ (E.own H) h.evs) H λa w F H=>?_
 refine gg 4 λa F=>zi (λy=>?_) λy=>?_
 ·
  cases y
 refine gg 10 λa F=>?_
 refine sBs (cs:=[Vc d (0+1),Vc d (0+50),Vc d (0+99),Vc d (0+148),Vc d (0+197),Vc d (0+246)]) H underlying161 sizeOf158 zeroValue158 Z F Z Z Z Z Z λC a w F H=>?_
 refine gg 3 λa F=>?_
 replace H:Own g none w [.blk d x.cells 65,.blk C [Vc d (0+1),Vc d (0+50),Vc d (0+99),Vc d (0+148),Vc d (0+197),Vc d (0+246)] 158]:=H.swapN 1 1
 refine gg 1 λa F=>?_
 refine cLoopS [1,3,32,33] (λm u w=>∃j:Nat,m=6-j/\u=[(34,Ve ((j:Nat):Int))]/\j<=6/\Own g none w [.blk d x.cells 65,.blk C [Vc d (0+1),Vc d (0+50),Vc d (0+99),Vc d (0+148),Vc d (0+197),Vc d (0+246)] 158]) F (6) [(34,Ve ((0:Nat):Int))] ?_ ?_
 ·exact⟨0,Z,Z,AU _,H⟩
 clear F H;intro m u a w W F
 obtain⟨j,rfl,rfl,X,H⟩:=W
 refine gg 6 λa F=>zi (λs=>?_) λs=>?_
 ·
  have P:j<6:=by have z:(j:Int)<6:=s;omega
  obtain⟨N,r,B,R,t⟩:=XoP (b:=d) h P
  have M:∀w q,Own g none w (.blk d x.cells 65::q)->w.cell? ⟨d,N+0,none⟩=some (Ve (x.v.evs.length:Int)):=λw q H=>by
   have z:=t w x.A x.c (o w q H) 0 (Ve (r.n:Int)) Z
   rw[R.n]at z;exact z
  refine gg 6 λa F=>?_
  refine zLd F (H.cell 1 Z B) λa F=>?_
  refine gg 3 λa F=>?_
  refine zRO H λH=>?_
  refine gg 3 λa F=>?_
  refine Xe 3 Z F Z Z (λw H=>rLd isAgg3 F Z (M _ _ H)) H qq0 λa F=>?_
  refine gg 1 λa F=>?_
  refine Xe 5 Z F Z Z (λw H=>rLd isAgg53 F Z (o _ _ H).c0) H qq0 λa F=>?_
  refine gg 3 λa F=>?_
  refine zSp 46 F (λQ F=>?_) λQ F=>?_
  ·
   exact absurd Z Q
  refine gg 2 λa F=>?_
  refine Xa (k:=11) (i:=11) Z F Z Z (λw H=>rLr underlying58 Z ?si F Z (t _ x.A x.c (o _ _ H))) H (λ_ _ _ h=>h) ?_
  case si=>rw[Rl.len];exact VT sizeOf58
  clear F a;intro a F
  refine zEc 12 F (G8 r _ R.ok) H λa w F H=>?_
  refine gg 5 λa F=>zi (λD=>?_) λD=>?_
  ·
   cases D
  refine gg 5 λa F=>?_
  exact⟨_,O,_,⟨j+1,Z,Z,O,H⟩,F.tt⟩
 refine gg 2 λa F=>?_
 refine zRO H λH=>?_
 refine gg 1 λa F=>?_
 refine Xa (k:=1) (i:=1) Z F Z Z (λw H=>rLr underlying58 Z ?si F Z (o _ _ H).po) H (λ_ _ _ h=>h) ?_
 case si=>rw[Rl.len];exact VT sizeOf58
 clear F a;intro a F
 refine gg 1 λa F=>?_
 refine Xe 3 Z F Z Z (λw H=>rLd isAgg53 F Z (o _ _ H).c0) H qq0 λa F=>?_
 refine zEc 4 F (Xnu x.A x.c x.v.evs _ (E.own H) p) H λa w F H=>?_
 refine V6 H ?_;refine Xb 5 Z F Z (λw=>Gt F Z Z (Xse h.poE)) H qq0 λa F=>?_
 refine gg 1 λa F=>?_
 refine F.split 60 Z (λG F=>?_) λG F=>?_
 ·
  refine zEc 7 F (Xdl d 0 x _ (o _ _ H) p h.rfE (I.own H)) H λa w F H=>?_
  refine gg 3 λa F=>?_
  refine F.split 63 Z (λL F=>?_) λL F=>?_
  ·
   refine gg 1 λa F=>?_
   refine zEc 11 F (Xeb d 0 n x rk _ (o _ _ H) p K h.coE (I.own H)) H λa w F H=>?_
   refine gg 3 λa F=>?_
   refine F.split 67 Z (λJ F=>?_) λJ F=>?_
   ·
    refine zEc 14 F (Xcm d 0 x _ (o _ _ H) p h.depE (I.own H)) H λa w F H=>?_
    refine gg 6 λa F=>?_
    exact⟨Z,H.below⟩
   cases J
  cases L
 cases G
theorem XlN{S:List Nat}(h:d∈JA S){s:Nat}(hs:s∈S):s<=(JA S).length:=by
 obtain⟨g,e⟩:=mem_odo.1 h
 refine XdC (λj=>?_) hs
 obtain⟨i,b⟩:=Af.1 j
 obtain⟨k,c⟩:∃k,d[i]?=some k:=⟨_,AA (by rw[g];exact(AB.1 b).1)⟩
 exact absurd (e i k 0 c b) (Fx _)
section
variable{E:List EvT}{n:Nat}{d:List Nat}
theorem Xbq(h:d∈JA (szL E n))(j:l<n):rkD E n d l∈GG (wrL E l)/\(GG (wrL E l)).length<=(JA (szL E n)).length:=by
 obtain⟨o,m⟩:=mem_odo.1 h
 have g:(Qn E n)[l]?=some (wrL E l):=by unfold Qn;rw[AD,Av j];rfl
 have e:((Gv E).map List.length).length=(rdL E).length:=by unfold Gv;rw[AH,AH]
 have b:(szL E n)[(rdL E).length+l]?=some (GG (wrL E l)).length:=by
  unfold szL
  rw[AQ (by rw[e];omega),e,Fq,AD,g];rfl
 obtain⟨k,i⟩:∃k,d[(rdL E).length+l]?=some k:=⟨_,AA (by rw[o];exact(AB.1 b).1)⟩
 have c:=m _ k _ i b
 refine⟨?_,XlN h (AF b)⟩
 unfold rkD
 rw[AS (l:=Qn E n),g,AS (l:=d),i]
 show(GG (wrL E l)).getD k []∈GG (wrL E l)
 rw[AS,AA c]
 exact Ff c
theorem NJ(h:x∈wrL E l):x<E.length/\∃e,E[x]?=some e/\e.ev.kind=2/\e.ev.loc.toNat=l:=by
 obtain⟨c,e,d,b⟩:=mem_pl.1 h
 unfold wrF at b
 rw[AJ,beq_iff_eq,beq_iff_eq]at b
 exact⟨c,e,d,b⟩
theorem Xak(g:E.length<=48)(h:d∈JA (szL E n)):LinesOk E.length n (rkD E n d):=by
 have c:∀l,l<n->(rkD E n d l).Perm (wrL E l):=λl b=>MA (AW GH g) (Xbq h b).1
 refine⟨λl b=>?_,λl b x q=>?_,λl k x b j p o=>?_⟩
 ·exact((c l b).nodup_iff).2 (pl_inc.imp λh=>IJ h)
 ·exact(NJ ((c l b).mem_iff.1 q)).1
 ·obtain⟨_,e,m,_,s⟩:=NJ ((c l b).mem_iff.1 p)
  obtain⟨_,f,i,_,r⟩:=NJ ((c k j).mem_iff.1 o)
  rw[m]at i
  cases i
  omega
theorem Xcs:∀L,coJ E n d L=coT E.length (rkD E n d) L
 |0=>rfl
 |L+1=>by rw[coJ,coT,Xcs L]
theorem Xjj{f:By}(c:∀i,i<6->f (32+i)=0):∀L i,i<6->XbL E (rkD E n d) L i=fiJ E n d f L (32+i)
 |0,i,b=>(c i b).symm
 |L+1,i,b=>by
  have e:=Xjj c L i b
  unfold XbL fiJ put
  by_cases h:i=L
  ·rw[if_pos h,if_pos O]
  ·rw[if_neg h,if_neg O];exact e
end
theorem XdT{ps:List PathP}(c:ps.length<=4):∀J,J<=ps.length->∀i,fiK ps J (32+i)=0
 |0,_,_=>rfl
 |J+1,d,i=>by
  obtain⟨q,b⟩:∃q,ps[J]?=some q:=⟨_,AA O⟩
  rw[Xaq b]
  unfold lay
  rw[if_neg O]
  exact XdT c J O i
theorem Xen{v:List UInt8}{J:Nat}(m:v.length<=6)(g:l<v.length):(wrL (UE v ps J) l)[0]?=some l:=by
 obtain⟨i,d⟩:=Af.1 (B8 (ps:=ps) (j:=J) m g)
 cases i with
 |zero=>exact d
 |succ i=>
  exfalso
  obtain⟨n,o⟩:=AB.1 d
  have c:0<(wrL (UE v ps J) l).length:=O
  have p:(wrL (UE v ps J) l)[0]<(wrL (UE v ps J) l)[i+1]:=Ao.1 pl_inc 0 (i+1) c n (Nat.succ_pos _)
  rw[o]at p
  obtain⟨_,e,b,_,r⟩:=NJ (Ff c)
  rw[GM (AA (show(wrL (UE v ps J) l)[0]<v.length by omega))]at b
  have q:(UInt8.ofNat (wrL (UE v ps J) l)[0]).toNat=e.ev.loc.toNat:=congrArg (λt:EvT=>t.ev.loc.toNat) (Ac b)
  rw[ofN O]at q
  omega
theorem Xpq{m:Nat}(h:m<=n):Q9 m<=Q9 n:=by
 induction h with
 |refl=>exact AI _
 |step _ b=>exact AW b (Nat.le_mul_of_pos_left _ (Nat.succ_pos _))
theorem Xlx{b:List Nat}(c:b.length<=48):(GG b).length=Q9 (b.length-1):=by unfold GG;rw[AH,XiJ c]
theorem XiD{b o:List Nat}(c:b.length<=48)(d:b[0]?=some x)(h:o∈GG b):o[0]?=some x:=by
 obtain⟨k,e,rfl⟩:=AT.1 h
 cases b with
 |nil=>cases d
 |cons y b=>
  obtain⟨g,rfl⟩:=XlA c e
  exact d
theorem co_ok{v:List UInt8}(j:v.length<=6)(o:ps.length<=4)(c:V1 v ps ps.length<=48)(h:d∈JA (szL (UE v ps ps.length) v.length))(g:(JA (szL (UE v ps ps.length) v.length)).length<=10000):
 CoOk v.length (UE v ps ps.length) (coJ (UE v ps ps.length) v.length d v.length) (fiJ (UE v ps ps.length) v.length d (fiK ps ps.length) v.length) (rkD (UE v ps ps.length) v.length d):=by
 have e:∀l,(wrL (UE v ps ps.length) l).length<=48:=λl=>AW GH c
 have p:=Xak c h
 refine⟨λl b=>MA (e l) (Xbq h b).1,λl b=>XiD (e l) (Xen j b) (Xbq h b).1,λl b=>?_,λl b=>?_,by rw[Xcs],λi q=>Xjj (λi _=>XdT o _ (AI _) i) _ i q⟩
 ·rw[Xcs];exact XpF p c b
 ·obtain⟨n,m⟩:=Xbq h b
  rw[(MA (e l) n).length_eq];rw[Xlx (e l)]at m
  rcases AN (wrL (UE v ps ps.length) l).length 20 with h9|h9
  ·exact h9
  ·have r:=Xpq (show 8<=(wrL (UE v ps ps.length) l).length-1 by omega)
   have:Q9 8=40320:=rfl
   omega
theorem Co{p:Prg}{i:List UInt8}(m:Valid p)(n:ps∈JT p i)(b:V1 p.init ps ps.length<=48)(hd:d∈JA (szL (UE p.init ps ps.length) p.init.length))(j:(JA (szL (UE p.init ps ps.length) p.init.length)).length<=10000):
 RightOk p.init.length (Uq p.init ps d) (rkD (UE p.init ps ps.length) p.init.length d):=by
 have e:=Xjg m n
 have o:p.init.length<=6:=by rw[m.init];exact m.locs6
 have s:=XqE hd
 exact {
  evs:=Xj1 m e b
  po:=⟨⟨b,λx y c=>by
   have c:(poR (UE p.init ps ps.length)).has x y=true:=c
   rw[Xbv b]at c
   unfold poB at c
   rw[AJ,decide_eq_true_eq]at c
   obtain⟨t,r⟩:=c
   show x<(UE p.init ps ps.length).length/\y<(UE p.init ps ps.length).length
   rcases AN y (UE p.init ps ps.length).length with h3|h3
   ·exact⟨O,h3⟩
   ·rw[AV h3]at r
    split at r<;>simp_all⟩,Z⟩
  rf:=⟨(Xq4 b s).ok,Xlr _⟩
  co:=by
   show RlN _ (coJ _ _ _ _)
   rw[Xcs];exact co_rl (Xak b hd) b
  da:=XoL b λq g=>(e.pairs g).1
  ct:=XoL b λq g=>(e.pairs g).2.1
  rm:=XoL b λq g=>(e.pairs g).2.2
  poE:=rfl
  rfE:=Xq4 b s
  coE:=co_ok o (by rw[e.len];exact m.thr4) b hd j
  depE:=Xr1 e b}
theorem D7{p:Prg}{c:Nat}(r:VX p=0)(e:c<=10000)(g:CandGo p c):∀v∈Uf p,∃n rk,RightOk n v rk:=λv q=>by
 obtain⟨ps,b,j⟩:=Hh.1 q
 obtain⟨d,o,rfl⟩:=AT.1 j
 refine⟨_,_,Co (valid r) b (g.small ps b) o ?_⟩
 refine AW ?_ (AW g.few e)
 obtain⟨i,s⟩:=Af.1 b
 unfold Uf
 have m:=(List.sublist_flatten_of_mem (AT.2 ⟨ps,b,Z⟩:UG p.init ps∈(JT p (V5 p 16).1).map (UG p.init))).length_le
 unfold UG at m
 rw[AH]at m
 exact m
structure Pss where
 t:UInt8
 d:Bool
 l:UInt8
deriving DecidableEq
def Pss.cells(x:Pss):List Value:=[b8 x.t,.bool x.d,b8 x.l]
def VW(s:By)(t:Nat):Nat:=(s (138+t)).toNat
def UD(s:By)(t i:Nat):UInt8:=s (42+t*24+i*2)
def QL(s:By)(t i:Nat):UInt8:=s (42+t*24+i*2+1)
def Gb(m:UInt8):Bool:=decide (1<=m)&&decide (m<=3)
def Gc(s:By):By:=λi=>if i<42 then s i else 0
def J0(p:Prg)(m:UInt8)(s:By)(t:Nat):Nat:=if m≠1/\t<p.threads.length then(s (t*9)).toNat else 0
def Uy(p:Prg)(m:UInt8)(s:By)(t i:Nat):Bool:=
 if VW s t<=i then UD s t i==0&&QL s t i==0
 else decide ((UD s t i).toNat<p.locs.length) && !(m==3&&decide (0<i)&&decide (UD s t i<UD s t (i-1)))
def Qg(p:Prg)(m:UInt8)(s:By)(t:Nat):Bool:=decide (VW s t<=J0 p m s t)&&XkV 12 (Uy p m s t)
def JQ(p:Prg)(m:UInt8)(s:By):Bool:=Gb m&&UC p (Gc s)&&XkV 4 (Qg p m s)
def Gh(x:Ins)(m:UInt8)(s:By)(t:Nat):Bool:=
 if x.op=4\/x.op=5\/x.op=6 then s (138+t)==0
 else if x.op=7 then !(x.mode==3||(m==3&&x.mode==5))||s (138+t)==0
 else true
def Ud(p:Prg)(m:UInt8)(s:By)(t:Nat):Bool:=match NE p s t with
 |some x=>Gh x m s t
 |none=>false
def V4(m:UInt8)(s:By)(t i:Nat):Pss:=⟨UInt8.ofNat t,true,if m=3 then UD s t i else 0⟩
def Uh(m:UInt8)(s:By)(t:Nat):Nat->List Pss
 |0=>[]
 |n+1=>if n=0\/(m=3/\UD s t n≠UD s t (n-1))then Uh m s t n++[V4 m s t n]else Uh m s t n
def L8(p:Prg)(m:UInt8)(s:By)(t:Nat):List Pss:=(if Ud p m s t=true then[⟨UInt8.ofNat t,false,0⟩]else[])++Uh m s t (VW s t)
def UU(p:Prg)(m:UInt8)(s:By):Nat->List Pss
 |0=>[]
 |n+1=>UU p m s n++L8 p m s n
def V0(p:Prg)(m:UInt8)(s:By):List Pss:=UU p m s p.threads.length
def GQ(p:Prg)(m:UInt8)(s:By):List Pss:=if JQ p m s then V0 p m s else[]
def J3(m:UInt8)(s:By)(t:Nat)(b:UInt8):Nat->Nat
 |0=>0
 |n+1=>if m=3/\b<UD s t n then J3 m s t b n else n+1
def stP(loc b:UInt8):By:=λi=>if i=0 then loc else if i=1 then b else 0
def Xei(s:By)(t a:Nat)(b:By):By:=put (lay (lay s (42+t*24+(a+1)*2) ((VW s t-a)*2) (cut s (42+t*24+a*2))) (42+t*24+a*2) 2 b) (138+t) (s (138+t)+1)
def addP(m:UInt8)(s:By)(t:Nat)(b:By):By:=Xei s t (J3 m s t (b 0) (VW s t)) b
def Qi(m:UInt8)(s:By)(t:Nat)(b:UInt8):Nat->Nat->Nat
 |0,i=>i
 |f+1,i=>if m=3/\UD s t i≠b then Qi m s t b f (i+1)else i
def Na(m:UInt8)(s:By)(t:Nat)(b:UInt8):Nat:=Qi m s t b (VW s t) 0
def UJ(s:By)(t a:Nat):By:=
 put (put (lay (lay s (42+t*24+a*2) ((VW s t-1-a)*2) (cut s (42+t*24+(a+1)*2))) (42+t*24+(VW s t-1)*2) 2 zb) (138+t) (s (138+t)-1)) (36+(UD s t a).toNat) (QL s t a)
def MY(m:UInt8)(s:By)(t:Nat)(b:UInt8):By:=UJ s t (Na m s t b)
def seenN(s:By)(t:Nat)(b:UInt8):Nat->UInt8
 |0=>s (36+b.toNat)
 |n+1=>if UD s t n=b then QL s t n else seenN s t b n
def ND(s:By)(t:Nat)(b:UInt8):UInt8:=seenN s t b (min (VW s t) 12)
def Up(m:UInt8)(x:Ins)(s:By)(t:Nat):By:=
 if x.op=1 then lay s (t*9) 9 (XgU x (cut s (t*9)) (ND s t x.loc))
 else if x.op=2 then lay (if m=1 then put s (36+x.loc.toNat) (Qq x (cut s (t*9)))else addP m s t (stP x.loc (Qq x (cut s (t*9))))) (t*9) 9 (put (cut s (t*9)) 0 (s (t*9)+1))
 else if x.op=4\/x.op=5\/x.op=6 then N5 x s t
 else lay s (t*9) 9 (Je x (cut s (t*9)))
def Uw(p:Prg)(m:UInt8)(s:By)(x:Pss):By:=
 if x.d=true then MY m s x.t.toNat x.l
 else match NE p s x.t.toNat with
  |some i=>Up m i s x.t.toNat
  |none=>s
def Xdw(b:List UInt8)(n:Nat)(l:List Pss):Pss:=l.getD (match b[n]? with|some x=>x.toNat%l.length|none=>0) ⟨0,false,0⟩
def Xdu(p:Prg)(m:UInt8)(b:List UInt8):Nat->By->List Pss->By×List Pss
 |0,s,c=>(s,c)
 |n+1,s,c=>let l:=V0 p m s
  if l=[]then(s,c)else Xdu p m b n (Uw p m s (Xdw b c.length l)) (c++[Xdw b c.length l])
end Go.Proofs.YtajfpcgbnflceaaGreatDoor
