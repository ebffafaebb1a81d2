/- Plain Lean: bytes by place, sorted in a range by exchanges. Conditions: none. -/
import Derived.Test.YtajfpcgbnflceaaGreatDoorVcL
import Derived.Deep.OwnRows
import Derived.Laws.OwnMore
import Derived.Lib.BufferMore
set_option linter.unusedSimpArgs false
set_option linter.unusedVariables false
namespace Go.Proofs.YtajfpcgbnflceaaGreatDoor
open Go.RowKit
set_option maxRecDepth 100000
variable{A:Option Addr}{a a0 b b0 c f gb hi i j k m n o size sz:Nat}{cs r:List Value}{d s:By}{e t:TypeId}{k':IntKind}{lo x y:Operand}{ps:List (Nat×Value)}{rows:List (List Value)}{v z:Value}
def swp(d:By)(i j:Nat):By:=λk=>if k=i then d j else if k=j then d i else d k
theorem XiH(d:By)(i j:Nat):put (put d i (d j)) j (d i)=swp d i j:=by
 funext k
 unfold put swp
 by_cases b:k=j
 ·rw[if_pos b]
  by_cases c:k=i
  ·rw[if_pos c,<-b,c]
  ·rw[if_neg c,if_pos b]
 ·rw[if_neg b,if_neg b]
structure Sm (a b:Nat) (d d':By):Prop where
 out:∀i,¬(a<=i/\i<b)->d' i=d i
 to:∀i,a<=i->i<b->∃j,a<=j/\j<b/\d' i=d j
 fro:∀j,a<=j->j<b->∃i,a<=i/\i<b/\d' i=d j
theorem Sm.refl(a b:Nat)(d:By):Sm a b d d:=⟨λ_ _=>rfl,λi e c=>⟨i,e,c,Z⟩,λi e c=>⟨i,e,c,Z⟩⟩
theorem Sm.trans{e f:By}(h:Sm a b d e)(g:Sm a b e f):Sm a b d f where
 out:=λi hi=>(g.out i hi).trans (h.out i hi)
 to:=λi s p=>by
  obtain⟨j,m,n,r⟩:=g.to i s p
  obtain⟨k,o,q,c⟩:=h.to j m n
  exact⟨k,o,q,r.trans c⟩
 fro:=λj s p=>by
  obtain⟨i,m,n,r⟩:=h.fro j s p
  obtain⟨k,o,q,c⟩:=g.fro i m n
  exact⟨k,o,q,c.trans r⟩
theorem Sm.mono{n o:Nat}{e:By}(h:Sm a b d e)(r:n<=a)(hb:b<=o):Sm n o d e where
 out:=λi hi=>h.out i (λ⟨g,c⟩=>hi ⟨O,O⟩)
 to:=λi g c=>by
  by_cases hi:a<=i/\i<b
  ·obtain⟨j,p,q,m⟩:=h.to i hi.1 hi.2
   exact⟨j,O,O,m⟩
  ·exact⟨i,g,c,h.out i hi⟩
 fro:=λi g c=>by
  by_cases hi:a<=i/\i<b
  ·obtain⟨j,p,q,m⟩:=h.fro i hi.1 hi.2
   exact⟨j,O,O,m⟩
  ·exact⟨i,g,c,h.out i hi⟩
theorem Sm.swap(d:By)(q:a<=i)(m:i<b)(g:a<=j)(n:j<b):Sm a b d (swp d i j) where
 out:=λk r=>by
  unfold swp
  rw[if_neg (λe=>r (by rw[e];exact⟨q,m⟩)),if_neg (λe=>r (by rw[e];exact⟨g,n⟩))]
 to:=λk p o=>by
  unfold swp
  by_cases e:k=i
  ·exact⟨j,g,n,by rw[if_pos e]⟩
  ·rw[if_neg e]
   by_cases c:k=j
   ·exact⟨i,q,m,by rw[if_pos c]⟩
   ·exact⟨k,p,o,by rw[if_neg c]⟩
 fro:=λk p o=>by
  by_cases e:k=i
  ·refine⟨j,g,n,?_⟩
   unfold swp
   by_cases c:j=i
   ·rw[if_pos c,c,e]
   ·rw[if_neg c,if_pos Z,e]
  ·by_cases c:k=j
   ·exact⟨i,q,m,by unfold swp;rw[if_pos Z,c]⟩
   ·exact⟨k,p,o,by unfold swp;rw[if_neg e,if_neg c]⟩
theorem Sm.all{e:By}(h:Sm a b d e){p:UInt8->Prop}(c:∀k,a<=k->k<b->p (d k)):∀k,a<=k->k<b->p (e k):=λk o i=>by
 obtain⟨j,g,m,n⟩:=h.to k o i
 rw[n]
 exact c j g m
def Srt(a b:Nat)(d:By):Prop:=∀i,a<=i->i+1<b->(d i).toNat<=(d (i+1)).toNat
theorem Srt.le{a b:Nat}{d:By}(h:Srt a b d):∀{j i:Nat},a<=i->i<=j->j<b->(d i).toNat<=(d j).toNat
 |0,i,e,g,c=>by rw[show i=0 by omega];exact AI _
 |j+1,i,e,g,c=>by
  rcases AN i (j+1)with h4|h4
  ·exact AW (h.le e O O) (h j O c)
  ·rw[show i=j+1 by omega];exact AI _
theorem Srt.out{e:Nat}{g:By}(h:Srt a b d)(hs:Sm c e d g)(hd:b<=c\/e<=a):Srt a b g:=λi j m=>by
 rw[hs.out i O,hs.out (i+1) O]
 exact h i j m
theorem Srt.small(d:By)(h:b<=a+1):Srt a b d:=λi c e=>O
structure Insd (a i j:Nat) (d:By):Prop where
 lo:a<=j
 hi:j<=i
 one:∀k,a<=k->k+1<=i->k+1≠j->(d k).toNat<=(d (k+1)).toNat
 two:a<j->j<i->(d (j-1)).toNat<=(d (j+1)).toNat
theorem Insd.start(h:Srt a i d)(b:a<=i):Insd a i i d:=⟨b,AI _,λk c e g=>h k c O,λ_ h=>O⟩
theorem Insd.step{a i j:Nat}{d:By}(h:Insd a i j d)(n:a<j)(o:(d j).toNat<(d (j-1)).toNat):Insd a i (j-1) (swp d j (j-1)) where
 lo:=O
 hi:=by have:=h.hi;omega
 one:=λk m g p=>by
  have b:=h.hi
  unfold swp
  by_cases c:k+1=j
  ·rw[if_neg O,if_pos O,if_pos c];omega
  ·by_cases e:k=j
   ·rw[if_pos e,if_neg O,if_neg O]
    have:=h.two n O
    rw[e];exact this
   ·rw[if_neg e,if_neg O,if_neg c,if_neg O]
    exact h.one k m g c
 two:=λm g=>by
  have b:=h.hi
  unfold swp
  rw[if_neg O,if_neg O,if_pos O]
  have:=h.one (j-1-1) O O O
  rwa [show j-1-1+1=j-1 by omega]at this
theorem Insd.done(h:Insd a i j d)(b:j=a\/¬(d j).toNat<(d (j-1)).toNat):Srt a (i+1) d:=λk c m=>by
 have g:=h.lo
 by_cases e:k+1=j
 ·have:¬(d j).toNat<(d (j-1)).toNat:=by
    rcases b with h'|h'
    ·omega
    ·exact h'
  rw[<-e,HQ]at this
  omega
 ·exact h.one k c O e
def Hp(f lo hi:Nat)(d:By):Prop:=∀k c,lo<=k->(c=2*k+1\/c=2*k+2)->c<hi->(d (f+c)).toNat<=(d (f+k)).toNat
structure Hq (f lo hi r:Nat) (d:By):Prop where
 one:∀k c,lo<=k->k≠r->(c=2*k+1\/c=2*k+2)->c<hi->(d (f+c)).toNat<=(d (f+k)).toNat
 two:∀k c,lo<=k->(r=2*k+1\/r=2*k+2)->(c=2*r+1\/c=2*r+2)->c<hi->(d (f+c)).toNat<=(d (f+k)).toNat
theorem Hq.start{lo:Nat}(h:Hp f (lo+1) hi d):Hq f lo hi lo d:=⟨λk c i g b e=>h k c O b e,λk c i g b e=>O⟩
theorem Hq.step{f lo hi r ch:Nat}{d:By}(h:Hq f lo hi r d)(t:lo<=r)(o:ch=2*r+1\/ch=2*r+2)(j:ch<hi)(n:(d (f+r)).toNat<(d (f+ch)).toNat)(i:∀c,(c=2*r+1\/c=2*r+2)->c<hi->(d (f+c)).toNat<=(d (f+ch)).toNat):Hq f lo hi ch (swp d (f+r) (f+ch)) where
 one:=λk c m p g b=>by
  unfold swp
  by_cases q:k=r
  ·rw[if_neg O,if_pos (show f+k=f+r by omega)]
   by_cases s:c=ch
   ·rw[if_pos O];omega
   ·rw[if_neg O];exact i c O b
  ·rw[if_neg (show ¬f+k=f+r by omega),if_neg (show ¬f+k=f+ch by omega)]
   by_cases s:c=r
   ·rw[if_pos O]
    exact h.two k ch m O o j
   ·rw[if_neg O,if_neg O]
    exact h.one k c m q g b
 two:=λk c m p g b=>by
  have e:k=r:=O
  unfold swp
  rw[if_neg O,if_neg O,if_pos O]
  exact h.one ch c O O g b
theorem Hq.done{lo r:Nat}(h:Hq f lo hi r d)(g:∀c,(c=2*r+1\/c=2*r+2)->c<hi->(d (f+c)).toNat<=(d (f+r)).toNat):Hp f lo hi d:=λk c j i b=>by
 by_cases e:k=r
 ·rw[e];exact g c O b
 ·exact h.one k c j e i b
theorem Hp.top(h:Hp f 0 hi d):∀k,k<hi->(d (f+k)).toNat<=(d f).toNat:=λk=>by
 induction k using Nat.strongRecOn with
 |ind k c=>
  intro b
  rcases Aw k with e|e
  ·rw[e];exact AI _
  ·exact AW (h ((k-1)/2) k (AU _) O b) (c ((k-1)/2) O O)
theorem Hp.none{lo:Nat}(d:By)(h:hi<=2*lo+1):Hp f lo hi d:=λk c g e b=>O
structure Hs (f hi i:Nat) (d:By):Prop where
 le:i<=hi
 heap:Hp f 0 i d
 srt:Srt (f+i) (f+hi) d
 big:∀k c,k<i->i<=c->c<hi->(d (f+k)).toNat<=(d (f+c)).toNat
theorem Hs.start(h:Hp f 0 hi d):Hs f hi hi d:=⟨AI _,h,Srt.small _ O,λk c b g e=>O⟩
theorem Hs.step{f hi i:Nat}{d e:By}(h:Hs f hi (i+1) d)(hs:Sm f (f+i) (swp d f (f+i)) e)(v:Hp f 0 i e):Hs f hi i e:=by
 have t:=h.le
 have n:=h.heap.top
 have g:e (f+i)=d f:=by
  rw[hs.out (f+i) O]
  unfold swp
  by_cases q:f+i=f
  ·rw[if_pos q,q]
  ·rw[if_neg q,if_pos Z]
 have b:∀c,i<c->e (f+c)=d (f+c):=λc y=>by
  rw[hs.out (f+c) O]
  unfold swp
  rw[if_neg O,if_neg O]
 have p:∀k,k<i->∃j,j<i+1/\e (f+k)=d (f+j):=λk z=>by
  obtain⟨j,s,r,o⟩:=hs.to (f+k) O O
  rw[o]
  unfold swp
  by_cases m:j=f
  ·rw[if_pos m];exact⟨i,O,Z⟩
  ·rw[if_neg m,if_neg O]
   exact⟨j-f,O,by rw[show f+(j-f)=j by omega]⟩
 refine⟨O,v,λk s r=>?_,λk c s r o=>?_⟩
 ·by_cases m:k=f+i
  ·rw[m,g,show f+i+1=f+(i+1) by omega,b _ O]
   have:=h.big 0 (i+1) O (AI _) O
   exact this
  ·have:=h.srt k O r
   rw[show k=f+(k-f) by omega,b _ O,show f+(k-f)+1=f+(k-f+1) by omega,b _ O]
   rwa [show f+(k-f)=k by omega,show f+(k-f+1)=k+1 by omega]
 ·obtain⟨j,w,u⟩:=p k s
  rw[u]
  by_cases m:c=i
  ·rw[m,g];exact n j O
  ·rw[b c O]
   exact h.big j c O O o
theorem Hs.done(h:Hs f hi 0 d):Srt f (f+hi) d:=h.srt
structure Pt (a b i j:Nat) (d:By):Prop where
 lo:a+1<=i
 ij:i<=j+1
 jb:j<b
 aj:a<=j
 small:∀k,a<k->k<i->(d k).toNat<(d a).toNat
 big:∀k,j<k->k<b->(d a).toNat<=(d k).toNat
structure Parted (a b m:Nat) (d:By):Prop where
 am:a<=m
 mb:m<b
 small:∀k,a<=k->k<m->(d k).toNat<=(d m).toNat
 big:∀k,m<=k->k<b->(d m).toNat<=(d k).toNat
theorem Pt.up(h:Pt a b i j d)(g:i<=j)(c:(d i).toNat<(d a).toNat):Pt a b (i+1) j d:=
 ⟨by have:=h.lo;omega,O,h.jb,h.aj,λk m n=>by
  by_cases e:k=i
  ·rw[e];exact c
  ·exact h.small k m O,h.big⟩
theorem Pt.down(h:Pt a b i j d)(c:i<=j)(n:¬(d j).toNat<(d a).toNat):Pt a b i (j-1) d:=by
 have g:=h.lo
 refine⟨g,O,by have:=h.jb;omega,O,h.small,λk o m=>?_⟩
 by_cases e:k=j
 ·rw[e];omega
 ·exact h.big k O m
theorem Pt.swap(h:Pt a b i j d)(m:i<=j)(p:i≠j)(hi:¬(d i).toNat<(d a).toNat)(n:(d j).toNat<(d a).toNat):Pt a b (i+1) (j-1) (swp d i j):=by
 have q:=h.lo
 have o:=h.jb
 refine⟨O,O,O,O,λk g c=>?_,λk g c=>?_⟩
 ·unfold swp
  rw[if_neg (show ¬a=i by omega),if_neg (show ¬a=j by omega)]
  by_cases e:k=i
  ·rw[if_pos e];exact n
  ·rw[if_neg e,if_neg O];exact h.small k g O
 ·unfold swp
  rw[if_neg (show ¬a=i by omega),if_neg (show ¬a=j by omega),if_neg O]
  by_cases e:k=j
  ·rw[if_pos e];omega
  ·rw[if_neg e];exact h.big k O c
theorem Pt.done(h:Pt a b i j d)(n:j<i):Parted a b j (swp d j a):=by
 have o:=h.lo
 have p:=h.ij
 have e:i=j+1:=O
 refine⟨h.aj,h.jb,λk m g=>?_,λk m g=>?_⟩
 ·unfold swp
  rw[if_pos Z,if_neg O]
  by_cases c:k=a
  ·rw[if_pos c]
   rcases AN a j with h5|h5
   ·exact IS (h.small j h5 O)
   ·omega
  ·rw[if_neg c];exact IS (h.small k O O)
 ·unfold swp
  rw[if_pos Z]
  by_cases c:k=j
  ·rw[if_pos c];exact AI _
  ·rw[if_neg c,if_neg (by have:=h.aj;omega)];exact h.big k O g
structure Pe (a b i j:Nat) (d:By):Prop where
 lo:a+1<=i
 ij:i<=j+1
 jb:j<b
 small:∀k,a<k->k<i->(d k).toNat<=(d a).toNat
 big:∀k,j<k->k<b->(d a).toNat<(d k).toNat
theorem Pe.up(h:Pe a b i j d)(c:i<=j)(m:¬(d a).toNat<(d i).toNat):Pe a b (i+1) j d:=
 ⟨by have:=h.lo;omega,O,h.jb,λk g n=>by
  by_cases e:k=i
  ·rw[e];omega
  ·exact h.small k g O,h.big⟩
theorem Pe.down(h:Pe a b i j d)(c:i<=j)(n:(d a).toNat<(d j).toNat):Pe a b i (j-1) d:=by
 have g:=h.lo
 refine⟨g,O,by have:=h.jb;omega,h.small,λk o m=>?_⟩
 by_cases e:k=j
 ·rw[e];omega
 ·exact h.big k O m
theorem Pe.swap(h:Pe a b i j d)(m:i<=j)(hi:(d a).toNat<(d i).toNat)(n:¬(d a).toNat<(d j).toNat):Pe a b (i+1) (j-1) (swp d i j):=by
 have q:=h.lo
 have o:=h.jb
 have p:i≠j:=λe=>by rw[e]at hi;exact n hi
 refine⟨O,O,O,λk g c=>?_,λk g c=>?_⟩
 ·unfold swp
  rw[if_neg (show ¬a=i by omega),if_neg (show ¬a=j by omega)]
  by_cases e:k=i
  ·rw[if_pos e];omega
  ·rw[if_neg e,if_neg O];exact h.small k g O
 ·unfold swp
  rw[if_neg (show ¬a=i by omega),if_neg (show ¬a=j by omega),if_neg O]
  by_cases e:k=j
  ·rw[if_pos e];exact hi
  ·rw[if_neg e];exact h.big k O c
structure Pq (a0 b0 a b:Nat) (d:By):Prop where
 a0a:a0<=a
 ab:a<=b
 bb0:b<=b0
 left:Srt a0 a d
 right:Srt b b0 d
 small:∀i k,a0<=i->i<a->a<=k->k<b0->(d i).toNat<=(d k).toNat
 big:∀i k,a0<=i->i<b->b<=k->k<b0->(d i).toNat<=(d k).toNat
 pre:a=0\/∀k,a<=k->k<b->(d (a-1)).toNat<=(d k).toNat
theorem Pq.start(h:a<=b)(c:a=0\/∀k,a<=k->k<b->(d (a-1)).toNat<=(d k).toNat):Pq a b a b d:=
 ⟨AI _,h,AI _,Srt.small _ O,Srt.small _ O,λi k g e=>O,λi k g e j m=>O,c⟩
theorem Pq.same{e:By}(h:Pq a0 b0 a b d)(hs:Sm a b d e):Pq a0 b0 a b e:=by
 have u:=h.a0a
 have t:=h.ab
 have q:=h.bb0
 refine⟨u,t,q,h.left.out hs O,h.right.out hs O,λi k m g c n=>?_,λi k m g c n=>?_,?_⟩
 ·rw[hs.out i O]
  by_cases s:k<b
  ·exact hs.all (p:=λx=>(d i).toNat<=x.toNat) (λk j o=>h.small i k m g j O) k c s
  ·rw[hs.out k O];exact h.small i k m g c n
 ·rw[hs.out k O]
  by_cases hi:a<=i
  ·exact hs.all (p:=λx=>x.toNat<=(d k).toNat) (λi j o=>h.big i k O o c n) i hi g
  ·rw[hs.out i O];exact h.big i k m g c n
 ·rcases h.pre with hp|hp
  ·exact .inl hp
  ·by_cases r:a=0
   ·exact .inl r
   ·refine .inr λk j o=>?_
    rw[hs.out (a-1) O]
    exact hs.all (p:=λx=>(d (a-1)).toNat<=x.toNat) hp k j o
theorem Pq.done(h:Pq a0 b0 a b d)(hs:Srt a b d):Srt a0 b0 d:=λi e c=>by
 have o:=h.a0a
 have p:=h.ab
 have q:=h.bb0
 by_cases m:i+1<a
 ·exact h.left i e m
 ·by_cases n:i<a
  ·exact h.small i (i+1) e n O c
  ·by_cases j:i+1<b
   ·exact hs i O j
   ·by_cases g:i<b
    ·exact h.big i (i+1) e g O c
    ·exact h.right i O c
theorem Pq.goRight{e:By}(h:Pq a0 b0 a b d)(r:Parted a b m d)(hs:Sm a m d e)(A:Srt a m e):Pq a0 b0 (m+1) b e:=by
 have D:=h.a0a
 have z:=h.bb0
 have B:=r.am
 have C:=r.mb
 have w:e m=d m:=hs.out m O
 have j:=h.same (hs.mono (AI _) O)
 have o:∀k,a<=k->k<m->(e k).toNat<=(e m).toNat:=by
  rw[w]
  exact hs.all (p:=λx=>x.toNat<=(d m).toNat) r.small
 have n:∀k,m<=k->k<b->(e m).toNat<=(e k).toNat:=λk c g=>by
  rw[w,hs.out k O];exact r.big k c g
 refine⟨O,O,z,λi c g=>?_,j.right,λi k c g v q=>?_,λi k c g v q=>?_,.inr λk c g=>?_⟩
 ·by_cases t:i+1<a
  ·exact j.left i c t
  ·by_cases u:i<a
   ·exact j.small i (i+1) c u O O
   ·by_cases s:i+1<m
    ·exact A i O s
    ·rw[show i+1=m by omega];exact o i O O
 ·by_cases t:i<a
  ·exact j.small i k c t O q
  ·by_cases u:k<b
   ·have y:=n k O u
    by_cases s:i=m
    ·rw[s];exact y
    ·exact AW (o i O O) y
   ·exact j.big i k O O O q
 ·exact j.big i k c g v q
 ·rw[HQ];exact n k O g
theorem Pq.goLeft{e:By}(h:Pq a0 b0 a b d)(q:Parted a b m d)(hs:Sm (m+1) b d e)(A:Srt (m+1) b e):Pq a0 b0 a m e:=by
 have z:=h.a0a
 have D:=h.bb0
 have v:=q.am
 have y:=q.mb
 have u:e m=d m:=hs.out m O
 have j:=h.same (hs.mono O (AI _))
 have n:∀k,m+1<=k->k<b->(e m).toNat<=(e k).toNat:=by
   rw[u]
   exact hs.all (p:=λx=>(d m).toNat<=x.toNat) (λk g c=>q.big k O c)
 have t:∀k,a<=k->k<m->(e k).toNat<=(e m).toNat:=λk g c=>by
   rw[u,hs.out k O];exact q.small k g c
 refine⟨z,v,O,j.left,λi g c=>?_,j.small,λi k g c C w=>?_,?_⟩
 ·by_cases s:i=m
  ·rw[s]
   by_cases o:m+1<b
   ·exact n (m+1) O o
   ·exact j.big m (m+1) O y O O
  ·by_cases o:i+1<b
   ·exact A i O o
   ·by_cases r:i<b
    ·exact j.big i (i+1) O r O c
    ·exact j.right i O c
 ·by_cases s:b<=k
  ·exact j.big i k g O s w
  ·have B:(e m).toNat<=(e k).toNat:=by
     by_cases o:k=m
     ·rw[o];exact AI _
     ·exact n k O O
   by_cases r:a<=i
   ·exact AW (t i r c) B
   ·exact j.small i k g O O O
 ·rcases j.pre with hp'|hp'
  ·exact .inl hp'
  ·exact .inr λk g c=>hp' k g O
theorem Pq.goEq{e:By}(h:Pq a0 b0 a b d)(hs:Sm a b d e)(t:a<m)(n:m<=b)(o:∀i k,a<=i->i<m->a<=k->k<b->(e i).toNat<=(e k).toNat):Pq a0 b0 m b e:=by
 have v:=h.a0a
 have s:=h.bb0
 have c:=h.same hs
 refine⟨O,n,s,λi g j=>?_,c.right,λi k g j u r=>?_,c.big,.inr λk g j=>o (m-1) k O O O j⟩
 ·by_cases p:i+1<a
  ·exact c.left i g p
  ·by_cases q:i<a
   ·exact c.small i (i+1) g q O O
   ·exact o i (i+1) O O O O
 ·by_cases p:i<a
  ·exact c.small i k g p O r
  ·by_cases q:k<b
   ·exact o i k O j O q
   ·exact c.big i k g O O r
section
variable{P:Program}{l:List Oper}{Q:Exit->Act->World->Prop}{N:Nat}{a:Act}{env:List (Nat×Value)}{rest:List Oper}{d:Tmp}{ty:TypeId}{pos:String}{af:Array Edge}{g:Option (Nat×Bool)}{w:World}
theorem rBa{b:List (Nat×Operand)}{zs:Array Value}(p:∀w,(zeroValue t).run P w=.ok (.agg zs) w)(q:P.underlying t=some (.array n e))(hs:∀w,(sizeOf e).run P w=.ok size w)(F:Has N a env)(j:evP env b=some ps)(o:JF (λi=>some (i*size,size)) zs.toList ps=some cs):
 (execOp a.eval ⟨some d,.build t b.toArray,ty,pos,af,g⟩).run P w=.ok (.value (.agg cs.toArray)) w:=by
 have r:=Jq _ _ _ _ o
 have m:(Instr.build t (b.toArray.map λ(i,x)=>(i,a.eval x))).run P w=.ok (.agg cs.toArray) w:=by
  rw[FK,F.parts j]
  have c:Instr.fill (λi=>some (i*size,size)) zs ps=some cs.toArray:=by simpa using r
  simp[Instr.build,run_underlying q,p,hs,c,Value.cells,go_sem]
 simp only[execOp,Sem.run_bind,m]
 rfl
theorem rBaB{b:List (Nat×Operand)}(o:∀w,(zeroValue t).run P w=.ok (.agg (bs n zb).toArray) w)(p:P.underlying t=some (.array m e))(hs:∀w,(sizeOf e).run P w=.ok size w)(F:Has N a env)(c:evP env b=some ps)(j:FillB (λi=>some (i*size,size)) n zb ps s):
 (execOp a.eval ⟨some d,.build t b.toArray,ty,pos,af,g⟩).run P w=.ok (.value (.agg (bs n s).toArray)) w:=
 rBa o p hs F c j.to
theorem sBaB{b:List (Nat×Operand)}(q:∀w,(zeroValue t).run P w=.ok (.agg (bs n zb).toArray) w)(r:P.underlying t=some (.array m e))(hs:∀w,(sizeOf e).run P w=.ok size w)(F:Has N a env)(c:V2 l env g=true)(o:Nat.blt d N=true)(j:evP env b=some ps)(p:FillB (λi=>some (i*size,size)) n zb ps s)(K:∀a,Has N a ((d,.agg (bs n s).toArray)::env)->wpList P l.toArray Q rest a w):wpList P l.toArray Q (⟨some d,.build t b.toArray,ty,pos,af,g⟩::rest) a w:=
 UV F c Z o (rBaB q r hs F j p) K
end
theorem Lp(s:List Value):∀(r z p:List Value),z.length=r.length->VZ (p++(z++s)) p.length r=p++(r++s)
 | [],[],p,_=>by simp[VZ]
 |v::r,y::z,p,h=>by
  have b:(p++(y::z++s)).set p.length v=(p++[v])++(z++s):=by simp
  have c:p.length+1=(p++[v]).length:=by simp
  rw[VZ,b,c,Lp s r z (p++[v]) (by simpa using h)]
  simp
def Xp9:List (List Value)->Nat->List (Nat×Value)
 | [],_=>[]
 |r::rs,k=>(k,.agg r.toArray)::Xp9 rs (k+1)
theorem DM{size:Nat}{zs:List Value}(c:zs.length=size):∀(rows:List (List Value)) (k:Nat) (p:List Value),p.length=k*size->(∀r∈rows,r.length=size) ->
 JF (λi=>some (i*size,size)) (p++rep rows.length zs) (Xp9 rows k)=some (p++rows.flatten)
 | [],k,p,_,_=>by simp[Xp9,JF,rep]
 |r::rs,k,p,b,e=>by
  have d:=e r (by simp)
  unfold Xp9 JF
  have m:(Value.cells (.agg r.toArray)).toList=r:=rfl
  simp only[m]
  have n:(Nat.beq r.length size&&Nat.ble (k*size+r.length) (p++rep (r::rs).length zs).length)=true:=by
   rw[d,AJ]
   refine⟨Ii _,FR ?_⟩
   rw[AK,b,Nm,c,AY,FB,Ht];omega
  rw[n]
  simp only[cond_true]
  have g:VZ (p++rep (r::rs).length zs) (k*size) r=(p++r)++rep rs.length zs:=by
   rw[AY,rep,<-b,Lp _ r zs p (by rw[c,d]),AO]
  rw[g,DM c rs (k+1) (p++r) (by rw[AK,b,d,FB,Ht]) (λq j=>e q (by simp[j]))]
  simp
section
variable{P:Program}{l:List Oper}{Q:Exit->Act->World->Prop}{N:Nat}{a:Act}{env:List (Nat×Value)}{rest:List Oper}{d:Tmp}{ty:TypeId}{pos:String}{af:Array Edge}{g:Option (Nat×Bool)}{w0 w:World}{row:Option Nat}{rs:List Res}
theorem sBsR{c:List (Nat×Operand)}(H:Own w0 row w rs)(p:P.underlying t=some (.slice e))(hs:∀w,(sizeOf e).run P w=.ok size w)(q:∀w,(zeroValue e).run P w=.ok z w)(i:z.cells.size=size)(F:Has N a env)(j:V2 l env g=true)(n:Nat.blt d N=true)(m:evP env c=some (Xp9 rows 0))(u:Nat.ble (rows.length*size) 16777216=true)(o:(rows.all λr=>Nat.beq r.length size)=true)(K:∀b a w,Has N a ((d,Vd b 0 rows.length rows.length)::env)->Own w0 row w (.blk b rows.flatten e::rs)->wpList P l.toArray Q rest a w):wpList P l.toArray Q (⟨some d,.buildSlice t rows.length c.toArray,ty,pos,af,g⟩::rest) a w:=
 sBs H p hs q i F j n m u (DM (size:=size) (by rw[K0];exact i) rows 0 [] (by simp) (λr s=>FP (Ah.1 o r s))) K
end
section
variable{P:Program}{l:List Oper}{Q:Exit->Act->World->Prop}{N:Nat}{a:Act}{env:List (Nat×Value)}{rest:List Oper}{d:Tmp}{ty:TypeId}{pos:String}{af:Array Edge}{g:Option (Nat×Bool)}{w0 w:World}{row:Option Nat}{rs:List Res}{Kt:Act->World->Prop}
theorem sMk{bytes:Nat}{k:IntKind}(H:Own w0 row w rs)(v:P.underlying t=some (.slice e))(c:(P.info? e).map (λi=>(i.zero,i.size,i.bytes))=some (some z,1,bytes))(j:z.cells=#[z])(F:Has N a env)(p:V2 l env g=true)(q:Nat.blt d N=true)(o:ev env x=some (.int k (n:Int)))(u:ev env y=some (.int k' (n:Int)))(hb:bytes*n<=281474976710656)(m:n<=9223372036854775807)(K:∀b a w,Has N a ((d,Vd b 0 n n)::env)->Own w0 row w (.blk b (List.replicate n z) e::rs)->wpList P l.toArray Q rest a w):wpList P l.toArray Q (⟨some d,.makeSlice t x y,ty,pos,af,g⟩::rest) a w:=by
 have A:=run_make_row' (P:=P) t e z bytes v c j k k' n hb m w
 have r:(execOp a.eval ⟨some d,.makeSlice t x y,ty,pos,af,g⟩).run P w=.ok (.value (Vd w.heap.size 0 n n)) (w.alloc (.cells (madeCells #[z] n) e)):=by
  simp only[execOp,F.eval o,F.eval u,Sem.run_bind,A]
  rfl
 refine UV F p Z q r (λ_ s=>K _ _ _ s ?_)
 have:=H.alloc (madeCells #[z] n) e
 rw[toList_madeCells_one]at this
 exact this
theorem rSlL(j:P.underlying t=some (.slice e))(u:∀w,(sizeOf e).run P w=.ok sz w)(F:Has N a env)(p:ev env x=some (Vd b o n c))(r:ev env lo=some (.int k' (i:Int)))(hi:i<=n)(v:i<c):
 (execOp a.eval ⟨some d,.slice t x (some lo) none none,ty,pos,af,g⟩).run P w=.ok (.value (Vd b (o+i*sz) (n-i) (c-i))) w:=by
 have q:P.elem t=e:=by simp[Program.elem,j]
 have m:=run_slice_l (P:=P) w t (some ⟨b,o,none⟩) n c (LM j) k' (i:Int) O O
 rw[q,u]at m
 have s:(Instr.slice t (Vd b o n c) (some (.int k' (i:Int))) none none).run P w=.ok (Vd b (o+i*sz) (n-i) (c-i)) w:=by
  rw[m]
  simp only[Result.andThen_ok,sliced,FU]
  rw[if_neg O]
  simp[Addr.add_mid]
 simp only[execOp,H7,IU,F.eval p,F.eval r,Sem.run_bind,run_sliceAt_slice w t _ _ _ none (LM j),s]
 rfl
theorem sSlL(r:P.underlying t=some (.slice e))(s:∀w,(sizeOf e).run P w=.ok sz w)(F:Has N a env)(m:V2 l env g=true)(q:Nat.blt d N=true)(j:ev env x=some (Vd b o n c))(p:ev env lo=some (.int k' (i:Int)))(hi:i<=n)(u:i<c)(K:∀a,Has N a ((d,Vd b (o+i*sz) (n-i) (c-i))::env)->wpList P l.toArray Q rest a w):wpList P l.toArray Q (⟨some d,.slice t x (some lo) none none,ty,pos,af,g⟩::rest) a w:=
 UV F m Z q (rSlL r s F j p hi u) K
end
section
variable{P:Program}{t:TypeId}{x y:Operand}{n m:Nat}
theorem Qr(n:Int):IntKind.u64.wrap n=n%18446744073709551616:=by simp[IntKind.wrap,IntKind.signed,IntKind.bits]
theorem XcT(h:n<18446744073709551616):IntKind.u64.wrap (n:Int)=(n:Int):=by rw[Qr];omega
end
theorem Own.turned{w0 w v:World}{row:Option Nat}{rs:List Res}{o:List Value}(H:Own w0 row w rs)(i:Nat)(hi:rs[i]?=some (.blk b cs t))(n:Own w (some b) v [.blk b o t]):Own w0 row v (rs.set i (.blk b o t)) where
 grown:=by
  have B:=H.foot i _ hi b Z
  refine⟨?_,?_,?_,AW H.grown.size n.grown.size,λj d g=>?_⟩
  ·rw[n.grown.os,H.grown.os]
  ·rw[n.grown.tape,H.grown.tape]
  ·rw[n.grown.output,H.grown.output]
  ·rw[n.grown.block j (FC d H.grown.size) (λe=>by
  cases e
  rcases B.1 with h|h
  ·omega
  ·exact g h),H.grown.block j d g]
 pred:=λj r d=>by
  rw[Am]at d
  split at d
  ·split at d
   ·cases d;exact n.pred 0 _ Z
   ·cases d
  ·rename_i g
   refine r.loc w v (λc m=>?_) (H.pred j r d)
   have q:=H.foot j r d c m
   refine n.grown.block c q.2 (λe=>?_)
   have e:c=b:=Ac e
   exact H.apart j i r _ d hi (λe=>g e.symm) c m e
 foot:=λj r d c m=>by
  rw[Am]at d
  split at d
  ·split at d
   ·cases d
    exact⟨(H.foot i _ hi c m).1,FC (H.foot i _ hi c m).2 n.grown.size⟩
   ·cases d
  ·exact⟨(H.foot j r d c m).1,FC (H.foot j r d c m).2 n.grown.size⟩
 apart:=λj k r s d D u c m z=>by
  have key:∀(j:Nat)(r:Res),(rs.set i (.blk b o t))[j]?=some r->∃p,rs[j]?=some p/\∀c,r.foot c↔p.foot c:=λj r d=>by
   rw[Am]at d
   split at d
   ·rename_i e
    split at d
    ·cases d;subst e;exact⟨_,hi,λc=>Iff.rfl⟩
    ·cases d
   ·exact⟨r,d,λc=>Iff.rfl⟩
  obtain⟨p,G,E⟩:=key j r d
  obtain⟨C,y,A⟩:=key k s D
  exact H.apart j k p C G y u c ((E c).1 m) ((A c).1 z)
section
variable{P:Program}{l:List Oper}{Q:Exit->Act->World->Prop}{N:Nat}{a:Act}{env:List (Nat×Value)}{rest:List Oper}{d:Tmp}{ty:TypeId}{pos:String}{af:Array Edge}{g:Option (Nat×Bool)}{w0 w:World}{row:Option Nat}{rs:List Res}{Kt:Act->World->Prop}
theorem Own.fuse{r s:Res}(H:Own w0 row w (r::s::rs))(g:Res)(hp:g.pred w)(n:∀b,g.foot b->r.foot b\/s.foot b):Own w0 row w (g::rs) where
 grown:=H.grown
 pred:=λi q hi=>by
  cases i with
  |zero=>cases hi;exact hp
  |succ i=>exact H.pred (i+2) q hi
 foot:=λi q hi b o=>by
  cases i with
  |zero=>
   cases hi
   rcases n b o with h|h
   ·exact H.foot 0 r Z b h
   ·exact H.foot 1 s Z b h
  |succ i=>exact H.foot (i+2) q hi b o
 apart:=λi j q u hi c m b e d=>by
  cases i with
  |zero=>
   cases hi
   cases j with
   |zero=>exact m Z
   |succ j=>
    rcases n b e with h|h
    ·exact H.apart 0 (j+2) r u Z c O b h d
    ·exact H.apart 1 (j+2) s u Z c O b h d
  |succ i=>
   cases j with
   |zero=>
    cases c
    rcases n b d with h|h
    ·exact H.apart 0 (i+2) r q Z hi O b h e
    ·exact H.apart 1 (i+2) s q Z hi O b h e
   |succ j=>exact H.apart (i+2) (j+2) q u hi c O b e d
theorem Own.void(H:Own w0 row w rs)(r:Res)(d:r.pred w)(e:∀b,¬r.foot b):Own w0 row w (r::rs):=
 H.add r (Below.refl _ _) d (λb c=>absurd c (e b))
theorem Own.seen{r:Res}(H:Own w0 row w (r::rs))(c:Res)(d:c.pred w)(e:∀b,c.foot b->r.foot b):Own w0 row w (c::rs):=
 (H.void ⟨λ_=>False,λ_=>True,λ_ _ _ _=>trivial⟩ trivial (λ_ h=>h)).fuse c d (λb g=>.inr (e b g))
theorem Own.emptyRws(H:Own w0 row w (.blk b [] e::rs))(sz:Nat):Own w0 row w (.rws e sz (.slice (some ⟨b,0,.none⟩) 0 0) []::rs):=
 H.seen _ (show w.ownsRow 0 e sz (.slice (some ⟨b,0,.none⟩) 0 0) 0 []from⟨by simp,.inr ⟨b,0,#[],Z,AU _,H.blk 0 Z,AI _,AU _,by simp,by simp⟩⟩)
  (λc d=>by
   have:b=c:=by simpa[Res.rws,Res.arr,Value.ownBlock]using d
   exact this.symm)
theorem XfO{d:List (List Value)}{Q:Addr}{G:TypeInfo}{n:Nat}(H:Own w0 row w rs)(i:Nat)(ht:P.underlying t=some (.slice e))(hi:∀w,(typeInfo e).run P w=.ok G w)(hz:G.zero=some z)(y:G.size=sz)(R:G.bytes=n)(W:z.cells.size=sz)(V:Nat.blt 0 sz=true)(a3:Nat.blt 0 n=true)(hr:rs[i]?=some (.rws e sz v rows))(hm:d.length=m)(B:∀j u,d.flatten[j]?=some u->w.cell? (Q.add j)=some u)(hl:∀r∈d,r.length=sz)(h1:∀r∈d,r.all (·.oneCell')=true)(hb:(rows.length+m)*n<=140737488355328)(ty:TypeId):
 ∃A s C,(Builtin.append_ #[t,t] ty #[v,.slice (some Q) m c]).run P w=.ok (.slice A (rows++d).length s) C/\Own w0 row C (rs.set i (.rws e sz (.slice A (rows++d).length s) (rows++d))):=by
 have D:=IQ.mp V
 have K:=IQ.mp a3
 have T:∀(q:List (List Value)),(∀r∈q,r.length=sz)->q.flatten.length=q.length*sz:=by
  intro q hq
  induction q with
  |nil=>simp
  |cons r0 rest ih=>rw[FO,AK,ih (λr hm=>hq r (by simp[hm])),hq r0 (by simp),AY,FB];omega
 have a4:rows.length+m<=140737488355328:=AW (IM _ K) hb
 obtain⟨v',C,E,p,o,_,a1⟩:=run_append_own_at (P:=P) w 0 t ty e G z sz n ht (LG hi) hz y R W D v rows.length rows.flatten (H.arr i hr) Q m c d.flatten (by rw[T d hl,hm])
  B (λu hu=>by
   obtain⟨r,N,M⟩:=List.mem_flatten.1 hu
   exact(Ah.1 (h1 r N)) u M) (by simp only[maxLen];omega) hb (AU _)
 have U:(rows++d).length=rows.length+m:=by rw[AK,hm]
 obtain⟨A,s,rfl⟩:∃A s,v'=.slice A (rows++d).length s:=by
  rcases p.2 with⟨S,h3⟩|⟨g,a2,a5,S,_⟩
  ·exact⟨none,0,by rw[U,h3];exact S⟩
  ·exact⟨_,a2,by rw[U];exact S⟩
 refine⟨A,s,C,E,?_⟩
 have X:∀k,(Value.slice A (rows++d).length s).ownBlock=some k->k<C.heap.size:=λk J=>(p.lt k J).2
 refine H.turn i hr _ ?_ o.size (λb hb L=>o.block b hb (λe=>L (show v.ownBlock=some b from e.symm))) ?_ ?_
 ·refine⟨o.os.trans H.grown.os,o.tape.trans H.grown.tape,o.output.trans H.grown.output,AW H.grown.size o.size,λk J I=>?_⟩
  refine(o.block k (FC J H.grown.size) (λe=>?_)).trans (H.grown.block k J I)
  rcases(H.foot i _ hr k (show v.ownBlock=some k from e.symm)).1 with h|h
  ·exact absurd J O
  ·exact I h
 ·show C.ownsRow 0 e sz _ (rows++d).length (rows++d).flatten
  rw[List.flatten_append];rw[U]at p⊢
  exact p
 ·intro b hb
  have hb:(Value.slice A (rows++d).length s).ownBlock=some b:=hb
  refine⟨?_,X b hb⟩
  rcases a1 with h|h
  ·exact .inl (show v.ownBlock=some b from h▸hb)
  ·rw[hb]at h
   cases h
   exact .inr (AI _)
theorem Xli{s:Operand}{b:List (List Value)}{D:Addr}{p:TypeInfo}{bytes:Nat}(H:Own w0 row w rs)(i:Nat)(G:P.underlying t=some (.slice e))(hi:∀w,(typeInfo e).run P w=.ok p w)(W:p.zero=some z)(n:p.size=sz)(q:p.bytes=bytes)(B:z.cells.size=sz)(y:Nat.blt 0 sz=true)(C:Nat.blt 0 bytes=true)(F:Has N a env)(M:V2 l env g=true)(S:Nat.blt d N=true)(hs:ev env s=some v)(L:ev env x=some (.slice (some D) m c))(U:rs[i]?=some (.rws e sz v rows))(hm:b.length=m)(o:∀j u,b.flatten[j]?=some u->w.cell? (D.add j)=some u)(R:∀r∈b,r.length=sz)(J:∀r∈b,r.all (·.oneCell')=true)(hb:(rows.length+m)*bytes<=140737488355328)(K:∀A c a w,Has N a ((d,.slice A (rows++b).length c)::env)->Own w0 row w (rs.set i (.rws e sz (.slice A (rows++b).length c) (rows++b)))->wpList P l.toArray Q rest a w):
 wpList P l.toArray Q (⟨some d,.call ⟨.builtin .append,#[s,x],#[t,t]⟩,ty,pos,af,g⟩::rest) a w:=by
 obtain⟨A,T,X,I,E⟩:=XfO (P:=P) (c:=c) H i G hi W n q B y C U hm o R J hb ty
 exact UV F M Z S (Lc (ty':=ty) F hs L I) (λa V=>K A T a X V E)
theorem bNil(b:P.underlying t=some (.slice e)):Gu P .eql t x y (.slice A n c) (.slice none 0 0) (.bool A.isNone):=λw=>by
 have d:(eqGuard .eql t x y (.slice A n c) (.slice none 0 0)).run P w=.ok () w:=by
  simp[eqGuard,run_underlying b,go_sem]
 cases A with
 |none=>simp only[Sem.run_bind,d,Result.andThen_ok];exact Lib.run_eql_slice_nil_nil w _ _ b
 |some a=>simp only[Sem.run_bind,d,Result.andThen_ok];exact Lib.run_eql_slice_some_nil w a _ _ b
theorem oBsR{c:List (Nat×Operand)}(H:Own w0 row w rs)(n:P.underlying t=some (.slice e))(hs:∀w,(sizeOf e).run P w=.ok size w)(o:∀w,(zeroValue e).run P w=.ok z w)(i:z.cells.size=size)(F:Has N a env)(m:Nat.blt d N=true)(j:evP env c=some (Xp9 rows 0))(s:Nat.ble (rows.length*size) 16777216=true)(p:(rows.all λr=>Nat.beq r.length size)=true)(K:∀b a w,Has N a ((d,.slice (some ⟨b,0,.none⟩) rows.length rows.length)::env)->Own w0 row w (.blk b rows.flatten e::rs)->Kt a w):(Oper.mk (some d) (.buildSlice t rows.length c.toArray) ty pos af g).wp P a w Kt Q:=
 oBs H n hs o i F m j s (DM (size:=size) (by rw[K0];exact i) rows 0 [] (by simp) (λr q=>FP (Ah.1 p r q))) K
theorem Cq{g:Func}{R:Ending->World->Prop}{t u:Tmp}{e:TypeId}{r:TypeId}{j:TypeDesc}{y:Value}(c:g.results=#[.cell t e,.tmp u])(F:Has N a env)(p:lk env t=some (.pointer (some ⟨b,0,.none⟩)))(m:lk env u=some y)(q:P.underlying e=some j)(d:j.isRow=true)(H:Own w0 row w rs)(i:Nat)(hi:rs[i]?=some (.blk b cs r))(o:∀w,(sizeOf e).run P w=.ok n w)(s:Nat.beq cs.length n=true)(h:R (.returned (.tuple #[.agg cs.toArray,y])) w):bodyPost P g R .ret a w:=
 bodyPost_ret (QW c F p m q d (by rw[FP s];exact VT o) (H.blk i hi)) F.nod h
theorem RowsAt.flat{w:World}{A:Addr}(h:RowsAt w (some A) sz rows)(g:∀r∈rows,r.length=sz):∀j u,rows.flatten[j]?=some u->w.cell? (A.add j)=some u:=by
 have m:∀(rows:List (List Value)) (o:Nat),(∀r∈rows,r.length=sz)->(∀(j:Nat)(cs:List Value),rows[j]?=some cs->∃b c,A=⟨b,c,none⟩/\w.rangeAt b (c+(o+j)*sz) cs)->∀j u,rows.flatten[j]?=some u->w.cell? (A.add (o*sz+j))=some u:=by
  intro rows
  induction rows with
  |nil=>intro o _ _ j u d;simp at d
  |cons r rest q=>
   intro o g h j u d
   have p:r.length=sz:=g r (by simp)
   rw[FO]at d
   rcases AN j r.length with hj|hj
   ·rw[AP hj]at d
    obtain⟨b,c,rfl,e⟩:=h 0 r Z
    have:=e j u d
    rw[Addr.add_mid,<-FY]
    simpa using this
   ·rw[AQ hj]at d
    have:=q (o+1) (λr s=>g r (by simp[s])) (λk cs i=>by
     obtain⟨b,c,n,e⟩:=h (k+1) cs i
     exact⟨b,c,n,by rw[show o+1+k=o+(k+1) by omega];exact e⟩) (j-r.length) u d
    rw[FB,Ht,<-p,FY,show r.length+(j-r.length)=j by omega]at this;rw[<-p]
    exact this
 intro j u d
 have:=m rows 0 g (λk cs i=>by
  obtain⟨b,c,n,e⟩:=h k cs i
  exact⟨b,c,Ac n,by rw[As];exact e⟩) j u d
 simpa using this
end
section
variable{P:Program}{l:List Oper}{Q:Exit->Act->World->Prop}{N:Nat}{a:Act}{env:List (Nat×Value)}{rest:List Oper}{d:Tmp}{ty:TypeId}{pos:String}{af:Array Edge}{g:Option (Nat×Bool)}{w0 w:World}{row:Option Nat}{rs:List Res}{Kt:Act->World->Prop}
def winP(e:TypeId)(sz:Nat)(v:Value)(rows:List (List Value))(w:World):Prop:=
 (∀r∈rows,r.length=sz)/\((v=.slice none 0 0/\rows=[])\/∃g c b d,v=.slice (some ⟨g,c,none⟩) rows.length b/\w.heap[g]?=some (.cells d e (0,0))/\rows.length<=b/\b<=maxLen/\c+b*sz<=d.size/\∀(j:Nat)(u:Value),rows.flatten[j]?=some u->d[c+j]?=some u)
theorem DE{sz:Nat}:∀(q:List (List Value)),(∀r∈q,r.length=sz)->q.flatten.length=q.length*sz
 | [],_=>by simp
 |r0::rest,b=>by rw[FO,AK,DE rest (λr c=>b r (by simp[c])),b r0 (by simp),AY,FB];omega
theorem Xft{sz:Nat}:∀(rows:List (List Value)),(∀r∈rows,r.length=sz)->∀(j:Nat)(cs:List Value),rows[j]?=some cs->∀(k:Nat)(v:Value),cs[k]?=some v->rows.flatten[j*sz+k]?=some v
 | [],_,j,cs,b,_,_,_=>by simp at b
 |r0::rest,d,j,cs,b,k,v,c=>by
  have e:r0.length=sz:=d r0 (by simp)
  cases j with
  |zero=>
   simp at b;subst b
   have:k<r0.length:=(AB.1 c).1
   rw[FO,AP O];simpa using c
  |succ j=>
   rw[FO,AQ (by rw[e,FB];omega),e]
   have g:(j+1)*sz+k-sz=j*sz+k:=by rw[FB];omega
   rw[g]
   exact Xft rest (λr i=>d r (by simp[i])) j cs (by simpa using b) k v c
theorem XjO(rows:List (List Value))(c:∀r∈rows,r.length=sz)(i:Nat)(hi:i<=rows.length):(rows.drop i).flatten=rows.flatten.drop (i*sz):=by
 have d:rows.flatten=(rows.take i).flatten++(rows.drop i).flatten:=by rw[<-List.flatten_append,FL]
 have e:(rows.take i).flatten.length=i*sz:=by rw[DE _ (λr b=>c r (List.mem_of_mem_take b)),Aj];congr 1;omega
 rw[d,<-e,List.drop_left]
theorem winP.nil(e:TypeId)(sz:Nat)(w:World):winP e sz (.slice none 0 0) [] w:=⟨by simp,.inl ⟨Z,Z⟩⟩
theorem winP.len(h:winP e sz (.slice A n c) rows w):n=rows.length/\n<=c/\c<=maxLen:=by
 rcases h.2 with⟨b,i⟩|⟨g,j,o,p,b,_,d,m,_⟩
 ·cases b;subst i;exact⟨Z,AI _,AU _⟩
 ·cases b;exact⟨Z,d,m⟩
theorem winP.at{e:TypeId}{sz n c:Nat}{A:Option Addr}{rows:List (List Value)}(h:winP e sz (.slice A n c) rows w):RowsAt w A sz rows:=λj cs i=>by
 rcases h.2 with⟨m,d⟩|⟨g,b,p,q,m,d,_,_,_,o⟩
 ·subst d;simp at i
 ·cases m
  refine⟨g,b,Z,λk v r=>?_⟩
  have s:=o _ v (Xft rows h.1 j cs i k v r)
  simp[World.cell?,d,FY,s]
theorem winP.cells{A:Addr}(h:winP e sz (.slice (some A) n c) rows w):∀j u,rows.flatten[j]?=some u->w.cell? (A.add j)=some u:=λj u d=>by
 rcases h.2 with⟨b,_⟩|⟨g,m,q,r,b,i,_,_,_,p⟩
 ·cases b
 ·cases b
  have o:=p _ u d
  rw[Addr.add_mid]
  simp[World.cell?,i,o]
theorem winP.from(h:winP e sz (.slice A n c) rows w)(hi:i<=n):winP e sz (.slice (if c=i then A else A.map (·.add (i*sz))) (n-i) (c-i)) (rows.drop i) w:=by
 obtain⟨E,B,D⟩:=h.len
 refine⟨λr s=>h.1 r (List.mem_of_mem_drop s),?_⟩
 rcases h.2 with⟨q,p⟩|⟨g,d,v,m,q,p,y,z,C,t⟩
 ·cases q;subst p
  obtain rfl:i=0:=O
  exact .inl ⟨by simp,by simp⟩
 ·cases q
  by_cases o:c=i
  ·have:rows.drop i=[]:=Fh O
   refine .inr ⟨g,d,0,m,?_,p,by rw[this];simp,AU _,O,λj u b=>by rw[this]at b;simp at b⟩
   rw[if_pos o,this]
   simp only[Fw]
   congr 1<;>omega
  ·refine .inr ⟨g,d+i*sz,c-i,m,?_,p,by rw[Fm];omega,O,?_,λj u b=>?_⟩
   ·rw[if_neg o,Fm]
    simp[Addr.add_mid]
   ·have:i*sz+(c-i)*sz=c*sz:=by rw[<-FB];congr 1;omega
    omega
   ·rw[XjO rows h.1 i O,Fi]at b
    rw[FY];exact t _ u b
theorem rSlF(b:P.underlying t=some (.slice e))(r:∀w,(sizeOf e).run P w=.ok sz w)(F:Has N a env)(m:ev env x=some (.slice A n c))(p:ev env lo=some (.int k' (i:Int)))(hi:i<=n):
 (execOp a.eval ⟨some d,.slice t x (some lo) none none,ty,pos,af,g⟩).run P w=.ok (.value (.slice (if c=i then A else A.map (·.add (i*sz))) (n-i) (c-i))) w:=by
 have o:P.elem t=e:=by simp[Program.elem,b]
 have j:=run_slice_l (P:=P) w t A n c (LM b) k' (i:Int) O O
 rw[o,r]at j
 have q:(Instr.slice t (.slice A n c) (some (.int k' (i:Int))) none none).run P w=.ok (.slice (if c=i then A else A.map (·.add (i*sz))) (n-i) (c-i)) w:=by
  rw[j]
  simp only[Result.andThen_ok,sliced,FU]
 simp only[execOp,H7,IU,F.eval m,F.eval p,Sem.run_bind,run_sliceAt_slice w t _ _ _ none (LM b),q]
 rfl
theorem sSlF(p:P.underlying t=some (.slice e))(q:∀w,(sizeOf e).run P w=.ok sz w)(F:Has N a env)(j:V2 l env g=true)(o:Nat.blt d N=true)(b:ev env x=some (.slice A n c))(m:ev env lo=some (.int k' (i:Int)))(hi:i<=n)(K:∀a,Has N a ((d,.slice (if c=i then A else A.map (·.add (i*sz))) (n-i) (c-i))::env)->wpList P l.toArray Q rest a w):wpList P l.toArray Q (⟨some d,.slice t x (some lo) none none,ty,pos,af,g⟩::rest) a w:=
 UV F j Z o (rSlF p q F b m hi) K
end
section
variable{P:Program}{l:List Oper}{Q:Exit->Act->World->Prop}{N:Nat}{a:Act}{env:List (Nat×Value)}{rest:List Oper}{d:Tmp}{ty:TypeId}{pos:String}{af:Array Edge}{g:Option (Nat×Bool)}{w0 w:World}{row:Option Nat}{rs:List Res}{Kt:Act->World->Prop}
theorem Own.setRws(H:Own w0 row w rs)(i:Nat){g:Nat}{u:Value}(hi:rs[i]?=some (.rws e sz (.slice (some ⟨g,0,.none⟩) n c) rows))(p:∀r∈rows,r.length=sz)(z:rows[j]?=some r)(W:k<sz):
 w.there g (j*sz+k) 1/\Own w0 row (w.setCell ⟨g,j*sz+k,.none⟩ u) (rs.set i (.rws e sz (.slice (some ⟨g,0,.none⟩) n c) (rows.set j (r.set k u)))):=by
 have h:=H.arr i hi
 have C:=(AB.1 z).1
 have m:=DE rows p
 have P:=p r (AF z)
 have K:j*sz+k<rows.length*sz:=by
  have:=Ft sz (show j+1<=rows.length from C)
  rw[FB]at this
  omega
 have s:∀(rows:List (List Value)) (j:Nat),(∀r∈rows,r.length=sz)->rows[j]?=some r->(rows.set j (r.set k u)).flatten=rows.flatten.set (j*sz+k) u:=by
  intro rows
  induction rows with
  |nil=>intro j _ h;simp at h
  |cons I rest S=>
   intro j p h
   have E:I.length=sz:=p I (by simp)
   cases j with
   |zero=>
    simp at h;subst h
    simp only[List.set_cons_zero,FO,IZ,As]
    rw[List.set_append_left _ _ O]
   |succ j=>
    simp only[List.set_cons_succ,FO]
    rw[S j (λr Q=>p r (by simp[Q])) (by simpa using h),HM _ _ (by rw[E,FB];omega),E]
    congr 2
    rw[FB];omega
 rcases h.2 with⟨y,_⟩|⟨o,B,d,y,_,N,D,L,G,M⟩
 ·cases y
 ·have R:o=g:=by cases y;rfl
  subst R
  obtain⟨rfl,rfl⟩:n=rows.length/\c=B:=by cases y;exact⟨Z,Z⟩
  have J:rows.length*sz<=d.size:=by rw[G];exact Ft _ D
  have A:Blk w o d.toList e:=by unfold Blk;simpa using N
  refine⟨λq V=>?_,H.turn i hi _ (MO H.grown (H.foot i _ hi o Z).1 _ _) (by simp[World.setCell]) (λb _ t=>Below.heap_setCell w _ u b (λe=>t (by rw[e];rfl))) ?_ (λb t=>⟨.inl t,by
   have:o=b:=by simpa[Res.rws,Res.arr,Value.ownBlock]using t
   subst this
   simpa[World.setCell]using(H.foot i _ hi o Z).2⟩)⟩
  ·obtain rfl:q=0:=O
   have T:=A.cell (j*sz+k) (v:=d.toList[j*sz+k]'(by simpa using(by omega:j*sz+k<d.size))) (AA _)
   exact⟨by rw[FF,T];rfl,by rw[FF];exact A.frozen _⟩
  ·have U:=A.set (j*sz+k) u
   show World.ownsRow _ 0 e sz _ (rows.set j (r.set k u)).length (rows.set j (r.set k u)).flatten
   rw[s rows j p z,F9]
   refine⟨by rw[F9,m],.inr ⟨o,c,(d.toList.set (j*sz+k) u).toArray,Z,AU _,U,D,L,by simpa using G,?_⟩⟩
   simp only
   rw[List.take_set,M]
theorem E2(r:∀w,(sizeOf t).run P w=.ok 1 w)(F:Has N a env)(j:ev env x=some (Vc b o))(m:ev env y=some v)(u:v.oneCell'=true)(n:w.there b o 1):(execOp a.eval ⟨none,.store t x y,ty,pos,af,g⟩).run P w=.ok .skip (w.setCell ⟨b,o,none⟩ v):=by
 simp only[execOp,F.eval j,F.eval m]
 obtain⟨i,e⟩:=n 0 O
 rw[FF]at i e
 have p:v.cells=#[v]:=by cases v<;>simp_all[Value.oneCell',Value.cells]
 have d:=run_storeCells_cells (P:=P) b o [v] 0 w (λq c=>by simp at c;subst c;simpa using i) (λq c=>by simp at c;subst c;simpa using e) (λq c=>by simp at c;subst c;exact u)
 simp only[FF]at d
 have s:(storeCells ⟨b,o,none⟩ [v]).run P w=.ok () (w.setCell ⟨b,o,none⟩ v):=d
 simp only[Instr.storeAt,Instr.sureAddr,storeVar,p,Sem.run_bind,Sem.run_pure,Result.andThen_ok,r,Fr,AY,Fw,ne_eq,not_true_eq_false,↓reduceIte,As,s]
theorem sStW(H:Own w0 row w rs)(i:Nat)(D:∀w,(sizeOf t).run P w=.ok 1 w)(F:Has N a env)(z:V2 l env g=true)(s:ev env x=some (Vc gb o))(m:ev env y=some v)(q:v.oneCell'=true)(hi:rs[i]?=some (.rws e sz (Vd gb 0 n c) rows))(A:∀r∈rows,r.length=sz)(b:rows[j]?=some r)(C:k<sz)(B:o=j*sz+k)(K:∀w,Own w0 row w (rs.set i (.rws e sz (Vd gb 0 n c) (rows.set j (r.set k v))))->wpList P l.toArray Q rest a w):wpList P l.toArray Q (⟨none,.store t x y,ty,pos,af,g⟩::rest) a w:=by
 subst B
 obtain⟨p,d⟩:=H.setRws i (u:=v) hi A b C
 exact Xdb F z Z (w':=w.setCell ⟨gb,j*sz+k,none⟩ v) (E2 D F s m q p) (K _ d)
theorem oStW(H:Own w0 row w rs)(i:Nat)(C:∀w,(sizeOf t).run P w=.ok 1 w)(F:Has N a env)(s:ev env x=some (Vc gb o))(m:ev env y=some v)(q:v.oneCell'=true)(hi:rs[i]?=some (.rws e sz (Vd gb 0 n c) rows))(z:∀r∈rows,r.length=sz)(b:rows[j]?=some r)(B:k<sz)(A:o=j*sz+k)(K:∀w,Own w0 row w (rs.set i (.rws e sz (Vd gb 0 n c) (rows.set j (r.set k v))))->Kt a w):(Oper.mk none (.store t x y) ty pos af g).wp P a w Kt Q:=by
 subst A
 obtain⟨p,d⟩:=H.setRws i (u:=v) hi z b B
 exact oU Z (w':=w.setCell ⟨gb,j*sz+k,none⟩ v) (E2 C F s m q p) (K _ d)
end
def Mw(m:Nat)(d:By):List (List Value):=(List.range m).map λi=>[b8 (d i)]
theorem QV(m:Nat)(d:By):(Mw m d).length=m:=by unfold Mw;rw[AH,Aq]
theorem Mv(m:Nat)(d:By):∀r∈Mw m d,r.length=1:=λr b=>by
 unfold Mw at b
 obtain⟨i,_,rfl⟩:=AT.1 b
 rfl
theorem JP(d:By)(h:i<m):(Mw m d)[i]?=some [b8 (d i)]:=by
 unfold Mw
 rw[AD,Av h];rfl
theorem Xbo(d:By)(j:Nat)(v:UInt8):(Mw m d).set j [b8 v]=Mw m (put d j v):=by
 refine Ar λi=>?_
 rw[Am,QV]
 rcases AN i m with h|h
 ·rw[JP _ h,JP _ h]
  unfold put
  by_cases e:j=i
  ·rw[if_pos e,if_pos O,if_pos e.symm]
  ·rw[if_neg e,if_neg (λx=>e x.symm)]
 ·rw[AV (by rw[QV];exact h),AV (by rw[QV];exact h)]
  by_cases e:j=i
  ·rw[if_pos e,if_neg O]
  ·rw[if_neg e]
theorem Xlm(l:List UInt8):l.map (λx=>[b8 x])=Mw l.length (ofL l):=by
 refine Ar λi=>?_
 rcases AN i l.length with h|h
 ·rw[JP _ h,AD,AA h]
  unfold ofL
  rw[AS,AA h];rfl
 ·rw[AV (by rw[AH];exact h),AV (by rw[QV];exact h)]
abbrev Res.byt(g m c:Nat)(d:By):Res:=.rws 5 1 (.slice (some ⟨g,0,none⟩) m c) (Mw m d)
theorem Own.bytCell{w0 w:World}{row:Option Nat}{rs:List Res}(H:Own w0 row w rs)(i:Nat){g:Nat}(hi:rs[i]?=some (.byt g m c d))(e:j<m):w.cell? ⟨g,0+j*1,.none⟩=some (b8 (d j)):=by
 obtain⟨b,o,p,n⟩:=H.rowsAt i hi (Mv m d) (by decide) j _ (JP d e)
 cases p
 exact n 0 _ Z
section
variable{P:Program}{l:List Oper}{Q:Exit->Act->World->Prop}{N:Nat}{a:Act}{env:List (Nat×Value)}{rest:List Oper}{d:Tmp}{ty:TypeId}{pos:String}{af:Array Edge}{g:Option (Nat×Bool)}{w w0:World}{row:Option Nat}{rs:List Res}{Kt:Act->World->Prop}
theorem sStY{v:UInt8}(H:Own w0 row w rs)(i:Nat)(o:∀w,(sizeOf t).run P w=.ok 1 w)(F:Has N a env)(e:V2 l env g=true)(b:ev env x=some (Vc gb (0+j*1)))(d:ev env y=some (b8 v))(hi:rs[i]?=some (.byt gb m c s))(n:j<m)(K:∀w,Own w0 row w (rs.set i (.byt gb m c (put s j v)))->wpList P l.toArray Q rest a w):wpList P l.toArray Q (⟨none,.store t x y,ty,pos,af,g⟩::rest) a w:=by
 refine sStW (k:=0) (j:=j) H i o F e b d Z hi (Mv m s) (JP s n) (by decide) O λw h=>K w ?_
 rw[show[b8 (s j)].set 0 (b8 v)=[b8 v]from Z,Xbo]at h
 exact h
theorem J4{v:UInt8}(H:Own w0 row w rs)(i:Nat)(n:∀w,(sizeOf t).run P w=.ok 1 w)(F:Has N a env)(b:ev env x=some (Vc gb (0+j*1)))(d:ev env y=some (b8 v))(hi:rs[i]?=some (.byt gb m c s))(e:j<m)(K:∀w,Own w0 row w (rs.set i (.byt gb m c (put s j v)))->Kt a w):(Oper.mk none (.store t x y) ty pos af g).wp P a w Kt Q:=by
 refine oStW (k:=0) (j:=j) H i n F b d Z hi (Mv m s) (JP s e) (by decide) O λw h=>K w ?_
 rw[show[b8 (s j)].set 0 (b8 v)=[b8 v]from Z,Xbo]at h
 exact h
end
end Go.Proofs.YtajfpcgbnflceaaGreatDoor
