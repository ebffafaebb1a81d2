/- WALK2. A slice of bytes of the function's own: its tail is cleared; slices.Compact, slices.Clone at bytes. Conditions: the slice is the caller's own. -/
import Derived.Test.YtajfpcgbnflceaaGreatDoorJn4
import Derived.OrdersIn
import Derived.TacticsIn
import Derived.Laws.AppendOwn
set_option linter.unusedSimpArgs false
set_option linter.unusedVariables false
namespace Go.Proofs.YtajfpcgbnflceaaGreatDoor
open Go.Proofs.Tryz
open Go.RowKit
set_option maxRecDepth 100000
set_option maxHeartbeats 4000000
variable{N b i id k m n:Nat}{P:Program}{R:Ending->World->Prop}{a:Act}{c x y:Code}{d:By}{dom:List UInt8}{ds:List Deferred}{e env:List (Nat×Value)}{fn:Func}{l:List Ins}{o:Oper}{ps:List Res}{row:Option Nat}{t:Tmp}{v:Value}{w w0:World}
section
variable{P:Program}{l:List Oper}{Q:Exit->Act->World->Prop}{N:Nat}{a:Act}{env:List (Nat×Value)}{rest:List Oper}{d:Tmp}{ty:TypeId}{pos:String}{af:Array Edge}{g:Option (Nat×Bool)}{w0 w:World}{row:Option Nat}{rs:List Res}
theorem sClrG{t e:TypeId}{x:Operand}{z:Array Value}{sz c j o c':Nat}{b:List (List Value)}(H:Own w0 row w rs)(i:Nat)(V:P.underlying t=some (.slice e))(hz:∀w,(zeroValue e).run P w=.ok (.int .u8 0) w)(J:z=#[.int .u8 0])(R:z.size=sz)(E:z.toList.all (·.oneCell')=true)(F:Has N a env)(hg:V2 l env g=true)(hx:ev env x=some (Vd j o m c'))(S:rs[i]?=some (.rws e sz (Vd j 0 n c) b))(ho:o=k*sz)(hm:k+m=n)(hr:∀r∈b,r.length=sz)(K:∀w,Own w0 row w (rs.set i (.rws e sz (Vd j 0 k c) (b.take k)))->wpList P l.toArray Q rest a w):wpList P l.toArray Q (⟨none,.call ⟨.builtin .clear,#[x],#[t]⟩,ty,pos,af,g⟩::rest) a w:=by
 subst ho
 obtain⟨d,hn,D,G,hl,I,hf,W⟩:=Xio H i S
 have y:(rs.set i (.blk j d e))[i]?=some (.blk j d e):=by
  rw[Am,if_pos Z,if_pos (AB.1 S).1]
 have T:(Builtin.zeroCells z m).toList.length=m*sz:=by rw[K0,G3,R]
 have hb:k*sz+m*sz=n*sz:=by rw[<-FB,hm]
 have a1:n*sz<=c*sz:=Ft _ D
 have p:∀v∈(Builtin.zeroCells z m).toList,v.oneCell'=true:=λv L=>by
  unfold Builtin.zeroCells at L
  rw[Array.toList_map]at L
  obtain⟨q,s,rfl⟩:=AT.1 L
  have s:q<m*z.size:=by simpa using s
  have hp:0<z.size:=by
   rcases Aw z.size with h|h
   ·rw[h]at s;simp at s
   ·exact h
  have B:q%z.size<z.size:=IW _ hp
  rw[getElem!_pos z _ B]
  exact Ah.1 E _ (Array.getElem_mem_toList B)
 have X:=Own.setCells i (Builtin.zeroCells z m).toList (k*sz) w _ d W y
 rw[Il]at X
 have M:(rs.set i (.blk j (VZ d (k*sz) (Builtin.zeroCells z m).toList) e))[i]?=some (.blk j (VZ d (k*sz) (Builtin.zeroCells z m).toList) e):=by
  rw[Am,if_pos Z,if_pos (AB.1 S).1]
 have A:(b.take k).flatten=b.flatten.take (k*sz):=E1 b hr k O
 have U:=blkRws (sz:=sz) (n:=k) (c:=c) (rows:=b.take k) X i M (by rw[Aj];omega) O G (by rw[J9];exact hl) (by rw[Lq _ _ _ _ (AI _),A,<-I,List.take_take,Fv O]) (by rw[A,Aj,hf];omega)
 rw[Il]at U
 refine XqD (v:=.tuple #[]) F hg Z (w':=w.setCells j (k*sz) (Builtin.zeroCells z m).toList) ?_ (K _ U)
 have C:=W.there i y (k*sz) (m*sz) (FR O)
 have u:=run_storeCells_cells (P:=P) j (k*sz) (Builtin.zeroCells z m).toList 0 w (λq s=>by rw[FF];exact(C q O).1) (λq s=>by rw[FF];exact(C q O).2) p
 rw[FF]at u
 simp only[execOp,resolve,FK,FH,IB,F.eval hx]
 cases m with
 |zero=>
  have e0:w.setCells j (k*sz) (Builtin.zeroCells z 0).toList=w:=by
   have:(Builtin.zeroCells z 0).toList=[]:=Al (by rw[T];omega)
   rw[this];rfl
  rw[e0]
  simp[invoke,builtin,Builtin.clear_,run_underlying V,go_sem]
 |succ m=>
  subst J
  simp[invoke,builtin,Builtin.clear_,run_underlying V,hz,u,go_sem]
theorem Xga(d:By)(h:k<=m):(Mw m d).take k=Mw k d:=by
 refine Ar λi=>?_
 rw[FV]
 rcases AN i k with h1|h1
 ·rw[if_pos h1,JP _ h1,JP _ O]
 ·rw[if_neg O,AV (by rw[QV];exact h1)]
theorem sClr8{t:TypeId}{x:Operand}{c b e:Nat}{s:By}(H:Own w0 row w rs)(i:Nat)(p:P.underlying t=some (.slice 5))(q:∀w,(zeroValue 5).run P w=.ok (.int .u8 0) w)(F:Has N a env)(j:V2 l env g=true)(d:ev env x=some (Vd b (0+k*1) m e))(o:rs[i]?=some (.byt b n c s))(hm:k+m=n)(K:∀w,Own w0 row w (rs.set i (.byt b k c s))->wpList P l.toArray Q rest a w):wpList P l.toArray Q (⟨none,.call ⟨.builtin .clear,#[x],#[t]⟩,ty,pos,af,g⟩::rest) a w:=by
 refine sClrG (z:=#[.int .u8 0]) (sz:=1) (k:=k) H i p q Z Z Z F j d o O hm (Mv n s) λw h=>K w ?_
 rw[Xga s O]at h
 exact h
end
def Inc(k:Nat)(d:By):Prop:=∀i,i+1<k->(d i).toNat<(d (i+1)).toNat
def Alk(k:Nat)(d:By)(n:Nat)(e:By):Prop:=(∀i,i<k->∃j,j<n/\d i=e j)/\∀j,j<n->∃i,i<k/\d i=e j
structure CmpI (n k q kk:Nat) (d arr:By):Prop where
 q1:1<=q
 le:k+q<=n
 k1:1<=kk
 kq:kk+1<=k+q
 inc:Inc kk arr
 alk:Alk kk arr (k+q) d
 last:arr (kk-1)=d (k+q-1)
 out:∀i,k+q-1<=i->arr i=d i
theorem CmpI.start(m:1<=k)(g:k<n)(c:Inc k d)(b:d k=d (k-1)):CmpI n k 1 k d d:=by
 refine⟨AI _,g,m,AI _,c,⟨λi h=>⟨i,O,Z⟩,λj h=>?_⟩,by rw[HQ];exact b.symm,λ_ _=>rfl⟩
 by_cases e:j=k
 ·exact⟨k-1,O,by rw[e];exact b.symm⟩
 ·exact⟨j,O,Z⟩
theorem CmpI.eq{q g:Nat}{b:By}(h:CmpI n k q g d b)(s:k+q<n)(m:d (k+q)=d (k+q-1)):CmpI n k (q+1) g d b:=by
 have t:=h.q1
 refine⟨O,O,h.k1,by have:=h.kq;omega,h.inc,⟨λi p=>?_,λj r=>?_⟩,?_,λi p=>h.out i O⟩
 ·obtain⟨j,o,c⟩:=h.alk.1 i p
  exact⟨j,O,c⟩
 ·by_cases e:j=k+q
  ·obtain⟨i,o,c⟩:=h.alk.2 (k+q-1) O
   exact⟨i,o,by rw[e,m];exact c⟩
  ·exact h.alk.2 j O
 ·rw[h.last,show k+(q+1)-1=k+q by omega,m]
theorem CmpI.ne{q b:Nat}{c:By}(h:CmpI n k q b d c)(w:k+q<n)(hs:Srt 0 n d)(r:d (k+q)≠d (k+q-1)):CmpI n k (q+1) (b+1) d (put c b (d (k+q))):=by
 have v:=h.q1
 have u:=h.k1
 have t:=h.kq
 have o:(d (k+q-1)).toNat<(d (k+q)).toNat:=by
  have:=hs (k+q-1) (AU _) O
  rw[show k+q-1+1=k+q by omega]at this
  rcases AN (d (k+q-1)).toNat (d (k+q)).toNat with h4|h4
  ·exact h4
  ·exact absurd (HC.1 O) r
 have g:∀i,i<b->put c b (d (k+q)) i=c i:=λi p=>by unfold put;rw[if_neg O]
 have pk:put c b (d (k+q)) b=d (k+q):=by unfold put;rw[if_pos Z]
 refine⟨O,O,O,O,λi p=>?_,⟨λi p=>?_,λj s=>?_⟩,?_,λi p=>?_⟩
 ·by_cases e:i+1=b
  ·rw[g i O,e,pk,show i=b-1 by omega,h.last];exact o
  ·rw[g i O,g (i+1) O];exact h.inc i O
 ·by_cases e:i=b
  ·exact⟨k+q,O,by rw[e,pk]⟩
  ·obtain⟨j,h4,m⟩:=h.alk.1 i O
   exact⟨j,O,by rw[g i O];exact m⟩
 ·by_cases e:j=k+q
  ·exact⟨b,O,by rw[pk,e]⟩
  ·obtain⟨i,h4,m⟩:=h.alk.2 j O
   exact⟨i,O,by rw[g i h4];exact m⟩
 ·rw[HQ,pk,show k+(q+1)-1=k+q by omega]
 ·unfold put
  rw[if_neg O]
  exact h.out i O
theorem Xcq(g n c:Nat)(d:By)(W:World)(row:Option Nat)(rs:List Res)(w0:World)(H:Own W row w0 (.byt g n c d::rs))(S:n<=1000000)(K:0<n)(hs:Srt 0 n d):
 Calls prog 109 #[Vd g 0 n c] w0 λe P=>∃(k:Nat)(y:By),e=.returned (Vd g 0 k c)/\0<k/\k<=n/\Inc k y/\Alk k y n d/\Own W row P (.byt g k c y::rs):=by
 have I:=(H.rwsLen 0 Z).2.1
 have A:=(H.rwsLen 0 Z).2.2
 unfold maxLen at A
 refine VU func109 Z ntmps109 Z (λa F=>?_)
 refine gg 12 λa F=>zi (λJ=>?_) λJ=>?_
 ·
  refine gg 7 λa F=>?_
  exact⟨n,d,Z,K,AI _,λi h=>O,⟨λi h=>⟨i,h,Z⟩,λj h=>⟨j,h,Z⟩⟩,H⟩
 refine gg 7 λa F=>?_
 refine cLoopS [0] (λm r w=>∃(k:Nat),m=n-k/\r=[(3,Ve ((k:Nat):Int))]/\1<=k/\k<=n/\Inc k d/\Own W row w (.byt g n c d::rs)) F (n-1) [(3,Ve ((1:Nat):Int))] ?_ ?_
 ·exact⟨1,Z,Z,AI _,O,λi h=>O,H⟩
 clear F H;intro m r a w E F
 obtain⟨k,rfl,rfl,z,N,s,H⟩:=E
 refine gg 9 λa F=>zi (λG=>?_) λG=>?_
 ·
  refine gg 4 λa F=>?_
  refine zRO H λH=>?_
  refine gg 12 λa F=>zi (λu=>?_) λu=>?_
  ·
   refine gg 4 λa F=>?_
   refine sSlL underlying23 sizeOf5 F Z Z Z Z ?_ ?_ ?_
   focus(omega)
   focus(omega)
   clear F a;intro a F
   refine gg 8 λa F=>?_
   refine cLoopS [0,4] (λm r w=>∃(q t:Nat)(b:By),m=n-(k+q)/\r=[(3,Ve ((t:Nat):Int)),(5,Ve ((q:Nat):Int))]/\CmpI n k q t d b/\Own W row w (.byt g n c b::rs)) F (n-(k+1)) [(3,Ve ((k:Nat):Int)),(5,Ve ((1:Nat):Int))] ?_ ?_
   ·exact⟨1,k,d,Z,Z,CmpI.start z O s u,H⟩
   clear F H;intro m r a w E F
   obtain⟨q,t,b,rfl,rfl,o,H⟩:=E;have U:=o.q1;have V:=o.le;have Q:=o.k1;have R:=o.kq
   refine gg 9 λa F=>zi (λC=>?_) λC=>?_
   ·
    refine gg 4 λa F=>?_
    refine zRO H λH=>?_
    refine gg 3 λa F=>?_
    refine Xe 3 Z F Z Z (λw H=>rLd isAgg5 F Z (by rw[show 0+k*1+q*1=0+(k+q)*1 by omega];exact H.bytCell 0 Z O)) H qq0 λa F=>?_
    refine gg 4 λa F=>?_
    refine Xe 8 Z F Z Z (λw H=>rLd isAgg5 F Z (by rw[show 0+k*1+(q-1)*1=0+(k+q-1)*1 by omega];exact H.bytCell 0 Z O)) H qq0 λa F=>?_
    refine gg 3 λa F=>zi (λp=>?_) λp=>?_
    ·
     refine gg 7 λa F=>?_
     refine sLd isAgg5 F Z Z Z (by rw[show 0+k*1+q*1=0+(k+q)*1 by omega];exact H.bytCell 0 Z O) λa F=>?_
     refine gg 1 λa F=>?_
     refine sStY H 0 sizeOf5 F Z Z Z Z O λw H=>?_
     refine gg 11 λa F=>?_
     have v:b (k+q)=d (k+q):=o.out _ O
     have B:b (k+q-1)=d (k+q-1):=o.out _ O
     rw[v,B]at p
     (rw[v]at H
      exact⟨_,O,_,⟨q+1,t+1,_,Z,Z,o.ne O hs p,H⟩,F.tt⟩)
    refine gg 6 λa F=>?_
    have v:b (k+q)=d (k+q):=o.out _ O
    have B:b (k+q-1)=d (k+q-1):=o.out _ O
    rw[v,B]at p
    exact⟨_,O,_,⟨q+1,t,_,Z,Z,o.eq O p,H⟩,F.tt⟩
   have L:k+q=n:=O
   refine gg 5 λa F=>?_
   refine sSlL underlying23 sizeOf5 F Z Z Z Z ?_ ?_ ?_
   focus(omega)
   focus(omega)
   clear F a;intro a F;refine sClr8 (k:=t) (m:=n-t) H 0 underlying23 zeroValue5 F Z Z Z O λw H=>?_
   refine gg 5 λa F=>?_
   refine XqN underlying23 (λw=>⟨_,sizeOf5 w⟩) F Z Z Z Z ?_ ?_
   focus(omega)
   clear F a;intro a F
   refine gg 4 λa F=>?_
   exact⟨t,b,Z,O,O,o.inc,by rw[<-L];exact o.alk,H⟩
  refine gg 6 λa F=>?_
  have D:(d (k-1)).toNat<(d k).toNat:=by
   have M:=hs (k-1) (AU _) O
   rw[show k-1+1=k by omega]at M
   rcases AN (d (k-1)).toNat (d k).toNat with h4|h4
   ·exact h4
   ·exact absurd (HC.1 O) u
  exact⟨_,O,_,⟨k+1,Z,Z,O,O,λi T=>by
   by_cases e:i+1=k
   ·rw[e,show i=k-1 by omega];exact D
   ·exact s i O,H⟩,F.tt⟩
 refine gg 8 λa F=>?_
 (obtain rfl:k=n:=O
  exact⟨k,d,Z,O,AI _,s,⟨λi h=>⟨i,h,Z⟩,λj h=>⟨j,h,Z⟩⟩,H⟩)
theorem Own.rwsAddr{rs:List Res}(H:Own w0 row w rs)(i:Nat){e:TypeId}{q c:Nat}{A:Option Addr}{b:List (List Value)}(o:rs[i]?=some (.rws e q (.slice A n c) b))(m:0<b.length):∃g,A=some ⟨g,0,.none⟩:=by
 have h:=H.arr i o
 rcases h.2 with⟨d,r⟩|⟨g,p,j,d,_⟩
 ·omega
 ·cases d;exact⟨g,Z⟩
theorem B9:∀{l m:List UInt8},l.Pairwise (λx y=>x.toNat<y.toNat)->m.Pairwise (λx y=>x.toNat<y.toNat)->(∀x,x∈l↔x∈m)->l=m
 | [],[],_,_,_=>rfl
 | [],y::m,_,_,h=>absurd ((h y).2 (by simp)) (by simp)
 |x::l,[],_,_,h=>absurd ((h x).1 (by simp)) (by simp)
 |x::l,y::m,j,n,h=>by
  have g:=Fd.1 j
  have d:=Fd.1 n
  have e:x=y:=by
   apply Decidable.byContradiction
   intro c
   have i:x∈m:=by
    have:=(h x).1 (by simp)
    rcases Ap.1 this with e|e
    ·exact absurd e c
    ·exact e
   have o:y∈l:=by
    have:=(h y).2 (by simp)
    rcases Ap.1 this with e|e
    ·exact absurd e.symm c
    ·exact e
   have:=g.1 y o
   have:=d.1 x i
   omega
  subst e
  congr 1
  refine B9 g.2 d.2 λz=>⟨λb=>?_,λb=>?_⟩
  ·rcases Ap.1 ((h z).1 (by simp[b]))with e|e
   ·rw[e]at b;have:=g.1 x b;omega
   ·exact e
  ·rcases Ap.1 ((h z).2 (by simp[b]))with e|e
   ·rw[e]at b;have:=d.1 x b;omega
   ·exact e
def Um(l:List UInt8):List UInt8:=((List.range 256).map UInt8.ofNat).filter λv=>l.contains v
theorem XfB(l:List UInt8):(Um l).Pairwise (λx y=>x.toNat<y.toNat):=by
 refine List.Pairwise.filter _ (Ig.2 ?_)
 refine Ao.2 λi j d b c=>?_
 rw[Aq]at d b;rw[Hm,Hm,HZ,HZ]
 omega
theorem EQ(l:List UInt8)(x:UInt8):x∈Um l↔x∈l:=by
 unfold Um
 rw[Az,Ik]
 refine⟨λh=>h.2,λh=>⟨AT.2 ⟨x.toNat,Ab.2 x.toNat_lt,by simp⟩,h⟩⟩
theorem Xkd{l m:List UInt8}(hm:m.Pairwise (λx y=>x.toNat<y.toNat))(h:∀x,x∈m↔x∈l):m=Um l:=B9 hm (XfB l) λx=>(h x).trans (EQ l x).symm
theorem XfA:Um []=[]:=by unfold Um;exact F3.2 λx _=>by simp
def Xqa(k:Nat)(d:By):List UInt8:=(List.range k).map d
theorem Xl0(k:Nat)(d:By):(Xqa k d).length=k:=by unfold Xqa;rw[AH,Aq]
theorem Xjl(k:Nat)(d:By):Mw k d=(Xqa k d).map λx=>[b8 x]:=by unfold Mw Xqa;rw[Fj];rfl
theorem XnJ{k:Nat}{d:By}(h:Inc k d):∀{j i:Nat},i<j->j<k->(d i).toNat<(d j).toNat
 |0,_,e,_=>O
 |j+1,i,e,c=>by
  have b:=h j c
  rcases AN i j with h4|h4
  ·have:=XnJ h h4 O;omega
  ·rw[show i=j by omega];exact b
theorem Xjm{v:By}{l:List UInt8}(y:Inc k d)(t:Alk k d n v)(hs:Sm 0 n (ofL l) v)(z:n=l.length):Xqa k d=Um l:=by
 have c:∀j,j<l.length->ofL l j∈l/\l[j]?=some (ofL l j):=λj s=>by
  unfold ofL
  rw[AS,AA s]
  exact⟨Ff s,Z⟩
 refine Xkd ?_ λx=>⟨λm=>?_,λm=>?_⟩
 ·unfold Xqa
  refine Ig.2 (Ao.2 λi j g b o=>?_);rw[Aq]at g b;rw[Hm,Hm]
  exact XnJ y o b
 ·obtain⟨i,g,rfl⟩:=AT.1 m
  obtain⟨j,b,o⟩:=t.1 i (Ab.1 g)
  obtain⟨q,_,u,r⟩:=hs.to j (AU _) b
  rw[o,r]
  exact(c q O).1
 ·obtain⟨q,w⟩:=Af.1 m
  have p:=(AB.1 w).1
  have e:ofL l q=x:=Ac ((c q p).2.symm.trans w)
  obtain⟨j,_,u,r⟩:=hs.fro q (AU _) O
  obtain⟨i,g,b⟩:=t.2 j u
  exact AT.2 ⟨i,Ab.2 g,by rw[b,r,e]⟩
theorem LQ(A:Option Addr)(C:Nat)(l:List UInt8)(w0:World)(i:RowsAt w0 A 1 (l.map λx=>[YtajfpcgbnflceaaGreatDoor.b8 x]))(v:l.length<=1000000):
 Calls prog 56 #[.slice A l.length C] w0 λe p=>∃j m,e=.returned (.slice j l.length m)/\Own w0 none p [.rws 5 1 (.slice j l.length m) (l.map λx=>[YtajfpcgbnflceaaGreatDoor.b8 x])]:=by
 have H:=Own.start w0 none
 have g:∀r∈(l.map λx=>[YtajfpcgbnflceaaGreatDoor.b8 x]),r.length=1:=by simp
 have q:∀r∈(l.map λx=>[YtajfpcgbnflceaaGreatDoor.b8 x]),r.all (·.oneCell')=true:=by simp[YtajfpcgbnflceaaGreatDoor.b8,Value.oneCell']
 refine VU func56 Z ntmps56 Z (λa F=>?_)
 refine gg 8 λa F=>?_
 refine Xh F Z Z (bNil underlying23) λa F=>?_
 refine gg 1 λa F=>?_
 refine cIf F Z (λc=>?_) (λc=>?_)
 ·
  obtain rfl:A=none:=by cases A with|none=>rfl|some a=>cases c
  obtain rfl:l=[]:=by
   cases l with
   |nil=>rfl
   |cons r rs=>
   obtain⟨b,o,n,_⟩:=i 0 _ Z
   cases n
  refine gg 6 λa F=>?_
  exact⟨none,0,Z,H.nilRws 5 1⟩
 obtain⟨d,rfl⟩:∃d,A=some d:=by cases A with|none=>cases c|some a=>exact⟨a,Z⟩
 refine gg 3 λa F=>?_
 refine sBs (cs:=[]) H underlying23 sizeOf5 zeroValue5 Z F Z Z Z Z Z λt a w F H=>?_
 replace H:=H.emptyRws 1
 refine gg 1 λa F=>?_
 refine Xli (bytes:=1) H 0 underlying23 typeInfo5 Z Z Z Z Z Z F Z Z Z Z Z (by simp) (((i.own H).flat g)) (g) (q) ((by simp only[Fw,AH];omega)) λu s a w F H=>?_
 refine gg 4 λa F=>?_
 (simp only[FI,AH]at H
  exact⟨_,_,by simp only[FI,AH],H.pick 0 Z⟩)
theorem Xcr(A:Option Addr)(c:Nat)(w0:World):Va 109 #[.slice A 0 c] w0 (.slice A 0 c):=by
 refine Vb func109 ntmps109 λH a F=>?_
 refine gg 12 λa F=>zi (λb=>?_) λb=>?_
 ·
  refine gg 7 λa F=>?_
  exact⟨Z,H.below⟩
 omega
def Xel(l:List UInt8)(w0:World)(e:Ending)(d:World):Prop:=∃b c,e=.returned (.slice b (Um l).length c)/\Own w0 none d [.rws 5 1 (.slice b (Um l).length c) ((Um l).map λx=>[YtajfpcgbnflceaaGreatDoor.b8 x])]
theorem XaA(A:Option Addr)(C:Nat)(w0:World):Calls prog 55 #[.slice A 0 C] w0 (Xel [] w0):=by
 refine Vb func55 ntmps55 λH a F=>?_
 refine gg 7 λa F=>?_
 refine Xi call56 F Z (LQ A C [] _ (show RowsAt _ A 1 []from λj g h=>by simp at h) (AU _)) ?_;rintro e w ⟨c,b,rfl,d⟩;replace H:=H.join d;clear d
 refine zq λa F=>?_
 refine gg 5 λa F=>?_
 refine zCa F (Xh7 c b _) H λa w F H=>?_
 refine gg 4 λa F=>?_
 refine zCa F (Xcr c b _) H λa w F H=>?_
 refine gg 4 λa F=>?_
 exact⟨c,b,by rw[XfA];rfl,by rw[XfA];exact H.sel [0] Z Z⟩
theorem Xaz(A:Option Addr)(C:Nat)(l:List UInt8)(w0:World)(r:RowsAt w0 A 1 (l.map λx=>[YtajfpcgbnflceaaGreatDoor.b8 x]))(n:l.length<=1000000)(p:0<l.length):Calls prog 55 #[.slice A l.length C] w0 (Xel l w0):=by
 refine Vb func55 ntmps55 λH a F=>?_
 refine gg 7 λa F=>?_
 refine Xi call56 F Z (LQ A C l _ (r.own H) n) ?_;rintro e w ⟨u,j,rfl,b⟩;replace H:=H.join b
 clear b
 obtain⟨g,rfl⟩:=H.rwsAddr 0 Z (by rw[AH];exact p)
 rw[Xlm]at H
 refine zq λa F=>?_
 refine gg 5 λa F=>?_
 refine Xi call108 F Z (Xh6 g l.length j _ w0 none [] _ H n) ?_;rintro e w ⟨rfl,t,m,i,b⟩
 replace H:=b;clear b
 refine zq λa F=>?_
 refine gg 4 λa F=>?_
 refine Xi call109 F Z (Xcq g l.length j _ w0 none [] _ H n p i) ?_;rintro e w ⟨k,v,rfl,q,s,d,c,b⟩
 replace H:=b;clear b
 refine zq λa F=>?_
 refine gg 4 λa F=>?_
 have e:=Xjm d c m Z
 have o:k=(Um l).length:=by rw[<-e,Xl0]
 refine⟨some ⟨g,0,none⟩,j,by rw[<-o],?_⟩
 rw[<-o,<-e,<-Xjl]
 exact H
theorem Nb(A:Option Addr)(C:Nat)(l:List UInt8)(w0:World)(b:RowsAt w0 A 1 (l.map λx=>[YtajfpcgbnflceaaGreatDoor.b8 x]))(c:l.length<=1000000):Calls prog 55 #[.slice A l.length C] w0 (Xel l w0):=by
 rcases Aw l.length with h0|h0
 ·obtain rfl:=Al h0
  exact XaA A C w0
 ·exact Xaz A C l w0 b c h0
structure Calm (G:Fence):Prop where
 fn:∀f,G.fn f
 dep:G.depth=none
 calls:∀{m:Nat}{P:Program}{f:FuncId}{args:Array Value}{w:World}{R:Ending->World->Prop},Calls P f args w R->CallsIn G m P f args w R
 rows:∀{m:Nat}{P:Program}{row:String}{args:Array Value}{w:World}{R:Value->World->Prop},Rows P row args w R->RowsIn G m P row args w R
theorem M6:Calm Fence.wide:=⟨λ_=>trivial,Z,λh=>callsIn_wide.2 h,λh c b _=>let⟨v,d,r,s⟩:=h c b;⟨v,d,r,stepsIn_wide.2 s⟩⟩
theorem Nv(l:Nat):Calm (Fence.wide.inRound l):=⟨λ_=>trivial,Z,λh=>CallsIn.inRound l (callsIn_wide.2 h),λh c b _=>let⟨v,d,r,s⟩:=h c b;⟨v,d,r,stepsIn_wide.2 s⟩⟩
def Xo1(l:List Oper):Bool:=l.all λo=>match o.op with | .defer _=>false|_=>true
theorem Xe6{l:List Oper}(h:Xo1 l=true)(b:o∈l):∀c,o.op ≠ .defer c:=λc e=>by
 have:=Ah.1 h o b
 rw[e]at this
 cases this
abbrev wD(a:Act)(ds:List Deferred):Act:={a with defers:=ds}
theorem QY(a:Act)(ds:List Deferred)(d:Option Tmp)(v:Value):(wD a ds).put d v=wD (a.put d v) ds:=by cases d<;>rfl
theorem Jk(a:Act)(ds:List Deferred):(wD a ds).eval=a.eval:=funext λx=>by cases x<;>rfl
def Qd(ds:List Deferred)(Q:Exit->Act->World->Prop):Exit->Act->World->Prop:=λe a w=>a.defers=[]/\Q e (wD a ds) w
theorem QZ{d:Option Tmp}(h:(a.put d v).defers=[]):a.defers=[]:=by cases d<;>exact h
section
variable{P:Program}{Q:Exit->Act->World->Prop}{ds:List Deferred}{G:Fence}{n:Nat}
theorem XgG(b:LetsOut Q->False):LetsOut (Qd ds Q)->False:=λ⟨_,_,h⟩=>b ⟨_,_,h.2⟩
theorem Xe5{next:Act->World->Prop}(m:LetsOut Q->False)(i:∀a w,next a w->a.defers=[]){r:Result Next}(h:o.upon P a next (Qd ds Q) r):a.defers=[]:=by
 cases r with
 |ok x j=>
  cases x with
  |value v=>exact QZ (i _ _ h)
  |skip=>exact QZ (i _ _ h)
  |defer d=>have:=QZ (i _ _ h);cases this
  |enter f b=>
   obtain⟨e,n,p,g,_⟩:=(h:Calls P f b j _) []
   cases e with
   |returned v=>exact QZ (i _ _ g)
   |panicked c=>exact g.1
   |outgrown=>exact(XgG m g).elim
  |row row b=>
   obtain⟨v,n,g,_⟩:=(h:Rows P row b j _) default []
   exact QZ (i _ _ g)
  |_=>exact h.elim
 |halt x j=>
  cases x with
  |panic v=>exact h.1
  |_=>exact h.elim
theorem CZ{ops:Array Oper}(b:LetsOut Q->False):∀(l:List Oper)(a:Act)(w:World),wpList P ops (Qd ds Q) l a w->a.defers=[]
 | [],_,_,h=>h.1
 |o::l,a,w,h=>by
  unfold wpList at h
  split at h
  ·rcases h with h|⟨_,h⟩
   ·exact Xe5 b (λa w h=>CZ b l a w h) h
   ·exact(XgG b h).elim
  ·exact QZ (CZ b l _ _ h)
theorem XhF(m:Calm G){next b:Act->World->Prop}(q:LetsOut Q->False)(j:∀a w,next a w->b (wD a ds) w)(u:∀a w,next a w->a.defers=[]){r:Result Next}(h:o.upon P a next (Qd ds Q) r):o.uponIn G n P (wD a ds) b Q r:=by
 have p:G.depth.isSome=true->1<=n:=λh=>by rw[m.dep]at h;cases h
 cases r with
 |ok x t=>
  cases x with
  |value v=>show b ((wD a ds).put _ _) _;rw[QY];exact j _ _ h
  |skip=>show b ((wD a ds).put _ _) _;rw[QY];exact j _ _ h
  |defer d=>have:=QZ (u _ _ h);cases this
  |enter f i=>
   refine⟨p,m.calls (Calls.mono h λe s g=>?_)⟩
   cases e with
   |returned v=>show b ((wD a ds).put _ _) _;rw[QY];exact j _ _ g
   |panicked c=>exact g.2
   |outgrown=>exact(XgG q g).elim
  |row row i=>
   refine⟨p,m.rows (Rows.mono h λv s g=>?_)⟩
   show b ((wD a ds).put _ _) _;rw[QY];exact j _ _ g
  |_=>exact h.elim
 |halt x t=>
  cases x with
  |panic v=>exact h.2
  |_=>exact h.elim
theorem XdJ(d:Calm G){ops:Array Oper}(b:LetsOut Q->False):∀(l:List Oper),(∀o∈l,∀c,o.op ≠ .defer c)->∀(a:Act)(w:World),wpList P ops (Qd ds Q) l a w->wpListIn G n P ops Q l (wD a ds) w
 | [],_,_,_,h=>h.2
 |o::l,e,a,w,h=>by
  unfold wpList at h
  unfold wpListIn
  split at h
  ·rename_i i
   rw[if_pos i]
   rcases h with h|⟨_,h⟩
   ·refine⟨λf _=>d.fn f,?_⟩
    rw[Oper.semAt_eq _ _ _ (e o (by simp)),Jk]
    exact XhF d b (λa w h=>XdJ d b l (λo g=>e o (by simp[g])) a w h) (λa w h=>CZ b l a w h) h
   ·exact(XgG b h).elim
  ·rename_i i
   rw[if_neg i]
   refine⟨λf _=>d.fn f,?_⟩
   rw[QY]
   exact XdJ d b l (λo g=>e o (by simp[g])) _ _ h
theorem XrA{ops:Array Oper}{K:Act->World->Prop}(c:LetsOut Q->False)(b:∀a w,K a w->a.defers=[])(h:wpOp P ops (Qd ds Q) i K a w):a.defers=[]:=by
 unfold wpOp at h
 split at h
 ·exact b _ _ h
 ·split at h
  ·rcases h with h|⟨_,h⟩
   ·exact Xe5 c b h
   ·exact(XgG c h).elim
  ·exact QZ (b _ _ h)
theorem Xi2{ops:Array Oper}(c:LetsOut Q->False):∀(fuel:Nat)(b:Array Bool)(a:Act)(w:World),wpAny P .any ops (Qd ds Q) fuel b a w->a.defers=[]
 |0,_,_,_,h=>h.2.1
 |fuel+1,b,a,w,h=>by
  cases d:Region.ready .any ops b with
  |nil=>exact(h.1 d).1
  |cons i r=>exact XrA c (λa w h=>Xi2 c fuel _ a w h) (h.2 i (by rw[d];simp))
theorem op_in(e:Calm G){ops:Array Oper}(hd:∀o∈ops.toList,∀c,o.op ≠ .defer c){K m:Act->World->Prop}(j:LetsOut Q->False)(d:∀a w,K a w->m (wD a ds) w)(p:∀a w,K a w->a.defers=[])(h:wpOp P ops (Qd ds Q) i K a w):wpOpIn G n P ops Q i m (wD a ds) w:=by
 unfold wpOp at h
 unfold wpOpIn
 split at h
 ·rename_i b;simp only[b];exact d _ _ h
 ·rename_i o b
  simp only[b]
  split at h
  ·rename_i g
   rw[if_pos g]
   rcases h with h|⟨_,h⟩
   ·refine⟨λf _=>e.fn f,?_⟩
    rw[Oper.semAt_eq _ _ _ (hd o (Array.mem_toList_iff.2 (Array.mem_of_getElem? b))),Jk]
    exact XhF e j d p h
   ·exact(XgG j h).elim
  ·rename_i g
   rw[if_neg g]
   refine⟨λf _=>e.fn f,?_⟩
   rw[QY]
   exact d _ _ h
theorem Xn8(e:Calm G){ops:Array Oper}(hd:∀o∈ops.toList,∀c,o.op ≠ .defer c)(d:LetsOut Q->False):∀(fuel:Nat)(b:Array Bool)(a:Act)(w:World),wpAny P .any ops (Qd ds Q) fuel b a w->wpAnyIn G n P .any ops Q fuel b (wD a ds) w
 |0,_,_,_,h=>⟨h.1,h.2.2⟩
 |fuel+1,b,a,w,h=>⟨λj=>(h.1 j).2,λi g=>op_in e hd d (λa w h=>Xn8 e hd d fuel _ a w h) (λa w h=>Xi2 d fuel _ a w h) (h.2 i g)⟩
end
theorem Xeu(F:Has N a env):wD a []=a:=by
 have:=F.nod
 cases a
 simp_all
def XbE(Q:Exit->Act->World->Prop):Exit->Act->World->Prop
 |.outgrown,_,_=>False
 |e,a,w=>Q e a w
theorem Xp4{Q:Exit->Act->World->Prop}(F:Has N a env)(h:c.wpIn Fence.wide 0 P (XbE Q) (wD a []) w):c.wp P Q a w:=by
 rw[Xeu F]at h
 exact wp_mono (wpIn_wide.1 h) (λe a w h=>by cases e<;>first|exact h|exact h.elim)
def Xsl(ds:List Deferred)(N:Nat)(b:Act)(e:List (Nat×Value)):Prop:=∃a,b=wD a ds/\Has N a e
theorem Has.toD(F:Has N a env)(h:Le e env):Xsl ds N (wD a ds) e:=⟨a,Z,F.to h⟩
namespace Md
variable{P:Program}{l:List Oper}{Q:Exit->Act->World->Prop}{S:World->Prop}{N:Nat}{a:Act}{env:List (Nat×Value)}{w w0:World}{row:Option Nat}{rs:List Res}{ds:List Deferred}{G:Fence}{n:Nat}
theorem cReg(h:wpList P l.toArray (Qd ds Q) l a w)(d:Calm G:=by first|exact M6|exact Nv _)(hd:Xo1 l=true:=by rfl)(c:LetsOut Q->False:=by exact λ⟨_,_,h⟩=>h):(Code.region id l.toArray false).wpIn G n P Q (wD a ds) w:=
 wpIn_region_lit (XdJ d c l (λ_ b=>Xe6 hd b) a w h)
theorem sNil(K:Q .normal (wD a ds) w)(F:Has N a env:=by assumption):wpList P l.toArray (Qd ds Q) [] a w:=⟨F.nod,K⟩
theorem cIfT{c:Operand}(F:Has N a env)(b:ev env c=some (.bool true))(h:x.wpIn G n P Q (wD a ds) w):(Code.cond c x y).wpIn G n P Q (wD a ds) w:=wpIn_cond_true (by rw[Jk];exact F.eval b) h
theorem cIfF{c:Operand}(F:Has N a env)(b:ev env c=some (.bool false))(h:y.wpIn G n P Q (wD a ds) w):(Code.cond c x y).wpIn G n P Q (wD a ds) w:=wpIn_cond_false (by rw[Jk];exact F.eval b) h
theorem cIf{c:Operand}{b:Bool}(F:Has N a env)(g:ev env c=some (.bool b))(d:b=true->x.wpIn G n P Q (wD a ds) w)(e:b=false->y.wpIn G n P Q (wD a ds) w):(Code.cond c x y).wpIn G n P Q (wD a ds) w:=wpIn_cond_split (by rw[Jk];exact F.eval g) d e
theorem cRegRO(hm:P.follows .mixedOrders=true)(_H:Own w0 row w rs)(h:wpR P l (Qd ds Q) (λw=>Own w0 row w rs) 0 (List.replicate l.length false) a w.drew)(d:Calm G:=by first|exact M6|exact Nv _)(hd:Xo1 l=true:=by rfl)(c:LetsOut Q->False:=by exact λ⟨_,_,h⟩=>h):(Code.region id l.toArray true).wpIn G n P Q (wD a ds) w:=by
 refine wpIn_region_any hm ?_
 have g:Closed l (List.replicate l.length false).toArray:=λj o i b e m p=>by
  exfalso
  simp only[Fk,Im,Fp]at b
  split at b<;>simp at b
 have:=Nx _ _ _ _ _ (h g (AU _))
 rw[Fr,show Array.replicate l.length false=(List.replicate l.length false).toArray by simp]
 exact Xn8 d (λ_ hm=>Xe6 hd (by simpa using hm)) c _ _ _ _ this
theorem eNil{m:List Bool}(b:(Nat.beq k l.length&&(Region.ready .any l.toArray m.toArray).isEmpty)=true)(K:Q .normal (wD a ds) w)(F:Has N a env:=by assumption):wpR P l (Qd ds Q) S k m a w:=YtajfpcgbnflceaaGreatDoor.eNil b ⟨F.nod,K⟩
theorem wp_block(h:c.wpIn G n P (Exit.inBlock id Q) (wD a ds) w):(Code.block id c).wpIn G n P Q (wD a ds) w:=wpIn_block h
theorem wp_exit(h:Q (.exit id) (wD a ds) w):(Code.exit id).wpIn G n P Q (wD a ds) w:=wpIn_exit h
theorem wp_ret(h:Q .ret (wD a ds) w):Code.ret.wpIn G n P Q (wD a ds) w:=wpIn_ret h
theorem wp_skip(h:Q .normal (wD a ds) w):Code.skip.wpIn G n P Q (wD a ds) w:=wpIn_skip h
theorem cSeqJ(j:List Nat)(I:List (Nat×Value)->World->Prop)(_F:Has N a env)(_hs:SubR env j e)(o:x.wpIn G n P (Exit.then (λd c=>∃b,I b c/\Xsl ds N d (b++e)) Q) (wD a ds) w)(m:∀b a w,I b w->Has N a (b++e)->y.wpIn G n P Q (wD a ds) w):(Code.seq x y).wpIn G n P Q (wD a ds) w:=
 wpIn_seq (wpIn_mono o (λe d c h=>by
  cases e with
  |normal=>obtain⟨b,p,g,rfl,i⟩:=h;exact m b g c p i
  |_=>exact h))
theorem cSeqS(c:List Nat)(I:List (Nat×Value)->World->Prop)(_F:Has N a env)(j:x.wpIn G n P (Exit.then (λd i=>∃b,I b i/\Xsl ds N d (b++e)) Q) (wD a ds) w)(g:∀b a w,I b w->Has N a (b++e)->y.wpIn G n P Q (wD a ds) w)(_hs:SubR env c e:=by repeat(first|exact SubR.nil|(apply SubR.cons;· rfl))):(Code.seq x y).wpIn G n P Q (wD a ds) w:=cSeqJ c I _F _hs j g
theorem cLoopR(ks:List Nat)(I:Nat->List (Nat×Value)->World->Prop)(F:Has N a env)(R:Nat)(g:List (Nat×Value))(hs:SubR env ks e)(T:I R g w)(hu:Le g env)(round:∀m g a w,I m g w->Has N a (g++e)->c.wpIn G n P (Exit.then (λs t=>∃y,y<m/\∃i,I y i t/\Xsl ds N s (i++e)) Q) (wD a ds) w):(Code.loop c).wpIn G n P Q (wD a ds) w:=by
 have A:∀l:List (Nat×Value),Le l env->Le (l++e) env:=λl S=>by
  induction l with
  |nil=>exact hs.le
  |cons p r K=>exact⟨S.1,K S.2⟩
 intro b k D C B L
 have v:∀m g a w,I m g w->Has N a (g++e)->∃e s t,Q e s t/\ArrivesIn (Machine.fenced P G) P (lone (b.atR (wD a ds) (.code c:: .inLoop c::k)) D w) b k D e s t:=by
  intro m
  induction m using Nat.strongRecOn with
  |_ m K=>
   intro g a w hI X
   obtain⟨x,u,q,j,d⟩:=round m g a w hI X b (.inLoop c::k) D C B L
   cases x with
   |normal=>
    obtain⟨y,J,i,z,W,rfl,E⟩:=j
    obtain⟨V,a2,U,M,o⟩:=K y J i W q z E
    exact⟨V,a2,U,M,.of_steps (StepsIn.trans d (.one (fenced_calm B L Z) stepR_inLoop)) o⟩
   |exit id=>exact⟨_,u,q,j,.pass (x:=.inLoop c) Z (λ_ _=>.inl (by simp)) d⟩
   |goto id=>exact⟨_,u,q,j,.pass (x:=.inLoop c) Z (λ_ _=>.inl (by simp)) d⟩
   |ret=>exact⟨_,u,q,j,.pass (x:=.inLoop c) Z (λ_ _=>.inl (by simp)) d⟩
   |panic ch=>exact⟨_,u,q,j,.pass (x:=.inLoop c) Z (λ_ _=>.inl (by simp)) d⟩
   |outgrown=>exact⟨_,u,q,j,.pass (x:=.inLoop c) Z (λ_ _=>.inl (by simp)) d⟩
 obtain⟨x,s,t,j,d⟩:=v R g a w T (F.to (A g hu))
 exact⟨x,s,t,j,.of_steps (.one (fenced_calm B L Z) stepR_loop) d⟩
theorem cLoopS(j:List Nat)(I:Nat->List (Nat×Value)->World->Prop)(F:Has N a env)(i:Nat)(b:List (Nat×Value))(p:I i b w)(round:∀m b a w,I m b w->Has N a (b++e)->c.wpIn G n P (Exit.then (λo r=>∃g,g<m/\∃d,I g d r/\Xsl ds N o (d++e)) Q) (wD a ds) w)(hs:SubR env j e:=by repeat(first|exact SubR.nil|(apply SubR.cons;· rfl)))(q:Le b env:=by repeat(first|exact trivial|refine Le.cons rfl ?_)):(Code.loop c).wpIn G n P Q (wD a ds) w:=cLoopR j I F i b hs p q round
theorem bRet(b:fn.results=#[.tmp t])(F:Has N a env)(c:lk env t=some v)(h:R (.returned v) w):XbE (bodyPost P fn R) .ret (wD a []) w:=by
 show bodyPost P fn R .ret (wD a []) w
 rw[Xeu F];exact YtajfpcgbnflceaaGreatDoor.bRet b F c h
theorem bEnd(b:fn.results=#[])(F:Has N a env)(h:R (.returned (.tuple #[])) w):XbE (bodyPost P fn R) .normal (wD a []) w:=by
 show bodyPost P fn R .normal (wD a []) w
 rw[Xeu F];exact YtajfpcgbnflceaaGreatDoor.bEnd b F h
/-! ### One operation at a time, in the fence -/
variable{ops:Array Oper}{rest:List Oper}{d:Tmp}{ty:TypeId}{pos:String}{af:Array Edge}{g:Option (Nat×Bool)}
theorem iV(F:Has N a env)(g:V2 l env o.guard=true)(b:o.dst=some d)(i:Nat.blt d N=true)(e:∀c,o.op ≠ .defer c)(m:(execOp a.eval o).run P w=.ok (.value v) w)(K:∀a,Has N a ((d,v)::env)->wpListIn G n P l.toArray Q rest (wD a ds) w)(j:Calm G:=by first|exact M6|exact Nv _):wpListIn G n P l.toArray Q (o::rest) (wD a ds) w:=by
 unfold wpListIn
 rw[if_pos (UB F g)]
 refine⟨λf _=>j.fn f,?_⟩
 rw[Oper.semAt_eq _ _ _ e,Jk,m,Oper.uponIn_value,b,QY]
 exact K _ (F.put i)
theorem iY{x y:Operand}{p:Nat}{i:Value}(F:Has N a env)(t:V2 l env g=true)(z:Nat.blt d N=true)(s:ev env x=some (.func (.yield p) #[] #[]))(C:ev env y=some i){q:Array TypeId}(A:YieldAt Fence.wide 0 P p #[i] w R)(K:∀e w,R e w->∃v,e=.returned v/\∀a,Has N a ((d,v)::env)->wpListIn Fence.wide 0 P l.toArray Q rest (wD a ds) w):
 wpListIn Fence.wide 0 P l.toArray Q (⟨some d,.call ⟨.value x,#[y],q⟩,ty,pos,af,g⟩::rest) (wD a ds) w:=by
 unfold wpListIn
 rw[if_pos (UB (o:=⟨some d,.call ⟨.value x,#[y],q⟩,ty,pos,af,g⟩) F t)]
 refine⟨λf _=>trivial,?_⟩
 obtain⟨fn,j,r,m,n,b⟩:=A
 have B:(execOp a.eval ⟨some d,.call ⟨.value x,#[y],q⟩,ty,pos,af,g⟩).run P w=.ok (.round p fn j r m) w:=by
  simp only[execOp,resolve,FK,FH,IB,F.eval s,F.eval C]
  simp[Deferred.ofValue,invoke,n,go_sem]
 rw[Oper.semAt_eq _ _ _ (λc h=>by cases h),Jk,B,Oper.uponIn_round]
 refine⟨λh=>(by cases h),b.mono λe E u=>?_⟩
 obtain⟨v,rfl,D⟩:=K e E u
 show wpListIn _ _ _ _ _ _ ((wD a ds).put _ _) _
 rw[QY]
 exact D _ (F.put z)
theorem iNil(K:Q .normal (wD a ds) w):wpListIn G n P l.toArray Q [] (wD a ds) w:=K
end Md
theorem zrfD{G:Act->World->Prop}(F:Has N a env)(h:∀a,Has N a env->G (wD a ds) w):G (wD a ds) w:=h a F
namespace Md
variable{P:Program}{l:List Oper}{Q:Exit->Act->World->Prop}{S:World->Prop}{N:Nat}{a:Act}{env:List (Nat×Value)}{w:World}{ds:List Deferred}{G:Fence}{n:Nat}
theorem zwq(h:x.wpIn G n P (Exit.then (y.wpIn G n P Q) Q) (wD a ds) w):(Code.seq x y).wpIn G n P Q (wD a ds) w:=wpIn_seq h
theorem zeNilz{m:List Bool}(b:Nat.beq k l.length=true)(zt:(Nat.beq k l.length&&(Region.ready .any l.toArray m.toArray).isEmpty)=true)(K:Q .normal (wD a ds) w)(F:Has N a env:=by assumption):wpR P l (Qd ds Q) S k m a w:=eNil zt K
theorem zcIf{c:Operand}{p q:Prop}(F:Has N a env)(zc:ev env c=some v)(zv:IfV v p q)(h:(p->x.wpIn G n P Q (wD a ds) w)/\(q->y.wpIn G n P Q (wD a ds) w)):(Code.cond c x y).wpIn G n P Q (wD a ds) w:=by
 obtain⟨b,rfl,g,e⟩:=zv.ex
 exact cIf F zc (λd=>h.1 (g d)) (λd=>h.2 (e d))
theorem zbRet(F:Has N a env)(zres:fn.results=#[.tmp t])(zv:lk env t=some v)(h:R (.returned v) w):XbE (bodyPost P fn R) .ret (wD a []) w:=bRet zres F zv h
end Md
def Res.obj(b:Nat)(o:Obj):Res:=⟨(· = b),λw=>w.heap[b]?=some o,λ_ _ h c=>(h b rfl).trans c⟩
section
variable{w0 w:World}{row:Option Nat}{rs qs:List Res}
theorem Own.perm(H:Own w0 row w rs)(o:rs.Perm qs):Own w0 row w qs:=by
 have m:rs.Pairwise (λr s=>(∀b,r.foot b->¬s.foot b)/\∀b,s.foot b->¬r.foot b):=Ao.2 λi j g c n=>
  ⟨H.apart i j _ _ (AA g) (AA c) O,H.apart j i _ _ (AA c) (AA g) O⟩
 have e:=(o.pairwise_iff (λ{x y} h=>⟨h.2,h.1⟩)).1 m
 have d:∀(i:Nat)(r:Res),qs[i]?=some r->∃j,rs[j]?=some r:=λi r h=>Af.1 (o.mem_iff.2 (AF h))
 refine⟨H.grown,λi r h=>?_,λi r h=>?_,λi j r s g c n=>?_⟩
 ·obtain⟨j,c⟩:=d i r h;exact H.pred j r c
 ·obtain⟨j,c⟩:=d i r h;exact H.foot j r c
 ·obtain⟨q,t⟩:=AB.1 g
  obtain⟨p,u⟩:=AB.1 c
  subst t u
  rcases AN i j with h|h
  ·exact(Ao.1 e i j q p h).1
  ·exact(Ao.1 e j i p q O).2
theorem Own.newObj(H:Own w0 row w rs)(o:Obj):Own w0 row (w.alloc o) (.obj w.heap.size o::rs):=
 H.add (.obj w.heap.size o) ((Below.refl _ w).alloc (AI _) o) (World.alloc_heap_new w o) (λb c=>by
  have c:b=w.heap.size:=c
  subst c
  exact⟨AI _,by simp⟩)
theorem Own.putO(H:Own w0 .none w rs)(i:Nat){o:Obj}(p:rs[i]?=some (.obj b o))(n:Obj):Own w0 .none (w.putObj b n) (rs.set i (.obj b n)):=by
 have m:=H.foot i _ p b Z
 have r:w0.heap.size<=b:=by
  rcases m.1 with h|h
  ·exact h
  ·cases h
 refine H.turn i p (.obj b n) ⟨H.grown.os,H.grown.tape,H.grown.output,by simpa using H.grown.size,λk q j=>?_⟩ (by simp) (λc d g=>?_) (World.putObj_heap_same m.2) (λc d=>?_)
 ·exact(World.putObj_heap_other O).trans (H.grown.block k q j)
 ·exact World.putObj_heap_other (λe=>g e)
 ·have d:c=b:=d
  subst d
  exact⟨.inl Z,by simpa using m.2⟩
end
variable{α:Type}
def Iter(P:Program)(y:Nat)(r:Array Value)(T:TypeId)(d:α->List Value)(s:α->Prop)(i:List α)(w0:World)(o:List Res):Prop:=
 ∀(n:Nat)(J p:List α->List Res->Prop)(w:World)(ps:List Res),Own w0 none w (ps++o)->J [] ps ->
  (∀(c:List α)(x:α)(b:Nat)(q:World)(m qs:List Res),J c m->c++[x] <+: i->s x->Own w0 none q (.blk b (d x) T::(m++qs)) ->
   YieldAt Fence.wide 0 P n #[.pointer (some ⟨b,0,none⟩)] q λe t=>∃j,Own w0 none t (.blk b (d x) T::(j++qs))/\((e=.returned (.bool true)/\J (c++[x]) j)\/(e=.returned (.bool false)/\p (c++[x]) j))) ->
  CallsIn Fence.wide 0 P y (#[.func (.yield n) #[] #[]]++r) w λe u=>(∃v,e=.returned v)/\∃g,Own w0 none u (g++o)/\(J i g\/∃c,c <+: i/\p c g)
def Xbs(I:List α->List Res->Prop)(e:Code->List α->List Res->Prop)(d:List α)(b:List Res->World->Prop):Exit->Act->World->Prop
 |.normal,_,w=>∃c,I d c/\b c w
 |.ret,_,w=>∃c,e .ret d c/\b c w
 |.exit id,_,w=>∃c,e (.exit id) d c/\b c w
 |.goto t,_,w=>∃c,e (.goto t) d c/\b c w
 |.panic _,_,_=>False
 |.outgrown,_,_=>False
abbrev NG(D:Nat):Deferred:={target:=.collected D,args:=#[]}
theorem rfOwn{g:Operand}{p:Tmp}{assign body:Code}{Q:Exit->Act->World->Prop}{us ts:List Res}{V:Nat}{lb:Array Value}{T:TypeId}{n:α->List Value}{ok:α->Prop}{M:List α}(F:Has N a env)(aH:Nat.blt p N=true)(hg:ev env g=some (.func (.func V) #[] lb))(eg:∀A w,(callFunc V A).run P w=.ok (.enter V A) w)(H:Own w0 none w (us++ts))(aD:Iter P V lb T n ok M w0 ts)(I:List α->List Res->Prop)(Ix:Code->List α->List Res->Prop)(h0:I [] us)(a7:Value->List (Nat×Value))(E:∀(l:Nat)(a1:Act)(W:World)(v:Value)(K:Act->World->Prop),Has N a1 ((p,v)::env)->(∀X,Has N X (a7 v++(p,v)::env)->K (wD X []) W)->assign.wpIn (Fence.wide.inRound l) 0 P (Exit.then K (λ_ _ _=>False)) (wD a1 []) W)(a4:∀(l:Nat)(q:List α)(x:α)(b:Nat)(W:World)(a5 qs:List Res)(X:Act),I q a5->q++[x] <+: M->ok x->Own w0 none W (.blk b (n x) T::(a5++qs))->Has N X (a7 (Vc b 0)++(p,Vc b 0)::env) ->
     body.wpIn (Fence.wide.inRound l) 0 P (Xbs I Ix (q++[x]) (λm w2=>Own w0 none w2 (.blk b (n x) T::(m++qs)))) (wD X []) W)(S:∀(D:Nat)(W:World)(i:List Res),I M i->Own w0 none W (.obj D (.deferred (some []))::(i++ts))->Q .normal (wD a (NG D::ds)) W)(U:∀(D:Nat)(c:Code)(q:List α)(W:World)(i:List Res),q <+: M->Ix c q i->Own w0 none W (.obj D (.deferred (some []))::(i++ts))->c.wpIn Fence.wide 0 P Q (wD a (NG D::ds)) W):
   (Code.rangeFunc g #[p] assign body).wpIn Fence.wide 0 P Q (wD a ds) w:=by
 refine wpIn_rangeFunc ?_
 intro fn aF
 obtain⟨D,hD⟩:∃D,D=w.heap.size:=⟨_,Z⟩
 obtain⟨rec,r⟩:∃rec:LoopState->Option Code->Loop,rec=λst pe=>{state:=st,pending:=pe,fn,tmps:=a.tmps,params:=#[p],assign,body,defers:=D}:=⟨_,Z⟩
 have HD:Own w0 none (w.alloc (.deferred (some []))) (.obj D (.deferred (some []))::(us++ts)):=by rw[hD];exact H.newObj _
 have HL:Own w0 none ((w.alloc (.deferred (some []))).alloc (.loop (rec .ready none))) (.obj (D+1) (.loop (rec .ready none)):: .obj D (.deferred (some []))::(us++ts)):=by
   have:=HD.newObj (.loop (rec .ready none))
   rw[World.size_alloc,<-hD]at this
   exact this
 obtain⟨W1,a6⟩:∃W1,(w.alloc (.deferred (some []))).alloc (.loop (rec .ready none))=W1:=⟨_,Z⟩
 rw[a6]at HL
 refine⟨D+1,[NG D],W1,{target:=.fn (.func V) lb,args:=#[.func (.yield (D+1)) #[] #[]]},W1,V,#[.func (.yield (D+1)) #[] #[]]++lb,W1,?_,?_,λ_ _=>trivial,?_,λh=>(by cases h),?_⟩
 ·rw[<-a6,r,hD];exact run_enterLoop_outer _ _ _ _ _
 ·have aB:(wD a ds).eval g=.func (.func V) #[] lb:=by rw[Jk];exact F.eval hg
  simp only[resolve,aB]
  simp[go_sem]
 ·simp[invoke,go_sem,eg]
 ·refine(aD (D+1)
    (λq ps=>∃i,ps=.obj (D+1) (.loop (rec .ready none)):: .obj D (.deferred (some []))::i/\I q i)
    (λq ps=>∃c i,ps=.obj (D+1) (.loop (rec .done (some c))):: .obj D (.deferred (some []))::i/\Ix c q i)
    W1 (.obj (D+1) (.loop (rec .ready none)):: .obj D (.deferred (some []))::us) HL ⟨us,Z,h0⟩ ?_).mono ?_
  ·rintro q x b w1 _ qs ⟨aA,rfl,hi⟩ aC aG H1
   have hl:w1.heap[D+1]?=some (.loop (rec .ready none)):=H1.pred 1 _ Z
   have hy:=run_yield (P:=P) (args:=#[Vc b 0]) hl (by rw[r];rfl)
   rw[r]at hy
   replace hy:(Instr.yield (D+1) #[Vc b 0]).run P w1=.ok (.round (D+1) fn (a.tmps.setIfInBounds p (Vc b 0)) assign body) w1:=by simpa using hy
   have F1:Has N ({tmps:=a.tmps.setIfInBounds p (Vc b 0),defers:=[]}:Act) ((p,Vc b 0)::env):=by
     have:=F.put (d:=p) (v:=Vc b 0) aH
     have e:a.put (some p) (Vc b 0)=({tmps:=a.tmps.setIfInBounds p (Vc b 0),defers:=[]}:Act):=by
       simp only[Act.put,F.nod]
     rw[e]at this
     exact this
   have a8:=E (D+1) _ w1 (Vc b 0) (λa₁ w₁=>∃w₂,(Instr.beginRound (D+1)).run P w₁=.ok () w₂/\body.wpIn (Fence.wide.inRound (D+1)) 0 P (roundPost P (D+1) (λe w2=>∃m,Own w0 none w2 (.blk b (n x) T::(m++qs))/\((e=.returned (.bool true)/\∃i,m=.obj (D+1) (.loop (rec .ready none)):: .obj D (.deferred (some []))::i/\I (q++[x]) i)\/(e=.returned (.bool false)/\∃c i,m=.obj (D+1) (.loop (rec .done (some c))):: .obj D (.deferred (some []))::i/\Ix c (q++[x]) i)))) a₁ w₂) F1 (λX F2=>?_)
   ·refine⟨fn,_,assign,body,hy,roundIn_of_wpIn aF ?_⟩
    exact a8
   ·refine⟨_,run_beginRound hl (by rw[r]),?_⟩
    have H2:=H1.putO 1 (b:=D+1) Z (.loop {rec .ready none with state:=.busy})
    have B:∀(o:Obj)(i:List Res),(Res.blk b (n x) T::((.obj (D+1) o:: .obj D (.deferred (some []))::i)++qs)).Perm (.blk b (n x) T::(i++(.obj (D+1) o:: .obj D (.deferred (some []))::qs))):=λo i=>by
      refine List.Perm.cons _ ?_
      have R:(i++(Res.obj (D+1) o::Res.obj D (.deferred (some []))::qs)).Perm (Res.obj (D+1) o::(i++(Res.obj D (.deferred (some []))::qs))):=FS
      have L:(i++(Res.obj D (.deferred (some []))::qs)).Perm (Res.obj D (.deferred (some []))::(i++qs)):=FS
      exact(R.trans (L.cons _)).symm
    refine wpIn_mono (a4 (D+1) q x b _ aA _ X hi aC aG (H2.perm (B _ aA)) F2) ?_
    have G:∀(j:Option Code)(C:World)(J:List Res),Own w0 none C (.blk b (n x) T::(J++(.obj (D+1) (.loop {rec .ready none with state:=.busy}):: .obj D (.deferred (some []))::qs))) ->
        (Instr.endRound (D+1) j).run P C=.ok (.bool j.isNone) (C.putObj (D+1) (.loop (rec (if j.isNone then .ready else .done) j))) /\
        Own w0 none (C.putObj (D+1) (.loop (rec (if j.isNone then .ready else .done) j))) (.blk b (n x) T::((.obj (D+1) (.loop (rec (if j.isNone then .ready else .done) j)):: .obj D (.deferred (some []))::J)++qs)):=λj C J z=>by
      have H4:=z.perm (B _ J).symm
      have aE:C.heap[D+1]?=some (.loop {rec .ready none with state:=.busy}):=H4.pred 1 _ Z
      have s:=run_endRound (P:=P) j aE
      have H5:=H4.putO 1 (b:=D+1) Z (.loop (rec (if j.isNone then .ready else .done) j))
      rw[r]at s H5⊢
      exact⟨s,H5⟩
    rintro e a3 C hp
    cases e with
    |normal=>
     obtain⟨m,y,z⟩:=hp
     obtain⟨R,L⟩:=G none C m z
     exact⟨_,_,R,_,L,.inl ⟨Z,m,Z,y⟩⟩
    |ret=>
     obtain⟨m,y,z⟩:=hp
     obtain⟨R,L⟩:=G (some .ret) C m z
     exact⟨_,_,R,_,L,.inr ⟨Z,_,m,Z,y⟩⟩
    |exit id=>
     obtain⟨m,y,z⟩:=hp
     obtain⟨R,L⟩:=G (some (.exit id)) C m z
     exact⟨_,_,R,_,L,.inr ⟨Z,_,m,Z,y⟩⟩
    |goto t=>
     obtain⟨m,y,z⟩:=hp
     obtain⟨R,L⟩:=G (some (.goto t)) C m z
     exact⟨_,_,R,_,L,.inr ⟨Z,_,m,Z,y⟩⟩
    |panic ch=>exact hp.elim
    |outgrown=>exact hp.elim
  ·rintro e W2 ⟨⟨v,rfl⟩,aI,H',(⟨i,rfl,hi⟩|⟨q,a9,c,i,rfl,hi⟩)⟩
   ·have hl:W2.heap[D+1]?=some (.loop (rec .ready none)):=H'.pred 0 _ Z
    have s:=run_endLoop (P:=P) hl (by rw[r];simp)
    have z:=(H'.putO 0 (b:=D+1) Z (.loop {rec .ready none with state:=.exhausted})).tail
    rw[r]at s z
    exact⟨none,_,s,S D _ i hi z⟩
   ·have hl:W2.heap[D+1]?=some (.loop (rec .done (some c))):=H'.pred 0 _ Z
    have s:=run_endLoop (P:=P) hl (by rw[r];simp)
    have z:=(H'.putO 0 (b:=D+1) Z (.loop {rec .done (some c)with state:=.exhausted})).tail
    rw[r]at s z
    exact⟨some c,_,s,U D c q _ i a9 hi z⟩
def U6(l:List Ins)(dom:List UInt8):Nat->RunP->List RunP
 |0,_=>[]
 |f+1,r=>if U2 l (VY l r)=true then dom.flatMap λv=>U6 l dom f (Ub (QB l (VY l r)) v (VY l r))else[VY l r]
def JH(l:List Ins)(dom:List UInt8):List RunP:=U6 l dom (l.length+1) zRun
theorem Lo{f:Nat}{r:RunP}(h:U2 l (VY l r)=false):U6 l dom (f+1) r=[VY l r]:=by
 rw[U6,if_neg (λe=>Bool.noConfusion (h.symm.trans e))]
theorem Mr{f:Nat}{r:RunP}(h:U2 l (VY l r)=true):U6 l dom (f+1) r=dom.flatMap λv=>U6 l dom f (Ub (QB l (VY l r)) v (VY l r)):=by
 rw[U6,if_pos h]
theorem Xao{α:Type}{g:UInt8->List α}{j:Nat}{v:UInt8}(h:dom[j]?=some v):(dom.take (j+1)).flatMap g=(dom.take j).flatMap g++g v:=by
 rw[At,h,Fl];simp
theorem XnM{α:Type}{g:UInt8->List α}{j:Nat}{v:UInt8}(h:dom[j]?=some v){q:List α}(c:q <+: g v):(dom.take j).flatMap g++q <+: dom.flatMap g:=by
 obtain⟨t,b⟩:=c
 have e:dom.flatMap g=(dom.take (j+1)).flatMap g++(dom.drop (j+1)).flatMap g:=by rw[<-Fl,FL]
 rw[e,Xao (g:=g) h,<-b]
 exact⟨t++(dom.drop (j+1)).flatMap g,by simp⟩
theorem Xgk(r:RunP):r.pc<=(VY l r).pc:=N0 (M:=λb=>r.pc<=b.pc) (λb x h c _=>AW h (by have:=JG x 0 b;omega)) _ r (AI r.pc)
theorem Own.suf{b:List Res}(H:Own w0 row w (ps++b)):Own w0 row w b:=by
 induction ps with
 |nil=>exact H
 |cons r ps c=>exact c H.tail
theorem Ju:∀{cs b:List Value},cs.length=b.length->VZ cs 0 b=b:=λ{cs b} h=>by
 refine Ar λi=>?_
 rw[Gz _ _ _ _ O]
 rcases AN i b.length with h1|h1
 ·rw[if_pos O,Iw]
 ·rw[if_neg O,AV O,AV h1]
theorem XpE{c b:List Value}(k:Nat)(e:c.length=k)(d:b.length=k):VZ c 0 (List.take k (List.drop 0 b))=b:=by
 rw[List.drop_zero,FD O]
 exact Ju (e.trans d.symm)
theorem Own.inTail{x y:Res}{qs:List Res}(H:Own w0 row w (x::y::(ps++qs))):Own w0 row w (x::(ps++(y::qs))):=H.perm (List.Perm.cons _ FS.symm)
theorem Own.outTail{x y:Res}{qs:List Res}(H:Own w0 row w (x::(ps++(y::qs)))):Own w0 row w (x::y::(ps++qs)):=H.perm (List.Perm.cons _ FS)
namespace Md
theorem spread_any(l:List Ins)(dom:List UInt8)(E:Ua 6 l=true)(A:Option Addr)(C:Nat)(DA:Option Addr)(DC:Nat)(w0:World)(hA:RowsAt w0 A 10 (l.map Ins.cells))(aD:dom.length<=1000000)(lp:Nat)(J W:List RunP->List Res->Prop)(P:List RunP)(hY:∀(d:List RunP)(x:RunP)(b:Nat)(B:World)(S qs:List Res),J d S->d++[x] <+: P->InvR l x->Own w0 none B (.blk b x.cells 212::(S++qs)) ->
  YieldAt Fence.wide 0 prog lp #[Vc b 0] B λe w2=>∃o,Own w0 none w2 (.blk b x.cells 212::(o++qs))/\((e=.returned (.bool true)/\J (d++[x]) o)\/(e=.returned (.bool false)/\W (d++[x]) o))):
 ∀(f:Nat)(r:RunP)(d:List RunP)(b:Nat)(ps qs:List Res)(B:World),l.length-r.pc<f->InvR l r->d++U6 l dom f r <+: P->J d ps->(∀w,Own w0 none w qs->BytesAt w DA dom)->Own w0 none B (.blk b r.cells 212::(ps++qs)) ->
  Calls prog 168 #[Vc b 0,.slice A l.length C,.slice DA dom.length DC,.func (.yield lp) #[] #[]] B λe w'=>∃(c:Bool)(r':RunP)(i:List Res),e=.returned (.bool c)/\Own w0 none w' (.blk b r'.cells 212::(i++qs))/\((c=true/\J (d++U6 l dom f r) i)\/(c=false/\∃q,q <+: U6 l dom f r/\W (d++q) i)):=by
 intro f
 induction f with
 |zero=>intro r d b ps qs B h;omega
 |succ f ih=>
  intro r d b ps qs B hf X n hJ u H
  refine VU func168 Z ntmps168 Z (λa F=>?_);refine Xp4 F ?_
  refine gg 9 λa F=>?_
  refine Xi call219 F Z (Xdq b A C l r _ (H.blk 0 Z) (Qy H 0 Z hA Xph) E X) ?_;rintro e w ⟨rfl,s⟩
  replace H:=H.turned 0 Z s
  clear s
  have D:=Xdp E X
  have a9:=NW E
  have a8:=Xgk (l:=l) r
  refine zq λa F=>?_
  refine gg 3 λa F=>zi (λy=>?_) λy=>?_
  ·
   have K:U2 l (VY l r)=false:=y
   refine gg 1 λa F=>?_
   rw[Lo K]at n;refine wpIn_region_lit ?_;refine iV F Z Z Z (λc h=>by cases h) (rMv F Z) λa F=>?_;refine iV F Z Z Z (λc h=>by cases h) (rMv F Z) λa F=>?_;refine iY F Z Z Z Z (hY d (VY l r) b _ ps qs hJ n D H) ?_;rintro e w ⟨o,s,hc⟩
   obtain⟨M,rfl,a1⟩:∃M:Bool,e=.returned (.bool M)/\((M=true/\J (d++[VY l r]) o)\/(M=false/\W (d++[VY l r]) o)):=by
    rcases hc with⟨t,p⟩|⟨t,p⟩
    ·exact⟨_,t,.inl ⟨Z,p⟩⟩
    ·exact⟨_,t,.inr ⟨Z,p⟩⟩
   refine zq λa F=>?_
   refine iV F Z Z Z (λc h=>by cases h) (rAs F Z) λa F=>?_;refine iNil ?_
   refine gg 2 λa F=>?_
   (refine⟨M,_,_,Z,s,?_⟩
    rw[Lo K]
    rcases a1 with⟨t,p⟩|⟨t,p⟩
    ·exact .inl ⟨t,p⟩
    ·exact .inr ⟨t,_,ID _,p⟩)
  have K:U2 l (VY l r)=true:=y
  refine gg 9 λa F=>?_
  refine cLoopS [0,1,2,3,19,20] (λm V w=>∃(j:Nat)(i:List Res),m=dom.length-j/\V=[(21,Ve ((j:Nat):Int))]/\J (d++(dom.take j).flatMap λv=>U6 l dom f (Ub (QB l (VY l r)) v (VY l r))) i/\Own w0 none w (.blk b (VY l r).cells 212::(i++qs))) F (dom.length) [(21,Ve ((0:Nat):Int))] ?_ ?_
  ·exact⟨0,ps,Z,Z,by simpa using hJ,H⟩
  clear F H;intro m V a w X F
  obtain⟨j,i,rfl,rfl,G,H⟩:=X
  refine gg 6 λa F=>zi (λa5=>?_) λa5=>?_
  ·
   have a3:j<dom.length:=O
   obtain⟨v,L⟩:∃v,dom[j]?=some v:=⟨_,AA a3⟩
   obtain⟨bD,oD,rfl,I⟩:=(u _ H.tail.suf).get L
   obtain⟨T,aC⟩:=Xa5 K
   have a4:=(AB.1 T).1
   obtain⟨bA,oA,rfl,aB⟩:=hA _ (QB l (VY l r)).cells (by rw[AD,T];rfl)
   refine gg 6 λa F=>?_
   refine sLd isAgg5 F Z Z Z I λa F=>?_
   refine gg 6 λa F=>?_
   refine zLr F (H.range 0 Z _ 259) λa F=>?_
   refine zAl zeroValue212 H F λR a w F H=>?_
   refine sSr H 0 ?si F Z Z Z ?s1 Z Z ?_
   case si=>exact VT sizeOf212
   case s1=>rfl
   clear H;intro w H;rw[XpE 259 Z (RunP.len _)]at H
   refine gg 5 λa F=>?_
   refine zLd F (show _=some (Ve ((VY l r).pc:Int))from H.cell 0 Z (G0 _)) λa F=>?_
   refine gg 3 λa F=>?_
   refine Xi call220 F Z (DO R (VY l r) (QB l (VY l r)) v _ (H.blk 0 Z) (BL E T).inr (D.ok E a4) (BL E T).op) ?_;rintro e w ⟨rfl,s⟩
   replace H:=H.turned 0 Z s
   clear s
   have aA:=JG (QB l (VY l r)) v (VY l r)
   have a2:=EO v D E T
   refine zq λa F=>?_
   refine gg 6 λa F=>?_
   refine Xi call168 F Z (ih (Ub (QB l (VY l r)) v (VY l r)) (d++(dom.take j).flatMap λv=>U6 l dom f (Ub (QB l (VY l r)) v (VY l r))) R i (.blk b (VY l r).cells 212::qs) _ O a2 ((by
    rw[Mr K]at n;rw[AO,<-Xao L]
    refine List.IsPrefix.trans ?_ n
    have:=XnM (g:=λv=>U6 l dom f (Ub (QB l (VY l r)) v (VY l r))) L (ID _)
    rw[<-Xao L]at this
    exact(Io d).2 this)) G (λw h=>u w h.tail) H.inTail) ?_
   rintro e w ⟨M,r9,z,rfl,s,Q⟩
   replace H:=s.outTail.tail
   clear s
   refine zq λa F=>?_
   refine gg 3 λa F=>zi (λa6=>?_) λa6=>?_
   ·
    refine gg 6 λa F=>?_
    (refine⟨false,_,_,Z,H,.inr ⟨Z,?_⟩⟩
     obtain⟨q,hq,N⟩:∃q,q <+: U6 l dom f (Ub (QB l (VY l r)) v (VY l r))/\W ((d++(dom.take j).flatMap λv=>U6 l dom f (Ub (QB l (VY l r)) v (VY l r)))++q) z:=by
      rcases Q with⟨t,_⟩|⟨_,p⟩
      ·simp_all
      ·exact p
     rw[Mr K];rw[AO]at N
     exact⟨_,XnM (g:=λv=>U6 l dom f (Ub (QB l (VY l r)) v (VY l r))) L hq,N⟩)
   refine gg 5 λa F=>?_
   have U:J ((d++(dom.take j).flatMap λv=>U6 l dom f (Ub (QB l (VY l r)) v (VY l r)))++U6 l dom f (Ub (QB l (VY l r)) v (VY l r))) z:=by
    rcases Q with⟨_,p⟩|⟨t,_⟩
    ·exact p
    ·simp_all
   rw[AO,<-Xao L]at U
   exact⟨_,O,_,⟨j+1,z,Z,Z,U,H⟩,F.toD (by repeat(first|exact trivial|refine Le.cons rfl ?_))⟩
  refine gg 7 λa F=>?_
  (obtain a7:dom.length<=j:=O
   rw[FD a7]at G
   exact⟨true,_,_,Z,H,.inl ⟨Z,by rw[Mr K];exact G⟩⟩)
end Md
theorem Ec{f:FuncId}{b:List Value}(g:P.funcs[f]?=some fn)(hb:fn.body=some c)(i:fn.ntmps=N)(d:Nat.ble b.length N=true)(h:∀a,Has N a (NP b 0)->c.wpIn Fence.wide 0 P (XbE (bodyPostM Fence.wide 0 P fn R)) (wD a []) w):Calls P f b.toArray w R:=by
 subst i
 refine callsIn_wide.1 (callsIn_of_wp_marks (n:=0) g hb trivial ?_ Z)
 refine wpIn_mono (h _ (Has.start d)) (λe a w h=>?_)
 cases e<;>first|exact h|exact h.elim
section
variable{P:Program}{N:Nat}{a:Act}{env:List (Nat×Value)}{w w0:World}{rs:List Res}{fn:Func}{R:Ending->World->Prop}{ds:List Deferred}
theorem XcN(h:LeavesInM Fence.wide 0 P fn a.tmps R ds .returning w):XbE (bodyPostM Fence.wide 0 P fn R) .ret (wD a ds) w:=h
theorem endM(h:LeavesInM Fence.wide 0 P fn a.tmps R ds .returning w):XbE (bodyPostM Fence.wide 0 P fn R) .normal (wD a ds) w:=h
theorem LD{D:Nat}{b:Array Value}(H:Own w0 none w rs)(i:Nat)(c:rs[i]?=some (.obj D (.deferred (some []))))(K:∀w,Own w0 none w (rs.set i (.obj D (.deferred none)))->LeavesInM Fence.wide 0 P fn b R ds .returning w):LeavesInM Fence.wide 0 P fn b R (NG D::ds) .returning w:=
 ⟨by simp,.inl ⟨D,_,Z,run_takeDeferred (H.pred i _ c),K _ (H.putO i c _)⟩⟩
theorem Xcw{c:TypeId}{g:TypeId}(H:Own w0 none w rs)(e:∀w,(isAgg c).run P w=.ok false w)(d:rs[i]?=some (.blk b [v] g)):(loadVar c ⟨b,0,none⟩).run P w=.ok v w:=by
 have h:=H.cell i (j:=0) d Z
 simp[loadVar,Sem.run_bind,e,h,go_sem]
theorem Mz{u:Tmp}{n m:TypeId}{c:Nat}{x y:Value}{z q:TypeId}(d:fn.results=#[.cell t n,.cell u m])(F:Has N a env)(s:lk env t=some (Vc b 0))(A:lk env u=some (Vc c 0))(e:∀w,(isAgg n).run P w=.ok false w)(g:∀w,(isAgg m).run P w=.ok false w)(H:Own w0 none w rs)(i j:Nat)(p:rs[i]?=some (.blk b [x] z))(o:rs[j]?=some (.blk c [y] q))(h:R (.returned (.tuple #[x,y])) w):LeavesInM Fence.wide 0 P fn a.tmps R [] .returning w:=by
 refine⟨.tuple #[x,y],?_,h⟩
 have v:=Xcw (P:=P) H e p
 have r:=Xcw (P:=P) H g o
 unfold results
 rw[d,IY]
 simp[v,r,DB (F.get t _ s),DB (F.get u _ A),D6,Sem.run_bind]
theorem Xbt{α:Type}{I:List α->List Res->Prop}{e:Code->List α->List Res->Prop}{d:List α}{b:List Res->World->Prop}(c:List Res)(h:I d c)(g:b c w):Xbs I e d b .normal a w:=⟨c,h,g⟩
theorem Xq7{α:Type}{I:List α->List Res->Prop}{d:Code->List α->List Res->Prop}{e:List α}{b:List Res->World->Prop}(c:List Res)(h:d .ret e c)(g:b c w):Xbs I d e b .ret a w:=⟨c,h,g⟩
end
theorem Xax(A:Option Addr)(n C:Nat)(i:Option Addr)(d g:Nat)(w0:World):
 Calls prog 110 #[.slice A n C,.slice i d g] w0 λe j=>∃b c,e=.returned (.func (.func 167) #[] #[Vc b 0,Vc c 0])/\Own w0 none j [.blk c [.slice i d g] 23,.blk b [.slice A n C] 33]:=by
 refine Vb func110 ntmps110 λH a F=>?_
 refine gg 2 λa F=>?_
 refine zBx H F λb a w F H=>?_
 refine zBx H F λc a w F H=>?_
 refine gg 9 λa F=>?_
 exact⟨_,_,Z,H⟩
theorem DS(l:List Ins)(dom:List UInt8)(D:Ua 6 l=true)(A:Option Addr)(C:Nat)(i:Option Addr)(r:Nat)(w0:World)(B:RowsAt w0 A 10 (l.map Ins.cells))(n:dom.length<=1000000)(c:List Res)(g m:Nat)(v:∀w,Own w0 none w c->w.cell? ⟨g,0,none⟩=some (.slice A l.length C))(s:∀w,Own w0 none w c->w.cell? ⟨m,0,none⟩=some (.slice i dom.length r))(b:∀w,Own w0 none w c->BytesAt w i dom):
 Iter prog 167 #[Vc g 0,Vc m 0] 212 RunP.cells (InvR l) (JH l dom) w0 c:=by
 intro p J G y ps H t E
 refine callsIn_wide.2 ?_
 show Calls prog 167 #[.func (.yield p) #[] #[],Vc g 0,Vc m 0] y _
 refine VU func167 Z ntmps167 Z (λa F=>?_)
 refine gg 2 λa F=>?_
 refine zAl zeroValue212 H F λu a w F H=>?_
 refine gg 2 λa F=>?_
 refine zLd F (v _ H.tail.suf) λa F=>?_
 refine zLd F (s _ H.tail.suf) λa F=>?_
 refine gg 1 λa F=>?_
 refine Xi call168 F Z (Md.spread_any l dom D A C i r w0 B n p J G (JH l dom) E (l.length+1) zRun [] u ps c _ (by have:zRun.pc=0:=rfl;omega) (Xfj l) (ID _) t b H) ?_;rintro e w ⟨I,K,d,rfl,o,j⟩
 replace H:=o.tail
 clear o
 refine zq λa F=>?_
 refine gg 1 λa F=>?_
 refine bEnd results167 F ?_
 refine⟨⟨_,Z⟩,d,H,?_⟩
 rcases j with⟨_,h⟩|⟨_,q,z,h⟩
 ·exact .inl h
 ·exact .inr ⟨q,z,h⟩
end Go.Proofs.YtajfpcgbnflceaaGreatDoor
