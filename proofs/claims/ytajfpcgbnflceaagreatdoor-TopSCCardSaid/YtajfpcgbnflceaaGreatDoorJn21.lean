/- Package verdict: the order of outcomes, and what it calls. Conditions: the lists are as long as each other. -/
import Derived.Sort.Grow
import Derived.Test.YtajfpcgbnflceaaGreatDoorJn19
import Derived.Shelf.GgSortFunc.InsertionK
import Derived.Shelf.SlSortCmp.WholeK
set_option linter.unusedSimpArgs false
set_option linter.unusedVariables false
namespace Go.Proofs.YtajfpcgbnflceaaGreatDoor
open Go.Proofs.Tryz
open Go.RowKit
set_option maxRecDepth 100000
set_option maxHeartbeats 1000000
variable{A:Option Addr}{b c gb j k n o sz:Nat}{e t:TypeId}{l:List By}{row:Option Nat}{rows:List (List Value)}{rs:List Res}{u:By}{w w' w0:World}{x:Operand}
def c8(x y:UInt8):Int:=if x<y then -1 else if y<x then 1 else 0
theorem XnI(x:UInt8)(w:World):Calls prog 200 #[b8 x] w λe w'=>e=.returned (.bool false)/\w'=w:=by
 unfold YtajfpcgbnflceaaGreatDoor.b8
 go_enter func200,ntmps200
 go_wp2
 go_ret
 exact⟨by simp,Z⟩
theorem XmU(x y:UInt8)(w:World):Calls prog 150 #[b8 x,b8 y] w λe w'=>e=.returned (Ve (c8 x y))/\w'=w:=by
 have b:=XnI x
 have c:=XnI y
 unfold YtajfpcgbnflceaaGreatDoor.b8 at *
 go_enter func150,ntmps150
 go_wp2_with (go_at_call 200;first|(refine(b _).mono ?_;rintro e w' ⟨rfl,rfl⟩)|(refine(c _).mono ?_;rintro e w' ⟨rfl,rfl⟩))
 all_goals(go_ret;refine⟨?_,Z⟩;unfold c8;simp only[Aa];(repeat' split)<;>first|rfl|(exfalso;omega))
theorem Xl6{c b:List UInt8}{i:Nat}{x y:UInt8}(n:c[i]?=some x)(g:b[i]?=some y):GO (c.drop i) (b.drop i)=if c8 x y=0 then GO (c.drop (i+1)) (b.drop (i+1))else c8 x y:=by
 obtain⟨m,rfl⟩:=AB.1 n
 obtain⟨j,rfl⟩:=AB.1 g
 rw[FA m,FA j,GO]
 unfold c8
 by_cases e:c[i]<b[i]
 ·rw[if_pos e,if_pos e,if_neg (by decide)]
 ·rw[if_neg e,if_neg e]
  by_cases d:b[i]<c[i]
  ·rw[if_pos d,if_pos d,if_neg (by decide)]
  ·rw[if_neg d,if_neg d,if_pos Z]
theorem XfG(s z R A u M n:Nat)(d g:List UInt8)(w:World)(E:d.length=n)(J:g.length=n)(U:n<=1000)(t:w.rangeAt s z (d.map b8))(o:w.rangeAt A u (g.map b8)):
 Calls prog 87 #[Vd s z n R,Vd A u n M] w λe w'=>e=.returned (Ve (GO d g))/\w'=w:=by
 go_enter func87,ntmps87
 go_wp2
 go_loopg [11] n (λm v wr=>∃i:Nat,Hid (m=n-i)/\v=Ve i/\i<=n/\wr=w/\Hid (GO d g=GO (d.drop i) (g.drop i)))
 case atStart=>exact⟨0,Lib.hid Z,Z,AU _,Z,Lib.hid Z⟩
 case round=>
  obtain⟨i,S,rfl,T,rfl,q⟩:=hrel
  by_cases L:i<n
  ·obtain⟨x,r⟩:∃x,d[i]?=some x:=⟨_,AA O⟩
   obtain⟨y,B⟩:∃x,g[i]?=some x:=⟨_,AA O⟩
   have I:=t i (b8 x) (by rw[AD,r];rfl)
   have C:=o i (b8 y) (by rw[AD,B];rfl)
   have Q:wr.cell? ⟨s,z+i*1,none⟩=some (b8 x):=by rw[FZ];exact I
   have K:wr.cell? ⟨A,u+i*1,none⟩=some (b8 y):=by rw[FZ];exact C
   have p:=Xl6 r B
   have b:=XmU x y
   unfold YtajfpcgbnflceaaGreatDoor.b8 at I C Q K b
   generalize c8 x y=c at p b
   have j:=Lib.hid p
   clear p t o r B E J
   by_cases G:c=0
   ·subst G
    go_wp2_with (go_at_call 150;refine(b _).mono ?_;rintro e w' ⟨rfl,rfl⟩)
    go_roundg (n-(i+1))
    case measure=>rw[S.out];omega
    case rel=>exact⟨i+1,Lib.hid Z,by simp,O,Z,Lib.hid (q.out.trans (by rw[j.out];simp))⟩
   ·have P:=Lib.hid G
    go_wp2_with (go_at_call 150;refine(b _).mono ?_;rintro e w' ⟨rfl,rfl⟩)
    go_returns
    exact⟨Gw (by rw[q.out,j.out,if_neg P.out]),Z⟩
  ·have D:GO (d.drop i) (g.drop i)=0:=by rw[Fh O,Fh O];rfl
   have N:=Lib.hid D
   clear D t o E J
   go_wp2
   go_returns
   exact⟨Gw (by rw[q.out,N.out]),Z⟩
def XfE(o n:Nat)(f:By):List UInt8:=((toL 38 f).drop o).take n
theorem Ma(f:By)(h:o+n<=38):(XfE o n f).length=n:=by
 unfold XfE
 rw[Aj,Fm,Xc1];omega
theorem M1{f:By}(h:w.rangeAt b 0 (bs 38 f))(e:o+n<=38):w.rangeAt b o ((XfE o n f).map b8):=λj v c=>by
 have d:=(AB.1 c).1
 rw[AH,Ma f e]at d
 have:=h (o+j) v (by
  rw[AD]at c
  unfold XfE at c
  rw[F7 d,Fi,Xnj O]at c;rw[QK];rw[AD,AD,Av O]
  exact c)
 rwa [As]at this
theorem Xjp{f g:By}(h:o+n<=38):GO ((toL 38 f).drop o) ((toL 38 g).drop o)=if GO (XfE o n f) (XfE o n g)=0 then GO ((toL 38 f).drop (o+n)) ((toL 38 g).drop (o+n))else GO (XfE o n f) (XfE o n g):=by
 have e:∀f:By,(toL 38 f).drop o=XfE o n f++(toL 38 f).drop (o+n):=λf=>by
  unfold XfE
  rw[<-Hw,FL]
 rw[e f,e g,B6 _ _ (by rw[Ma f h,Ma g h])]
theorem Dz{wr:World}(n:Nat)(h:∃q b,wr=Go.Sort.grow (w.drewN q) b):∃q b,wr.drewN n=Go.Sort.grow (w.drewN q) b:=by
 obtain⟨q,b,rfl⟩:=h
 exact⟨q+n,b,by rw[<-World.drewN_drewN];rfl⟩
theorem Xl7(f g:By):GO ((toL 38 f).drop (32+6)) ((toL 38 g).drop (32+6))=0:=by
 rw[Fh (by rw[Xc1];omega),Fh (by rw[Xc1];omega)];rfl
theorem XiT(x y:By)(w:World):
 Calls prog 42 #[.agg (bs 38 x).toArray,.agg (bs 38 y).toArray] w λe w'=>e=.returned (Ve (GO (toL 38 x) (toL 38 y)))/\∃q s,w'=Go.Sort.grow (w.drewN q) s:=by
 go_enter func42,ntmps42
 go_wp2
 go_loopg [7] 4 (λm v wr=>∃i:Nat,Hid (m=4-i)/\v=Ve i/\i<=4/\Hid (Blk wr w.heap.size (bs 38 x) 63/\Blk wr (w.heap.size+1) (bs 38 y) 63/\∃q s,wr=Go.Sort.grow (w.drewN q) s)/\Hid (GO (toL 38 x) (toL 38 y)=GO ((toL 38 x).drop (i*8)) ((toL 38 y).drop (i*8))))
 case atStart=>
  refine⟨0,Lib.hid Z,Z,O,Lib.hid ⟨(Blk.new _ _ _).alloc _,Blk.newAt (by simp),0,#[.cells (bs 38 x).toArray 63,.cells (bs 38 y).toArray 63],?_⟩,Lib.hid (by simp)⟩
  rw[Go.Sort.alloc_eq_grow,Go.Sort.alloc_eq_grow,Go.Sort.grow_grow]
  rfl
 case round=>
  obtain⟨i,C,rfl,D,p,u⟩:=hrel
  have r:=p.out.1
  have t:=p.out.2.1
  by_cases A:i<4
  ·have g:i*8+8<=38:=O
   have b:=λq=>XfG w.heap.size (i*8) 8 (w.heap.size+1) (i*8) 8 8 _ _ (wr.drewN q) (Ma x g) (Ma y g) O (M1 (r.range 0 38) g) (M1 (t.range 0 38) g)
   have j:=Xjp (f:=x) (g:=y) g
   generalize GO (XfE (i*8) 8 x) (XfE (i*8) 8 y)=c at j b
   have d:=Lib.hid j
   clear j
   by_cases z:c=0
   ·subst z
    go_wp2
    go_quiet ((go_at_call 87;exact Calls.quiet_of_same (b _)))
    go_wp2
    go_roundg (4-(i+1))
    case measure=>rw[C.out];omega
    case rel=>exact⟨i+1,Lib.hid Z,by simp,O,Lib.hid ⟨r,t,Dz _ p.out.2.2⟩,Lib.hid (u.out.trans (by rw[d.out];simp[FB]))⟩
   ·have B:=Lib.hid z
    go_wp2
    go_quiet ((go_at_call 87;exact Calls.quiet_of_same (b _)))
    go_wp2
    go_returns
    exact⟨Gw (by rw[u.out,d.out,if_neg B.out]),Dz _ p.out.2.2⟩
  ·obtain rfl:i=4:=O
   have b:=λq=>XfG w.heap.size 32 6 (w.heap.size+1) 32 6 6 _ _ (wr.drewN q) (Ma x O) (Ma y O) O (M1 (r.range 0 38) O) (M1 (t.range 0 38) O)
   have j:=Xjp (f:=x) (g:=y) (o:=32) (n:=6) O
   generalize GO (XfE 32 6 x) (XfE 32 6 y)=c at j b
   have d:=Lib.hid j
   clear j
   go_wp2
   go_quiet ((go_at_call 87;exact Calls.quiet_of_same (b _)))
   go_wp2
   go_returns
   exact⟨Gw (by rw[u.out];refine Eq.trans ?_ d.out.symm;rw[Xl7];split<;>simp_all),Dz _ p.out.2.2⟩
open Go.RowKit Go.Sort
theorem DF{sz:Nat}:∀(rows:List (List Value)),(∀r∈rows,r.length=sz)->∀(j:Nat)(c:List Value),rows[j]?=some c->∀(k:Nat)(v:Value),c[k]?=some v->rows.flatten[j*sz+k]?=some v
 | [],_,j,c,b,_,_,_=>by simp at b
 |r0::rest,e,j,c,b,k,v,d=>by
  have g:r0.length=sz:=e r0 (by simp)
  cases j with
  |zero=>
   simp at b;subst b
   have:k<r0.length:=(AB.1 d).1
   rw[FO,AP O];simpa using d
  |succ j=>
   rw[FO,AQ (by rw[g,FB];omega),g]
   have m:(j+1)*sz+k-sz=j*sz+k:=by rw[FB];omega
   rw[m]
   exact DF rest (λr i=>e r (by simp[i])) j c (by simpa using b) k v d
theorem MP{sz:Nat}:∀(rows:List (List Value)),(∀r∈rows,r.length=sz)->rows.flatten.length=rows.length*sz
 | [],_=>by simp
 |r0::rest,b=>by rw[FO,AK,MP rest (λr c=>b r (by simp[c])),b r0 (by simp),AY,FB];omega
variable{α:Type}[Inhabited α]
theorem Cc{b:α->List Value}(i:∀x,(b x).length=k)(d:Array α):(flatK b k d).toList=(d.toList.map b).flatten:=by
 have m:∀r∈d.toList.map b,r.length=k:=λr g=>by
   obtain⟨x,_,rfl⟩:=AT.1 g
   exact i x
 have p:(d.toList.map b).flatten.length=d.size*k:=by rw[MP _ m];simp
 apply Ar
 intro t
 by_cases c:t<d.size*k
 ·have o:0<k:=by
    rcases Aw k with h|h
    ·subst h;simp at c
    ·exact h
  have j:t/k<d.size:=Nat.div_lt_of_lt_mul (by rw[IH];exact c)
  have g:t%k<(b d[t/k]!).length:=by rw[i];exact IW _ o
  have e:=DF (d.toList.map b) m (t/k) (b d[t/k]!) (by
    rw[AD,F8,FX j,getElem!_pos d _ j];rfl) (t%k) ((b d[t/k]!)[t%k]!) (by rw[AA g,getElem!_pos (b d[t/k]!) _ g])
  have n:t/k*k+t%k=t:=by rw[IH];exact Nat.div_add_mod t k
  rw[n]at e;rw[e]
  have:=get_flatK b k d t c
  rw[<-this,F8,FX (by simpa using c),getElem!_pos _ _ (by simpa using c)]
 ·rw[AV (by simp;omega),AV O]
theorem Xpj{enc:α->List Value}(s:∀x,(enc x).length=k){d:Array α}(h:w.ownsRow 0 e k (Vd b 0 d.size c) d.size (d.toList.map enc).flatten):HoldsK enc k w b 0 d:=by
 obtain⟨_,⟨n,_⟩|⟨g,t,i,n,_,r,v,_,u,p⟩⟩:=h
 ·cases n
 ·simp only[Value.slice.injEq,FE,Addr.mk.injEq]at n
  obtain⟨⟨rfl,_⟩,_,rfl⟩:=n
  intro j o
  have m:j<(flatK enc k d).size:=o
  rw[size_flatK]at o
  have q:Blk w b i.toList e:=by unfold Blk;simpa using r
  refine⟨?_,by rw[As];exact q.frozen j⟩
  rw[As];refine q.cell j ?_;rw[<-Cc s]at p
  have:(i.toList.take (d.size*k))[j]?=some ((flatK enc k d)[j]!):=by
   rw[p,F8,FX m,getElem!_pos (flatK enc k d) j m]
  rwa [F7 o]at this
theorem CR(F c:Array Value)(h:F.size<=c.size):(putCells id 0 F c).toList.take F.size=F.toList:=by
 apply Ar
 intro j
 by_cases b:j<F.size
 ·rw[F7 b,F8,F8]
  unfold putCells
  rw[Array.getElem?_mapIdx,FX (show j<c.size by omega),FX b]
  simp[b]
 ·rw[AV (by rw[Aj];omega),AV (by rw[K0];omega)]
theorem BP(c:α->List Value)(k:Nat)(w:World)(b m:Nat)(e:Array α)(d:Array Obj)(j:Nat)(g:j<w.heap.size):(sortWorldK c k w b 0 m e d).heap[j]?=(w.heap.modify b (onCells (putCells id 0 (flatK c k e))))[j]?:=by
 show(w.heap.modify b _++d)[j]?=_
 rw[Array.getElem?_append_left (by simpa using g)]
theorem Xf8(c:α->List Value)(k:Nat)(w:World)(b m:Nat)(g:Array α)(os:Array Obj):w.grownBy (sortWorldK c k w b 0 m g os) (some b) where
 os:=rfl
 tape:=rfl
 output:=rfl
 size:=by
  show _<=(w.heap.modify b _++os).size
  simp
 block:=λj i d=>by
  rw[BP c k w b m g os j i,Array.getElem?_modify,if_neg (λe=>d (by rw[e]))]
theorem putOf{enc:α->List Value}(q:∀x,(enc x).length=k){d d':Array α}(h:w.ownsRow 0 e k (Vd b 0 d.size c) d.size (d.toList.map enc).flatten)(hd:d'.size=d.size)(m:Nat)(s:Array Obj):
 (sortWorldK enc k w b 0 m d' s).ownsRow 0 e k (Vd b 0 d'.size c) d'.size (d'.toList.map enc).flatten:=by
 have t:∀r∈d'.toList.map enc,r.length=k:=λr n=>by
  obtain⟨x,_,rfl⟩:=AT.1 n
  exact q x
 obtain⟨_,⟨i,_⟩|⟨g,v,j,i,_,p,y,n,o,z⟩⟩:=h
 ·cases i
 ·simp only[Value.slice.injEq,FE,Addr.mk.injEq]at i
  obtain⟨⟨rfl,_⟩,_,rfl⟩:=i
  have u:b<w.heap.size:=(FJ.1 p).1
  refine⟨by rw[MP _ t];simp,.inr ⟨b,c,putCells id 0 (flatK enc k d') j,Z,AU _,?_,O,n,by unfold putCells;simpa using o,?_⟩⟩
  ·rw[BP enc k w b m d' s b u,Array.getElem?_modify,if_pos Z,p]
   rfl
  ·rw[<-Cc q,<-size_flatK enc k d']
   refine CR _ _ ?_;rw[size_flatK,o,hd]
   exact Ft k y
theorem Xa7{p q:Nat}{d:List (List Value)}(H:Own w0 row w rs)(i:Nat)(s:rs[i]?=some (.rws e k (Vd b 0 n c) rows))(m:w.grownBy w' (some b))(t:w'.ownsRow 0 e k (Vd b 0 p q) d.length d.flatten):Own w0 row w' (rs.set i (.rws e k (Vd b 0 p q) d)):=by
 have r:=H.foot i _ s b Z
 refine H.turn i s _ ?_ m.size (λj g u=>m.block j g (λe=>u (by cases e;rfl))) t (λj g=>?_)
 ·refine⟨?_,?_,?_,AW H.grown.size m.size,λj g o=>?_⟩
  ·rw[m.os,H.grown.os]
  ·rw[m.tape,H.grown.tape]
  ·rw[m.output,H.grown.output]
  ·rw[m.block j (FC g H.grown.size) (λe=>by
     cases e
     rcases r.1 with h1|h1
     ·omega
     ·exact o h1),H.grown.block j g o]
 ·have:j=b:=by
    have g:Value.ownBlock (Vd b 0 p q)=some j:=g
    simpa[Value.ownBlock]using g.symm
  subst this
  exact⟨.inl Z,FC r.2 m.size⟩
theorem E7{P:Program}(t q ty e:TypeId)(i:TypeInfo)(z:Value)(k:IntKind)(v:P.underlying t=some (.slice e))(u:P.underlying q=some (.int k))(A:∀w,(typeInfo e).run P w=.ok i w)(C:i.zero=some z)(n:Nat)(hs:i.size≠0)(y:0<n)(B:(n:Int)<=9223372036854775807)(s:n*i.bytes<=281474976710656):
 (Builtin.append_ #[t,q] ty #[.slice none 0 0,Ve (n:Int)]).run P w=.ok (Vd w.heap.size 0 n (grownCap w n 0 e)) (w.drew.alloc (.cells (Builtin.zeroCells z.cells n++Builtin.zeroCells z.cells (grownCap w n 0 e-n)) e)):=by
 have p:n≠0:=O
 have b:¬(9223372036854775807<(n:Int)):=O
 have g:¬(281474976710656<Builtin.nextslicecap n 0*i.bytes):=by rw[nextslicecap_zero y];omega
 have d:¬(281474976710656<(n:Int)*(i.bytes:Int)):=by
  have:((n*i.bytes:Nat):Int)<=281474976710656:=O
  rw[Iu]at this;omega
 have r:IntKind.i64.wrap (n:Int)=n:=by simp[IntKind.wrap,IntKind.bits,IntKind.signed];omega
 have j:max (n:Int) 0=n:=O
 have o:¬((n:Int)<=0):=O
 have c:¬((n:Int)<0):=O
 have m:n*i.size≠0:=by
  intro h
  rcases Nat.mul_eq_zero.1 h with h|h
  ·exact p h
  ·exact hs h
 simp[Builtin.append_,run_underlying v,run_underlying u,sizeOf,zeroValue,A,C,Builtin.lenOf,p,b,g,d,r,c,m,hs,Question.forced,run_firstCells_none,newRow,grownCap,asInt,asIntOf,j,o]
theorem XlJ{d:Array Value}(H:Own w0 row w rs)(n:c<=maxLen)(m:d.size=c*sz):Own w0 row (w.drew.alloc (.cells d e)) (.rws e sz (Vd w.heap.size 0 0 c) []::rs):=by
 have j:Own w0 row w.drew rs:=⟨Gk H.grown,λi r h=>r.loc w w.drew (λ_ _=>rfl) (H.pred i r h),H.foot,H.apart⟩
 refine j.add _ ((Below.refl _ _).alloc (AI _) _) ?_ ?_
 ·exact World.ownsRow_made (w:=w.drew) (e:=e) (size:=sz) (base:=0) d c (AU _) n m
 ·intro b g
  have g:Value.ownBlock (Vd w.heap.size 0 0 c)=some b:=g
  simp only[Value.ownBlock,FE]at g
  subst g
  exact⟨AI _,by simp⟩
section
variable{P:Program}{l:List Oper}{Q:Exit->Act->World->Prop}{N:Nat}{a:Act}{env:List (Nat×Value)}{rest:List Oper}{d:Tmp}{ty:TypeId}{pos:String}{af:Array Edge}{g:Option (Nat×Bool)}{w0 w:World}{row:Option Nat}{rs:List Res}
theorem rCap(b:P.underlying t=some (.slice e))(F:Has N a env)(i:ev env x=some (.slice A n c)):(execOp a.eval ⟨some d,.call ⟨.builtin .cap,#[x],#[t]⟩,ty,pos,af,g⟩).run P w=.ok (.value (Ve (c:Int))) w:=
 (by
  simp only[execOp,resolve,FK,FH,IB,F.eval i]
  simp[invoke,builtin,Builtin.cap_,run_underlying b,goInt,go_sem])
theorem CN(b:P.underlying t=some (.slice e))(F:Has N a env)(i:V2 l env g=true)(m:Nat.blt d N=true)(j:ev env x=some (.slice A n c))(K:∀a,Has N a ((d,Ve (c:Int))::env)->wpList P l.toArray Q rest a w):wpList P l.toArray Q (⟨some d,.call ⟨.builtin .cap,#[x],#[t]⟩,ty,pos,af,g⟩::rest) a w:=
 UV F i Z m (rCap b F j) K
theorem XqP{m:TypeId}{s:Operand}{j:TypeInfo}{z:Value}{k:IntKind}{bytes:Nat}(H:Own w0 row w rs)(D:P.underlying t=some (.slice e))(C:P.underlying m=some (.int k))(I:∀w,(typeInfo e).run P w=.ok j w)(M:j.zero=some z)(i:j.size=sz)(p:j.bytes=bytes)(u:z.cells.size=sz)(A:Nat.blt 0 sz=true)(F:Has N a env)(G:V2 l env g=true)(S:Nat.blt d N=true)(hs:ev env s=some (.slice none 0 0))(J:ev env x=some (Ve (n:Int)))(E:0<n)(y:(n:Int)<=9223372036854775807)(r:n*bytes<=281474976710656)(K:∀b c a w,n<=c->Has N a ((d,Vd b 0 n c)::env)->Own w0 row w (.rws e sz (Vd b 0 0 c) []::rs)->wpList P l.toArray Q rest a w):
 wpList P l.toArray Q (⟨some d,.call ⟨.builtin .append,#[s,x],#[t,m]⟩,ty,pos,af,g⟩::rest) a w:=by
 subst i p
 have v:=E7 (P:=P) (w:=w) t m ty e j z k D C I M n (by have R:=A;rw[IQ]at R;omega) E y r
 have o:=grownCap_ge w n 0 e
 have q:=grownCap_le_maxLen w n 0 e (by simp only[maxLen];omega)
 have B:(execOp a.eval ⟨some d,.call ⟨.builtin .append,#[s,x],#[t,m]⟩,ty,pos,af,g⟩).run P w=.ok (.value (Vd w.heap.size 0 n (grownCap w n 0 e))) (w.drew.alloc (.cells (Builtin.zeroCells z.cells n++Builtin.zeroCells z.cells (grownCap w n 0 e-n)) e)):=by
  simp only[execOp,resolve,invoke,builtin,Sem.run_bind,Sem.run_pure,Result.andThen_ok,FK,FH,IB,F.eval hs,F.eval J,v]
 refine UV F G Z S B (λa L=>K _ _ a _ o L (XlJ H q ?_));rw[Array.size_append,G3,G3,u,<-FB]
 congr 1
 omega
end
theorem Xmj(n:Nat)(m:n<=65536)(w0:World):
 Calls prog 84 #[.slice none 0 0,Ve (n:Int)] w0 λe w'=>∃A c,e=.returned (.slice A 0 c)/\Own w0 none w' [.rws 63 38 (.slice A 0 c) []]:=by
 refine Vb func84 ntmps84 λH a F=>?_
 refine gg 11 λa F=>zi (λd=>?_) λd=>?_
 ·
  exact absurd d O
 refine gg 6 λa F=>?_
 refine CN underlying36 F Z Z Z λa F=>?_
 refine gg 2 λa F=>?_
 refine Xh F Z Z (Mf ?_) ?_
 focus omega
 intro a F
 refine Xh F Z Z (Mf ?_) ?_
 focus omega
 intro a F
 refine gg 8 λa F=>zi (λb=>?_) λb=>?_
 ·
  refine gg 3 λa F=>?_
  refine CN underlying36 F Z Z Z λa F=>?_
  refine XqN underlying36 (λw=>⟨_,sizeOf63 w⟩) F Z Z Z Z ?_ ?_
  focus(omega)
  intro a F
  refine gg 1 λa F=>?_
  refine XqP (n:=n) (bytes:=38) H underlying36 underlying3 typeInfo63 Z Z Z Z Z F Z Z Z Z O O O λj i a w g F H=>?_
  refine gg 2 λa F=>?_
  refine XqN underlying36 (λw=>⟨_,sizeOf63 w⟩) F Z Z Z Z ?_ ?_
  focus(omega)
  intro a F
  refine gg 9 λa F=>?_
  exact⟨_,_,Z,H.pick 0 Z⟩
 refine gg 8 λa F=>?_
 exact⟨none,0,Z,(H.nilRws 63 38).pick 0 Z⟩
theorem XaM(l:List By):∀r∈l.map (bs 38),r.all (·.oneCell')=true:=λr c=>by
 obtain⟨s,_,rfl⟩:=AT.1 c
 rw[QK,Ah]
 intro v b
 obtain⟨x,_,rfl⟩:=AT.1 b
 rfl
theorem M7(l:List By):∀r∈l.map (bs 38),r.length=38:=λr b=>by
 obtain⟨s,_,rfl⟩:=AT.1 b
 exact bs_length _ _
theorem Xg2(i u I:Nat)(r:Option Addr)(C:Nat)(l:List By)(w0:World)(K:w0.rangeAt i u [.slice r l.length C])(M:RowsAt w0 r 38 (l.map (bs 38)))(J:l.length<=65536):
 Calls prog 40 #[Vd i u 1 I] w0 λe w'=>∃A c,e=.returned (.slice A l.length c)/\Own w0 none w' [.rws 63 38 (.slice A l.length c) (l.map (bs 38))]:=by
 have H:=Own.start w0 none
 have g:w0.cell? ⟨i,u,none⟩=some (.slice r l.length C):=by simpa using K 0 _ Z
 refine VU func40 Z ntmps40 Z (λa F=>?_)
 refine gg 16 λa F=>?_
 refine cLoopS [0,9,10] (λm b w=>∃(j:Nat)(v:Int),m=1-j/\b=[(3,Ve v),(11,Ve ((j:Nat):Int))]/\j<=1/\(j=0->v=0)/\(1<=j->v=(l.length:Int))/\Own w0 none w []) F (1) [(3,Ve 0),(11,Ve ((0:Nat):Int))] ?_ ?_
 ·exact⟨0,0,Z,Z,O,λ_=>rfl,λh=>absurd h O,H⟩
 clear F H;intro m b a w t F
 obtain⟨j,v,rfl,rfl,L,s,n,H⟩:=t
 refine gg 6 λa F=>zi (λp=>?_) λp=>?_
 ·
  obtain rfl:j=0:=O
  have N:=s Z
  refine gg 6 λa F=>?_
  refine sLd isAgg36 F Z Z Z (by simpa using H.arg g) λa F=>?_
  refine gg 7 λa F=>?_
  refine Xh F Z Z (JN ?_) ?_
  focus omega
  intro a F
  refine gg 8 λa F=>zi (λd=>?_) λd=>?_
  ·
   exact absurd d O
  refine gg 5 λa F=>?_
  exact⟨_,O,_,⟨1,v+(l.length:Int),Z,Z,O,λh=>absurd h O,λ_=>O,H.sel [] Z Z⟩,F.tt⟩
 obtain rfl:j=1:=O
 obtain rfl:=n O
 refine gg 4 λa F=>?_
 refine Xi call84 F Z (Xmj l.length J _) ?_;rintro e w ⟨G,D,rfl,E⟩;replace H:=H.join E;clear E
 refine zq λa F=>?_
 refine gg 10 λa F=>?_
 refine cLoopS [25,26] (λm b w=>∃(j:Nat)(A:Option Addr)(c:Nat) (rows:List (List Value)),m=1-j/\b=[(6,.slice A rows.length c),(27,Ve ((j:Nat):Int))]/\j<=1/\(j=0->rows=[])/\(1<=j->rows=l.map (bs 38))/\Own w0 none w [.rws 63 38 (.slice A rows.length c) rows]) F (1) [(6,.slice G 0 D),(27,Ve ((0:Nat):Int))] ?_ ?_
 ·exact⟨0,G,D,[],Z,Z,O,λ_=>rfl,λh=>absurd h O,H.sel [0] Z Z⟩
 clear F H;intro m b a w t F
 obtain⟨j,A,c,rows,rfl,rfl,L,y,B,H⟩:=t
 refine gg 6 λa F=>zi (λq=>?_) λq=>?_
 ·
  obtain rfl:j=0:=O
  obtain rfl:=y Z
  refine gg 6 λa F=>?_
  refine sLd isAgg36 F Z Z Z (by simpa using H.arg g) λa F=>?_
  refine gg 5 λa F=>?_
  refine XqV (bytes:=38) (sz:=38) H 0 underlying36 typeInfo63 Z Z Z Z Z Z F Z Z Z Z Z ?hm (M.own H) (M7 l) (XaM l) ?hb ?_
  case hm=>(simp;done)
  case hb=>exact((by simp;omega))
  intro o z a w F H
  refine gg 6 λa F=>?_
  exact⟨_,O,_,⟨1,o,z,_,Z,Z,O,λh=>absurd h O,λ_=>by simp,H.sel [0] Z Z⟩,F.tt⟩
 obtain rfl:j=1:=O
 obtain rfl:=B O
 rw[AH]at F H
 refine gg 8 λa F=>?_
 exact⟨_,_,Z,H.pick 0 Z⟩
open Go.Shelf
def Xdd:Go.Shelf.Ren:=⟨λ| 6=>41|15=>86|14=>85|28=>148|29=>149|20=>140|21=>141|22=>142|23=>143|24=>144|25=>145|26=>146|27=>147|46=>195|47=>196|48=>197|49=>198|50=>199|57=>229|n=>n,λ| 22=>36|24=>63|25=>111|3=>3|39=>180|0=>0|53=>206|55=>54|4=>4|46=>250|45=>249|50=>227|5=>5|9=>9|66=>296|70=>300|76=>320|77=>321|n=>n,λ| n=>n⟩
theorem Xoy:Go.Proofs.SlLaysF0.n6 prog Xdd:={
 mixed:=by kernel_rfl
 f6:=⟨f41.name,by decide,func41.trans (congrArg some Y)⟩
 f14:=⟨f85.name,by decide,func85.trans (congrArg some Y)⟩
 f15:=func86.trans (congrArg some Y)
 f20:=⟨f140.name,by decide,func140.trans (congrArg some Y)⟩
 f21:=⟨f141.name,by decide,func141.trans (congrArg some Y)⟩
 f22:=⟨f142.name,by decide,func142.trans (congrArg some Y)⟩
 f23:=⟨f143.name,by decide,func143.trans (congrArg some Y)⟩
 f24:=⟨f144.name,by decide,func144.trans (congrArg some Y)⟩
 f25:=⟨f145.name,by decide,func145.trans (congrArg some Y)⟩
 f26:=⟨f146.name,by decide,func146.trans (congrArg some Y)⟩
 f27:=⟨f147.name,by decide,func147.trans (congrArg some Y)⟩
 f28:=func148.trans (congrArg some Y)
 f29:=func149.trans (congrArg some Y)
 f46:=⟨f195.name,by decide,func195.trans (congrArg some Y)⟩
 f47:=func196.trans (congrArg some Y)
 f48:=func197.trans (congrArg some Y)
 f49:=⟨f198.name,by decide,func198.trans (congrArg some Y)⟩
 f50:=⟨f199.name,by decide,func199.trans (congrArg some Y)⟩
 f57:=⟨f229.name,by decide,func229.trans (congrArg some Y)⟩
 t0:=underlying0
 a0:=isAgg0
 z0:=sizeOf0
 v0:=zeroValue0
 t3:=XX
 a3:=Ye
 z3:=XM
 v3:=X4
 t4:=underlying4
 a4:=isAgg4
 z4:=sizeOf4
 v4:=zeroValue4
 t5:=Xq
 a5:=XD
 z5:=Xr
 v5:=zeroValue5
 t9:=XY
 a9:=isAgg9
 z9:=sizeOf9
 v9:=zeroValue9
 t22:=XL
 a22:=isAgg36
 z22:=sizeOf36
 v22:=zeroValue36
 t25:=underlying111
 a25:=isAgg111
 z25:=sizeOf111
 v25:=zeroValue111
 t39:=underlying180
 a39:=isAgg180
 z39:=sizeOf180
 v39:=zeroValue180
 t45:=underlying249
 a45:=isAgg249
 z45:=sizeOf249
 v45:=zeroValue249
 t46:=underlying250
 a46:=isAgg250
 z46:=sizeOf250
 v46:=zeroValue250
 t50:=underlying227
 a50:=isAgg227
 z50:=sizeOf227
 v50:=zeroValue227
 t53:=underlying206
 a53:=isAgg206
 z53:=sizeOf206
 v53:=zeroValue206
 t55:=Yc
 a55:=isAgg54
 z55:=sizeOf54
 v55:=zeroValue54
 t66:=underlying296
 a66:=isAgg296
 z66:=sizeOf296
 v66:=zeroValue296
 t70:=underlying300
 a70:=isAgg300
 z70:=sizeOf300
 v70:=zeroValue300
 t76:=underlying320
 a76:=isAgg320
 z76:=sizeOf320
 v76:=zeroValue320
 t77:=underlying321
 a77:=isAgg321
 z77:=sizeOf321
 v77:=zeroValue321}
open Go.RowKit Go.Sort
def cfF(x y:By):Int:=GO (toL 38 x) (toL 38 y)
theorem XlZ(x y:By):ltOf cfF x y=decide (GO (toL 38 x) (toL 38 y)<0):=rfl
theorem XrO{a b c:List UInt8}(i:¬GO a b<0)(d:¬GO b c<0):¬GO a c<0:=by
 have j:=N6 a b
 have n:=N6 b c
 have m:=N6 a c
 by_cases g:GO a b=0
 ·rw[XbR g];exact d
 ·by_cases e:GO b c=0
  ·rw[<-XbR e];exact i
  ·have:=MM (l:=c) (q:=b) (s:=a) O O
   omega
theorem swoF:SWO (ltOf cfF) where
 irrefl x:=by rw[XlZ,EK];rfl
 trans x y z h1 h2:=by
  rw[XlZ]at h1 h2⊢
  simp only[decide_eq_true_eq]at h1 h2⊢
  exact MM h1 h2
 ntrans x y z h1 h2:=by
  rw[XlZ]at h1 h2⊢
  simp only[decide_eq_false_iff_not]at h1 h2⊢
  exact XrO h1 h2
theorem one38(x:By):∀v∈bs 38 x,v.oneCell'=true:=λv b=>by
 have:=XaM [x] (bs 38 x) (by simp)
 exact Ah.1 this v b
theorem Xlc(H:Own w0 row w rs)(i:Nat)(u:rs[i]?=some (.rws 63 38 (.slice A l.length c) (l.map (bs 38))))(hn:l.length<=65536)(T:l≠[]):
 Calls prog 41 #[.slice A l.length c,.func (.func 42) #[] #[]] w λe w'=>e=.returned (.tuple #[])/\∃r:List By,r.length=l.length/\(∀x,x∈r↔x∈l)/\(r.Pairwise λx y=>¬GO (toL 38 y) (toL 38 x)<0)/\Own w0 row w' (rs.set i (.rws 63 38 (.slice A r.length c) (r.map (bs 38)))):=by
 have t:w.ownsRow 0 63 38 (.slice A l.length c) (l.map (bs 38)).length (l.map (bs 38)).flatten:=H.pred i _ u
 rw[AH]at t
 have v:=t
 obtain⟨_,⟨E,L⟩|⟨g,V,Q,E,_,U,_⟩⟩:=v
 ·exact absurd (Al L) T
 ·have W:A=some ⟨g,0,none⟩:=by simp only[Value.slice.injEq]at E;exact E.1
  subst W
  have C:∀x:By,(bs 38 x).length=38:=λx=>bs_length _ _
  have X:=Xpj (enc:=bs 38) C (d:=l.toArray) (by simpa using t)
  have M:g<w.heap.size:=(FJ.1 U).1
  have N:∀p w,(callFunc 42 p).run prog w=.ok (.enter 42 p) w:=call42
  have o:=AnyQ.slices_SortFunc Xoy 38 isAgg63 sizeOf63 (bs 38) C one38 cfF swoF 42 #[] g 0 c l.toArray w N (λm D dk K x y=>by simpa[cfF]using XiT x y _) X M (by simp;omega)
  change Calls prog 41 _ _ _ at o
  rw[Fr]at o;refine o.mono ?_;rintro e w' ⟨rfl,b,n,D,G,K,rfl⟩
  obtain⟨s,_,J⟩:=G
  have s:b.size=l.length:=by simpa using s
  have q:b.toList.Perm l:=by
   have R:b.extract 0 l.length=b:=by rw[<-s];simp
   have P:l.toArray.extract 0 l.length=l.toArray:=by simp
   rw[R,P]at J
   simpa using J
  have G:=putOf (enc:=bs 38) C (d:=l.toArray) (d':=b) (by simpa using t) (by rw[Fr];exact s) n D
  refine⟨Z,b.toList,by simpa using s,λx=>q.mem_iff,?_,Xa7 H i u (Xf8 (bs 38) 38 w g n b D) (by simpa using G)⟩
  rw[Ao]
  intro i j u S B
  have z:i<b.size:=by simpa using u
  have I:j<b.size:=by simpa using S
  have:=K i j (AU _) B O
  rw[getElem!_pos b j I,getElem!_pos b i z,XlZ]at this
  simp only[decide_eq_false_iff_not]at this
  simpa using this
theorem Xlf(e:∀r∈rows,r.length=sz)(u:j<rows.length){c:List Value}(m:c.length=sz):(rows.set j c).flatten=VZ rows.flatten (j*sz) c:=by
 have d:∀r∈rows.set j c,r.length=sz:=λr i=>by
   rcases List.mem_or_eq_of_mem_set i with h|h
   ·exact e r h
   ·rw[h];exact m
 have n:=MP rows e
 have q:j*sz+c.length<=rows.flatten.length:=by
   rw[n,m]
   have:=Ft sz (show j+1<=rows.length from u)
   rw[FB]at this;omega
 apply Ar
 intro t
 rw[Gz _ _ _ _ q,m]
 by_cases p:t<rows.length*sz
 ·have w:0<sz:=by
    rcases Aw sz with h|h
    ·subst h;simp at p
    ·exact h
  have s:t/sz<rows.length:=Nat.div_lt_of_lt_mul (by rw[IH];exact p)
  have i:t%sz<sz:=IW _ w
  have o:t/sz*sz+t%sz=t:=by rw[IH];exact Nat.div_add_mod t sz
  have v:=DF rows e (t/sz) rows[t/sz] (AA s) (t%sz) (rows[t/sz][t%sz]'(by rw[e _ (Ff _)];exact i)) (AA _)
  rw[o]at v
  by_cases b:t/sz=j
  ·have g:=DF (rows.set j c) d (t/sz) c (by rw[b,Am,if_pos Z,if_pos u]) (t%sz) (c[t%sz]'(by omega)) (AA _)
   rw[o]at g;subst b;rw[g,if_pos O,AA O]
   congr 2
   omega
  ·have g:=DF (rows.set j c) d (t/sz) rows[t/sz] (by rw[Am,if_neg (Ne.symm b)];exact AA s) (t%sz) (rows[t/sz][t%sz]'(by rw[e _ (Ff _)];exact i)) (AA _)
   rw[o]at g;rw[g,v,if_neg];rintro⟨y,z⟩
   exact b (Nat.div_eq_of_lt_le y (by rw[FB];omega))
 ·rw[AV (by rw[MP _ d,F9];omega),if_neg (by
    rw[n,m]at q;omega),AV (by rw[n];omega)]
section
variable{P:Program}{l:List Oper}{Q:Exit->Act->World->Prop}{N:Nat}{a:Act}{env:List (Nat×Value)}{rest:List Oper}{d:Tmp}{ty:TypeId}{pos:String}{af:Array Edge}{g:Option (Nat×Bool)}{w0 w:World}{row:Option Nat}{rs:List Res}
theorem sStR{y:Operand}{b:List Value}(H:Own w0 row w rs)(i:Nat)(X:∀w,(sizeOf t).run P w=.ok sz w)(F:Has N a env)(S:V2 l env g=true)(U:ev env x=some (Vc gb o))(J:ev env y=some (.agg b.toArray))(s:rs[i]?=some (.rws e sz (Vd gb 0 n c) rows))(G:o=j*sz)(D:j<rows.length)(M:∀r∈rows,r.length=sz)(v:b.length=sz)(W:b.all (·.oneCell')=true)(K:∀w,Own w0 row w (rs.set i (.rws e sz (Vd gb 0 n c) (rows.set j b)))->wpList P l.toArray Q rest a w):wpList P l.toArray Q (⟨none,.store t x y,ty,pos,af,g⟩::rest) a w:=by
 subst G
 obtain⟨d,z,p,V,I,R,E,B⟩:=Xio H i s
 have q:(rs.set i (.blk gb d e))[i]?=some (.blk gb d e):=by
  rw[Am,if_pos Z,if_pos (AB.1 s).1]
 have hb:j*sz+b.length<=n*sz:=by
  rw[v,z]
  have:=Ft sz (show j+1<=rows.length from D)
  rw[FB]at this;omega
 have T:n*sz<=c*sz:=Ft _ p
 have A:=Own.setCells i b (j*sz) w _ d B q
 rw[Il]at A
 have u:(rs.set i (.blk gb (VZ d (j*sz) b) e))[i]?=some (.blk gb (VZ d (j*sz) b) e):=by
  rw[Am,if_pos Z,if_pos (AB.1 s).1]
 have m:=Xlf M D v
 have C:=blkRws (sz:=sz) (n:=n) (c:=c) (rows:=rows.set j b) A i u (by rw[F9];exact z) p V (by rw[J9];exact I) (by rw[E4,R,m]) (by rw[m,J9];exact E)
 rw[Il]at C
 exact Xdb F S Z (w':=w.setCells gb (j*sz) b) (by
  simp only[execOp,F.eval U,F.eval J]
  have L:=run_storeAt_mid (P:=P) w gb (j*sz) t b.toArray (by simpa using B.there i q (j*sz) b.length (FR O)) (by rw[VT X,Fr,v]) (by simpa using W)
  simp only[Sem.run_bind,L,Result.andThen_ok,Sem.run_pure]) (K _ C)
theorem sClr{z:Array Value}{m c':Nat}(H:Own w0 row w rs)(i:Nat)(R:P.underlying t=some (.slice e))(W:∀w,(zeroValue e).run P w=.ok (.agg z) w)(G:z.size=sz)(L:z.toList.all (·.oneCell')=true)(F:Has N a env)(hg:V2 l env g=true)(hx:ev env x=some (Vd gb o m c'))(E:rs[i]?=some (.rws e sz (Vd gb 0 n c) rows))(X:o=k*sz)(hm:k+m=n)(hr:∀r∈rows,r.length=sz)(K:∀w,Own w0 row w (rs.set i (.rws e sz (Vd gb 0 k c) (rows.take k)))->wpList P l.toArray Q rest a w):wpList P l.toArray Q (⟨none,.call ⟨.builtin .clear,#[x],#[t]⟩,ty,pos,af,g⟩::rest) a w:=by
 subst X
 obtain⟨b,hn,D,B,hl,J,hf,U⟩:=Xio H i E
 have p:(rs.set i (.blk gb b e))[i]?=some (.blk gb b e):=by
  rw[Am,if_pos Z,if_pos (AB.1 E).1]
 have C:(Builtin.zeroCells z m).toList.length=m*sz:=by rw[K0,G3,G]
 have hb:k*sz+m*sz=n*sz:=by rw[<-FB,hm]
 have a1:n*sz<=c*sz:=Ft _ D
 have d:∀v∈(Builtin.zeroCells z m).toList,v.oneCell'=true:=λv I=>by
  unfold Builtin.zeroCells at I
  rw[Array.toList_map]at I
  obtain⟨q,j,rfl⟩:=AT.1 I
  have j:q<m*z.size:=by simpa using j
  have hp:0<z.size:=by
   rcases Aw z.size with h|h
   ·rw[h]at j;simp at j
   ·exact h
  have s:q%z.size<z.size:=IW _ hp
  rw[getElem!_pos z _ s]
  exact Ah.1 L _ (Array.getElem_mem_toList s)
 have S:=Own.setCells i (Builtin.zeroCells z m).toList (k*sz) w _ b U p
 rw[Il]at S
 have M:(rs.set i (.blk gb (VZ b (k*sz) (Builtin.zeroCells z m).toList) e))[i]?=some (.blk gb (VZ b (k*sz) (Builtin.zeroCells z m).toList) e):=by
  rw[Am,if_pos Z,if_pos (AB.1 E).1]
 have A:(rows.take k).flatten=rows.flatten.take (k*sz):=E1 rows hr k O
 have T:=blkRws (sz:=sz) (n:=k) (c:=c) (rows:=rows.take k) S i M (by rw[Aj];omega) O B (by rw[J9];exact hl) (by rw[Lq _ _ _ _ (AI _),A,<-J,List.take_take,Fv O]) (by rw[A,Aj,hf];omega)
 rw[Il]at T
 refine XqD (v:=.tuple #[]) F hg Z (w':=w.setCells gb (k*sz) (Builtin.zeroCells z m).toList) ?_ (K _ T)
 have u:=U.there i p (k*sz) (m*sz) (FR O)
 have y:=run_storeCells_cells (P:=P) gb (k*sz) (Builtin.zeroCells z m).toList 0 w (λq j=>by rw[FF];exact(u q O).1) (λq j=>by rw[FF];exact(u q O).2) d
 rw[FF]at y
 simp only[execOp,resolve,FK,FH,IB,F.eval hx]
 cases m with
 |zero=>
  have V:w.setCells gb (k*sz) (Builtin.zeroCells z 0).toList=w:=by
   have:(Builtin.zeroCells z 0).toList=[]:=Al (by rw[C];omega)
   rw[this];rfl
  rw[V]
  simp[invoke,builtin,Builtin.clear_,run_underlying R,go_sem]
 |succ m=>
  simp[invoke,builtin,Builtin.clear_,run_underlying R,W,y,go_sem]
end
theorem Ef:∀{L:List (List UInt8)} {x y:List UInt8},L.getLast?=some x->V7 (L++[y])=if x=y then V7 L else V7 L++[y]
 | [],x,y,h=>by cases h
 | [a],x,y,h=>by
   have:a=x:=by simpa using h
   subst this
   have e:V7 ([a]++[y])=if a=y then V7 [y]else a::V7 [y]:=by
    show V7 (a::y::[])=_
    simp only[V7]
   rw[e]
   by_cases c:a=y
   ·rw[if_pos c,if_pos c,c]
   ·rw[if_neg c,if_neg c]
    simp[V7]
 |a::b::r,x,y,h=>by
  have g:=Ef (L:=b::r) (x:=x) (y:=y) (by simpa using h)
  have i:V7 (a::b::r++[y])=if a=b then V7 (b::(r++[y]))else a::V7 (b::(r++[y])):=by
   show V7 (a::b::(r++[y]))=_
   rw[V7]
  have j:V7 (a::b::r)=if a=b then V7 (b::r)else a::V7 (b::r):=by rw[V7]
  have g:V7 (b::(r++[y]))=_:=g
  rw[i,j,g]
  by_cases c:a=b
  ·rw[if_pos c,if_pos c]
  ·rw[if_neg c,if_neg c]
   by_cases d:x=y
   ·rw[if_pos d,if_pos d]
   ·rw[if_neg d,if_neg d];rfl
theorem Xiu{d:List By}(H:Own w0 row w rs)(i:Nat)(s:rs[i]?=some (.rws e 38 (Vd gb 0 n c) (d.map (bs 38))))(p:d[j]?=some u)(m:o=j*38):w.rangeAt gb o (bs 38 u):=by
 obtain⟨b,q,g,r⟩:=H.rowsAt i s (M7 d) (by decide) j (bs 38 u) (by rw[AD,p];rfl)
 simp only[FE,Addr.mk.injEq]at g
 obtain⟨rfl,rfl,_⟩:=g
 rw[m]
 rwa [As]at r
theorem XbB(m:w0.ownsRow 0 e sz (Vd gb 0 n c) rows.length rows.flatten):Own w0 (some gb) w0 [.rws e sz (Vd gb 0 n c) rows] where
 grown:=UM _ _
 pred:=λi r h=>by
  cases i with
  |zero=>cases h;exact m
  |succ i=>simp at h
 foot:=λi r h b d=>by
  cases i with
  |zero=>
   cases h
   have d:Value.ownBlock (Vd gb 0 n c)=some b:=d
   have g:=d
   simp only[Value.ownBlock,FE]at d
   subst d
   exact⟨.inr Z,(m.lt _ g).2⟩
  |succ i=>simp at h
 apart:=λi j r s hi o p=>by
  have:i=0:=by have:=(AB.1 hi).1;simpa using this
  have:j=0:=by have:=(AB.1 o).1;simpa using this
  omega
theorem Mu(n:Nat)(f g:By):same n f g=same n g f:=by
 rw[HE,same_iff,same_iff]
 exact⟨λh i b=>(h i b).symm,λh i b=>(h i b).symm⟩
def tl(l:List By):List (List UInt8):=l.map (toL 38)
theorem Cy(h:l[j]?=some u):tl (l.take (j+1))=tl (l.take j)++[toL 38 u]:=by
 unfold tl
 rw[At,h,Ae];rfl
theorem Xos(b:1<=j)(h:l[j-1]?=some u):(tl (l.take j)).getLast?=some (toL 38 u):=by
 obtain⟨j,rfl⟩:∃i,j=i+1:=⟨j-1,O⟩
 have h:l[j]?=some u:=h
 rw[Cy h];simp
theorem XhR{v:By}(b:1<=j)(c:l[j-1]?=some v)(d:l[j]?=some u):V7 (tl (l.take (j+1)))=if toL 38 v=toL 38 u then V7 (tl (l.take j))else V7 (tl (l.take j))++[toL 38 u]:=by
 rw[Cy d,Ef (Xos b c)]
theorem Xk5(h:l.length<2):tl l=V7 (tl l):=by
 match l,h with
 | [],_=>rfl
 | [_],_=>rfl
theorem Xea(gb c:Nat)(l:List By)(hl:l.length<=65536)(w0:World)(hw:w0.ownsRow 0 63 38 (Vd gb 0 l.length c) (l.map (bs 38)).length (l.map (bs 38)).flatten):
   Calls prog 43 #[Vd gb 0 l.length c] w0 λe w'=>∃I:List By,tl I=V7 (tl l)/\e=.returned (Vd gb 0 I.length c)/\Own w0 (some gb) w' [.rws 63 38 (Vd gb 0 I.length c) (I.map (bs 38))]:=by
 have H:=XbB hw
 refine VU func43 Z ntmps43 Z (λa F=>?_)
 refine gg 12 λa F=>zi (λh8=>?_) λh8=>?_
 ·
  refine gg 7 λa F=>?_
  exact⟨l,Xk5 O,Z,H.pick 0 Z⟩
 refine gg 7 λa F=>?_
 refine cLoopS [0] (λm g w=>∃k:Nat,m=l.length-k/\g=[(3,Ve ((k:Nat):Int))]/\1<=k/\k<=l.length/\V7 (tl (l.take k))=tl (l.take k)/\Own w0 (some gb) w [.rws 63 38 (Vd gb 0 l.length c) (l.map (bs 38))]) F (l.length-1) [(3,Ve ((1:Nat):Int))] ?_ ?_
 ·exact⟨1,Z,Z,O,O,(by match l with | []=>rfl|_::_=>rfl),H.sel [0] Z Z⟩
 clear F H;intro m g a w P F
 obtain⟨k,rfl,rfl,K,X,i,H⟩:=P
 have a4:=(H.rwsLen 0 Z).2.1
 refine gg 9 λa F=>zi (λJ=>?_) λJ=>?_
 ·
  have C:k<l.length:=O
  obtain⟨u,Q⟩:∃u,l[k]?=some u:=⟨_,AA C⟩
  obtain⟨v,W⟩:∃v,l[k-1]?=some v:=⟨_,AA O⟩
  have E:=XhR K W Q
  refine gg 4 λa F=>?_
  refine D8 Y H ?_;replace H:=H.drew;refine Xj F Z (λw H=>rMv F Z) H qq0 (Xk Z (λa F w H=>rMv F Z) H qq0 λa F=>?_)
  refine Xj (k:=2) F Z (λw H=>rIx XL XH F Z Z ?_) H (λ_ _ _ h=>h) ?_
  focus exact C
  intro a F;refine Xj F Z (λw H=>L3 XN Z XH F Z (Xiu H 0 Z Q O)) H qq0 (Xk Z (λa F w H=>rMv F Z) H qq0 (Xk Z (λa F w H=>rMv F Z) H qq0 λa F=>?_))
  refine Xj (k:=6) F Z (λw H=>Gt F Z Z (XpP (j:=1) ?_ ?_)) H (λ_ _ _ h=>h) ?_
  focus omega
  focus omega
  intro a F
  refine Xj (k:=7) F Z (λw H=>rIx XL XH F Z Z ?_) H (λ_ _ _ h=>h) ?_
  focus omega
  intro a F;refine Xj F Z (λw H=>L3 XN Z XH F Z (Xiu H 0 Z W O)) H qq0 (Xk Z (λa F w H=>Gt F Z Z (bEqY eT63 gT63 Z)) H qq0 λa F=>?_)
  refine Xhg (k:=10) ?_ Z
  refine gg 0 λa F=>?_
  refine cIf F Z (λs=>?_) (λs=>?_)
  ·
   have L:toL 38 v=toL 38 u:=by rw[toL_eq,Mu];exact s
   refine gg 4 λa F=>?_
   refine sSlL XL XH F Z Z Z Z ?_ ?_ ?_
   focus(omega)
   focus(omega)
   intro a F
   refine gg 8 λa F=>?_
   refine cLoopS [0,4] (λm g w=>∃(q d:Nat)(b:List By),m=l.length-(k+q)/\g=[(3,Ve ((d:Nat):Int)),(5,Ve ((q:Nat):Int))]/\1<=q/\k+q<=l.length/\1<=d/\d+1<=k+q/\b.length=l.length/\tl (b.take d)=V7 (tl (l.take (k+q)))/\(∀t,d<=t->b[t]?=l[t]?)/\Own w0 (some gb) w [.rws 63 38 (Vd gb 0 l.length c) (b.map (bs 38))]) F (l.length-(k+1)) [(3,Ve ((k:Nat):Int)),(5,Ve ((1:Nat):Int))] ?_ ?_
   ·exact⟨1,k,l,Z,Z,O,O,O,O,Z,(by rw[E,if_pos L,i]),λ_ _=>rfl,H.sel [0] Z Z⟩
   clear F H;intro m g a w P F
   obtain⟨q,d,b,rfl,rfl,a2,a1,S,a3,D,n,o,H⟩:=P
   refine gg 9 λa F=>zi (λN=>?_) λN=>?_
   ·
    have R:k+q<l.length:=O
    obtain⟨x,V⟩:∃x,l[k+q]?=some x:=⟨_,AA R⟩
    obtain⟨y,U⟩:∃y,l[k+q-1]?=some y:=⟨_,AA O⟩
    have p:=XhR O U V
    have B:b[k+q]?=some x:=by rw[o _ O];exact V
    have M:b[k+q-1]?=some y:=by rw[o _ O];exact U
    refine gg 4 λa F=>?_
    refine D8 Y H ?_;replace H:=H.drew;refine Xj F Z (λw H=>rMv F Z) H qq0 (Xk Z (λa F w H=>rMv F Z) H qq0 λa F=>?_)
    refine Xj (k:=2) F Z (λw H=>rIx XL XH F Z Z ?_) H (λ_ _ _ h=>h) ?_
    focus omega
    intro a F;refine Xj F Z (λw H=>L3 XN Z XH F Z (Xiu H 0 Z B O)) H qq0 (Xk Z (λa F w H=>rMv F Z) H qq0 (Xk Z (λa F w H=>rMv F Z) H qq0 λa F=>?_))
    refine Xj (k:=6) F Z (λw H=>Gt F Z Z (XpP (j:=1) ?_ ?_)) H (λ_ _ _ h=>h) ?_
    focus omega
    focus omega
    intro a F
    refine Xj (k:=7) F Z (λw H=>rIx XL XH F Z Z ?_) H (λ_ _ _ h=>h) ?_
    focus omega
    intro a F;refine Xj F Z (λw H=>L3 XN Z XH F Z (Xiu H 0 Z M O)) H qq0 (Xk Z (λa F w H=>Gt F Z Z (Xqg eT63 gT63 Z)) H qq0 λa F=>?_)
    refine Xhg (k:=10) ?_ Z
    refine gg 1 λa F=>zi (λz=>?_) λz=>?_
    ·
     refine gg 7 λa F=>?_
     refine Qo XN Z XH F Z Z Z (Xiu H 0 Z B O) λa F=>?_
     refine gg 1 λa F=>?_
     refine sStR H 0 XH F Z Z Z (rfl) ((show _=d*38 by omega)) ((by rw[AH];omega)) (M7 b) (bs_length _ _) (XaM [x] (bs 38 x) (by simp)) λw H=>?_;rw[<-List.map_set]at H
     refine gg 11 λa F=>?_
     (have r:¬toL 38 y=toL 38 x:=λA=>by
       rw[toL_eq,Mu]at A
       exact absurd A (by simpa using z)
      exact⟨_,O,_,⟨q+1,d+1,b.set d x,Z,Z,O,O,O,O,(by rw[F9];exact D),(by
       rw[show k+(q+1)=k+q+1 by omega,p,if_neg r,<-n]
       rw[Cy (u:=x) (by rw[Am,if_pos Z,if_pos O]),List.take_set_of_le (AI _)]),λt ht=>(by rw[Am,if_neg O];exact o t O),H.sel [0] Z Z⟩,F.tt⟩)
    refine gg 6 λa F=>?_
    (have G:toL 38 y=toL 38 x:=by
      rw[toL_eq,Mu];simpa using z
     exact⟨_,O,_,⟨q+1,d,b,Z,Z,O,O,O,O,D,(by rw[show k+(q+1)=k+q+1 by omega,p,if_pos G];exact n),o,H.sel [0] Z Z⟩,F.tt⟩)
   have a5:k+q=l.length:=O
   refine gg 5 λa F=>?_
   refine sSlL XL XH F Z Z Z Z ?_ ?_ ?_
   focus(omega)
   focus(omega)
   intro a F;refine sClr H 0 XL zeroValue63 Z Z F Z Z Z ((show _=d*38 by omega)) (O) (M7 b) λw H=>?_
   refine gg 5 λa F=>?_
   refine XqN XL (λw=>⟨_,XH w⟩) F Z Z Z Z ?_ ?_
   focus(omega)
   intro a F
   refine gg 4 λa F=>?_
   (rw[<-List.map_take]at H
    have T:(b.take d).length=d:=by rw[Aj];omega
    have et:l.take (k+q)=l:=FD O
    rw[et]at n
    exact⟨b.take d,n,by rw[T],by rw[T];exact H.pick 0 Z⟩)
  refine gg 6 λa F=>?_
  (have r:¬toL 38 v=toL 38 u:=λA=>by
    rw[toL_eq,Mu]at A
    rw[s]at A;cases A
   exact⟨_,O,_,⟨k+1,Z,Z,O,O,(by rw[E,if_neg r,i,Cy Q]),H.sel [0] Z Z⟩,F.tt⟩)
 refine gg 8 λa F=>?_
 (obtain rfl:k=l.length:=O
  rw[FT]at i
  exact⟨l,i.symm,Z,H.pick 0 Z⟩)
theorem Xnk(l:List By):(tl l).length=l.length:=AH _
theorem D3:∀l:List (List UInt8),(V7 l).length<=l.length
 | []=>AI _
 | [_]=>AI _
 |a::b::r=>by
  have:=D3 (b::r)
  rw[V7]
  split
  ·simp only[AY]at this⊢;omega
  ·simp only[AY]at this⊢;omega
theorem Xd9(H:Own w0 row w rs)(i:Nat)(n:rs[i]?=some (.rws 63 38 (.slice A l.length c) (l.map (bs 38))))(v:l.length<=65536)(q:l≠[]):
 Calls prog 43 #[.slice A l.length c] w λe w'=>∃b:List By,tl b=V7 (tl l)/\e=.returned (.slice A b.length c)/\Own w0 row w' (rs.set i (.rws 63 38 (.slice A b.length c) (b.map (bs 38)))):=by
 have m:w.ownsRow 0 63 38 (.slice A l.length c) (l.map (bs 38)).length (l.map (bs 38)).flatten:=H.pred i _ n
 have d:=m
 rw[AH]at d
 obtain⟨_,⟨j,p⟩|⟨g,r,t,j,_,y,_⟩⟩:=d
 ·exact absurd (Al p) q
 ·have s:A=some ⟨g,0,none⟩:=by simp only[Value.slice.injEq]at j;exact j.1
  subst s;refine(Xea g c l v w m).mono ?_;rintro e w' ⟨b,u,rfl,o⟩
  exact⟨b,u,Z,Xa7 H i n o.grown (o.pred 0 _ Z)⟩
theorem XeD(A:Option Addr)(C:Nat)(l:List By)(w0:World)(z:RowsAt w0 A 38 (l.map (bs 38)))(q:l.length<=65536)(r:l≠[]):
 Calls prog 16 #[.slice A l.length C] w0 λe w'=>∃(s:Option Addr)(c2:Nat)(c:List By),e=.returned (.slice s c.length c2)/\c.length<=l.length/\QO (tl c)/\(∀x,x∈tl c↔x∈tl l)/\Own w0 none w' [.rws 63 38 (.slice s c.length c2) (c.map (bs 38))]:=by
 refine Vb func16 ntmps16 λH a F=>?_
 refine gg 7 λa F=>?_
 refine sBs H underlying176 sizeOf36 zeroValue36 Z F Z Z Z Z Z λu a w F H=>?_;refine Xi call40 F Z (Xg2 u 0 1 A C l _ (H.whole 0 Z) (z.own H) q) ?_;rintro e w ⟨v,B,rfl,d⟩;replace H:=H.join d;clear d
 refine zq λa F=>?_
 refine gg 5 λa F=>?_
 refine Xi call41 F Z (Xlc H 0 Z q r) ?_;rintro e w ⟨rfl,t,b,g,o,d⟩
 replace H:=d;clear d;rw[b]at H
 refine zq λa F=>?_
 refine gg 4 λa F=>?_
 refine Xi call43 F Z ((by have:=Xd9 (l:=t) H 0 (by rw[b];rfl) O (by intro e;rw[e]at b;exact r (Al b.symm));rw[b]at this;exact this)) ?_;rintro e w ⟨c,n,rfl,d⟩
 replace H:=d;clear d
 refine zq λa F=>?_
 refine gg 4 λa F=>?_
 have i:QO (tl c):=by
  rw[n]
  exact NT (by unfold tl;rw[Ig];exact o)
 have j:∀x,x∈tl c↔x∈tl l:=λx=>by
  rw[n,Mc]
  unfold tl
  rw[AT,AT]
  exact⟨λ⟨y,m,e⟩=>⟨y,(g y).1 m,e⟩,λ⟨y,m,e⟩=>⟨y,(g y).2 m,e⟩⟩
 have p:c.length<=l.length:=by
  have:=D3 (tl t)
  rw[<-n,Xnk,Xnk]at this
  omega
 exact⟨v,B,c,Z,p,i,j,H.pick 0 Z⟩
def Bz(p:Prg)(M:UInt8)(t:List UInt8):Prop:=∃v∈Uf p,GU M v/\t=toL 38 v.fi
def Xoe(p:Prg)(M:UInt8)(b:Nat)(w0:World)(e:Ending)(w':World):Prop:=
 (JW p b/\e=.returned (.tuple #[.slice none 0 0,.int .i64 5])/\Below w0.heap.size w0 w') \/
 ∃(A:Option Addr)(C:Nat)(l:List By),CandGo p b/\l.length<=65536/\QO (tl l)/\(∀t,t∈tl l↔Bz p M t)/\e=.returned (.tuple #[.slice A l.length C,.int .i64 0])/\Own w0 none w' [.rws 63 38 (.slice A l.length C) (l.map (bs 38))]
theorem Xku{p:Prg}{b:Nat}{e:Ending}(h:XcM p b w0 e w'):∃(c:List XcP)(A:Option Addr)(C:Nat)(g:Int),e=.returned (.tuple #[.slice A c.length C,Ve g]) /\
 ((JW p b/\g=5/\c=[]/\A=none/\C=0)\/(g=0/\c.map XcP.v=Uf p/\CandGo p b))/\Own w0 none w' (.rws 65 333 (.slice A c.length C) (c.map XcP.cells)::c.map XcP.part):=by
 rcases h with⟨i,d,j⟩|⟨c,A,C,i,d,j,m⟩
 ·exact⟨[],none,0,5,d,.inl ⟨i,Z,Z,Z,Z⟩,((Own.start w0 none).grow j).nilRws 65 333⟩
 ·exact⟨c,A,C,0,j,.inr ⟨Z,i,d⟩,m⟩
theorem Xkx(cs:List Value)(p:Prg)(M:UInt8)(b:Nat)(w0:World)(hP:ProgAt w0 cs p)(X:VX p=0)(hN:NeedsAt w0)(hT:TabAt w0)(a2:Tab6At w0)(J:b<=10000)(E:∀ps∈NC p (V5 p 16).1,∀q∈ps,GoodP p.init.length q)(aC:∀ps∈JT p (V5 p 16).1,∀ws∈Qn (UE p.init ps ps.length) p.init.length,1<=ws.length)(hM:M=2\/M=3)(I:CandGo p b->∀v∈Uf p,∃n rk,RightOk n v rk)(d:CandGo p b->∃v∈Uf p,GU M v):
 Calls prog 8 #[.agg cs.toArray,b8 M,Ve (b:Int)] w0 (Xoe p M b w0):=by
 have H:=Own.start w0 none
 have aG:=hP
 obtain⟨LA,LC,IA,IC,TA,TC,h,aO,hp⟩:=hP
 obtain⟨d1,d2,d3,d4,d5,rfl⟩:=Xa2 (Uk hp.cond)
 have aI:=hp.cs
 subst aI;refine VU func8 Z ntmps8 Z (λa F=>?_)
 refine gg 2 λa F=>?_
 refine zBx H F λb3 a w F H=>?_
 refine gg 9 λa F=>?_
 refine zSp 15 F (λa9 F=>?_) λa9 F=>?_
 ·
  rcases hM with rfl|rfl<;>exact absurd a9 (by decide)
 refine gg 5 λa F=>zi (λU=>?_) λU=>?_
 ·
  rcases hM with rfl|rfl<;>exact absurd U (by decide)
 refine gg 5 λa F=>?_
 refine Xi call14 F Z (Xkv _ p b _ (aG.own H) X (hN.own H) (hT.own H) (a2.own H) J E aC) ?_;rintro e w u
 obtain⟨z,A,C,er,rfl,i,T⟩:=Xku u
 replace H:=H.join T
 clear T u
 refine zq λa F=>?_
 refine gg 13 λa F=>zi (λK=>?_) λK=>?_
 ·
  have o:JW p b/\er=5:=i.elim (λc=>⟨c.1,c.2.1⟩) (λc=>absurd c.1 K)
  refine gg 7 λa F=>?_
  refine Gy results8 F Z Z ?_
  exact .inl ⟨o.1,by rw[o.2],H.below⟩
 have g:z.map XcP.v=Uf p/\CandGo p b:=i.elim (λc=>absurd (K.symm.trans c.2.1) (by decide)) (λc=>c.2)
 refine gg 2 λa F=>?_
 obtain⟨R,g⟩:=g
 have aM:=g.few
 replace I:=I g
 replace d:=d g
 have W:z.length=(Uf p).length:=by rw[<-R,AH]
 have hX:∀(j:Nat)(x:XcP),z[j]?=some x->∃bX,A=some ⟨bX,0,none⟩/\w.rangeAt bX (0+j*333) x.cells/\RowsAt w x.A 7 (x.v.evs.map EvT.cells):=λj x L=>by
  obtain⟨gX,rfl⟩:=JR H 0 Z (λh9=>by
   have h7:=congrArg List.length h9
   rw[AH]at h7
   have h6:z.length=0:=h7
   have:=(AB.1 L).1
   omega)
  obtain⟨b1,o1,e1,c⟩:=H.rowsAt 0 Z (λr X=>by obtain⟨y,_,rfl⟩:=AT.1 X;exact XcP.len y) O j x.cells (by rw[AD,L];rfl)
  cases e1
  refine⟨_,Z,c,(H.subl (qs:=[x.part]) ?_).rowsAt 0 Z Xpx O⟩
  refine List.Sublist.cons _ (List.Sublist.trans ?_ (F6 _ _))
  exact Id.2 (AT.2 ⟨x,AF L,Z⟩)
 have a8:=a2.own H
 have H1:=(Own.start w0 none).grow H.below
 rename World=>W1
 clear H
 have H:=Own.start W1 none
 refine gg 2 λa F=>?_
 replace H:=H.nilRws 63 38
 refine gg 9 λa F=>?_
 refine cLoopS [1,28,29] (λm Q w=>∃(j:Nat)(l:List By)(N:Option Addr)(P:Nat),m=z.length-j/\Q=[(10,.slice N l.length P),(30,Ve ((j:Nat):Int))]/\j<=z.length/\l.length<=j/\(∀y,y∈l↔∃v∈(Uf p).take j,GU M v/\y=v.fi)/\Own W1 none w [.rws 63 38 (.slice N l.length P) (l.map (bs 38))]) F (z.length) [(10,.slice none 0 0),(30,Ve ((0:Nat):Int))] ?_ ?_
 ·exact⟨0,[],none,0,Z,Z,AU _,AI _,λy=>by simp,H⟩
 clear F H;intro m Q a w hI F
 obtain⟨j,l,N,P,rfl,rfl,hj,aQ,S,H⟩:=hI
 refine gg 6 λa F=>zi (λaJ=>?_) λaJ=>?_
 ·
  have G:j<z.length:=O
  obtain⟨x,L⟩:∃x,z[j]?=some x:=⟨_,AA G⟩
  obtain⟨bX,rfl,aH,V⟩:=hX j x L
  have a5:(Uf p)[j]?=some x.v:=by rw[<-R,AD,L];rfl
  obtain⟨n9,aA,a1⟩:=I x.v (AF a5)
  have s:∀y,(∃v∈(Uf p).take (j+1),GU M v/\y=v.fi)↔y∈l\/(GU M x.v/\y=x.v.fi):=λy=>by
   rw[S,At,a5,FW]
   simp only[A8,Ay]
   constructor
   ·rintro⟨v,c|rfl,h2⟩
    ·exact .inl ⟨v,c,h2⟩
    ·exact .inr h2
   ·rintro(⟨v,c,h2⟩|h2)
    ·exact⟨v,.inl c,h2⟩
    ·exact⟨_,.inr Z,h2⟩
  refine gg 6 λa F=>?_
  refine sLr underlying65 Z ?si F Z Z Z (H.argR aH) ?_
  case si=>rw[XcP.len];exact VT sizeOf65
  intro a F
  refine zAl zeroValue65 H F λa4 a w F H=>?_
  refine sSr H 0 ?si F Z Z Z ?s1 Z (by rw[Li,XcP.len,Xc.len];rfl) ?_
  case si=>rw[XcP.len];exact VT sizeOf65
  case s1=>exact XcP.one _
  clear H;intro w H
  refine gg 1 λa F=>?_
  rw[Li,Xh4 (Xc.len _)]at H
  replace H:Own W1 none w [.blk a4 x.cells 65,.rws 63 38 (.slice N l.length P) (l.map (bs 38))]:=H
  refine gg 3 λa F=>?_
  refine sLr underlying65 Z ?si F Z Z Z (H.whole 0 Z) ?_
  case si=>rw[XcP.len];exact VT sizeOf65
  intro a F;refine Xi call15 F Z (XgC n9 M x aA _ hM (V.own H) a1 (a8.own H)) ?_;rintro e w ⟨aN,rfl,D,hb⟩;replace H:=H.grow hb;clear hb
  refine zq λa F=>?_
  refine gg 1 λa F=>?_
  refine cIf F Z (λB=>?_) (λB=>?_)
  ·
   refine gg 3 λa F=>?_
   refine Qo underlying63 Z sizeOf63 F Z Z Z (show World.rangeAt _ a4 (0+295) (bs 38 x.v.fi)from ExAt.fi ⟨H.whole 0 Z,V.own H⟩) λa F=>?_;refine XeM H underlying36 sizeOf63 zeroValue63 Z F Z Z Z Z Z λaP a w F H=>?_
   refine G7 (bytes:=38) H 2 underlying36 typeInfo63 Z Z Z Z Z Z F Z Z Z Z Z (H.whole 0 Z) Z ?s1 ?s2 ?_
   case s1=>rfl
   case s2=>(rw[AH];omega)
   intro aK aB a w F H
   refine gg 6 λa F=>?_
   (have e1:l.map (bs 38)++[bs 38 x.v.fi]=(l++[x.v.fi]).map (bs 38):=by simp
    have e2:(l.map (bs 38)++[bs 38 x.v.fi]).length=(l++[x.v.fi]).length:=by simp
    rw[e2]at F;rw[e2,e1]at H
    exact⟨_,O,_,⟨j+1,l++[x.v.fi],aK,aB,Z,Z,O,by simp;omega,λy=>by rw[s,A8,Ay];simp[D.1 B],H.tail.tail⟩,F.tt⟩)
  have aE:¬GU M x.v:=λh=>by rw[D.2 h]at B;cases B
  refine gg 5 λa F=>?_
  exact⟨_,O,_,⟨j+1,l,N,P,Z,Z,O,O,λy=>by rw[s];simp[aE],H.tail⟩,F.tt⟩
 have G:j=z.length:=O
 refine gg 2 λa F=>?_
 subst G
 have a6:l≠[]:=λh9=>by
  obtain⟨v,aF,a7⟩:=d
  have h8:=(S v.fi).2 ⟨v,by rw[W,FT];exact aF,a7,Z⟩
  rw[h9]at h8
  cases h8
 refine gg 2 λa F=>?_
 refine Xi call16 F Z (XeD N P l _ (H.rowsAt 0 Z (λr X=>by obtain⟨y,_,rfl⟩:=AT.1 X;exact bs_length _ _) O) O a6) ?_;rintro e w ⟨A2,c2,l2,rfl,aL,aD,a3,T⟩;replace H:=H.join T;clear T
 refine zq λa F=>?_
 refine gg 4 λa F=>?_
 refine Gy results8 F Z Z ?_
 (refine .inr ⟨A2,c2,l2,g,O,aD,λt=>?_,Z,H1.join (H.pick 0 Z)⟩
  rw[a3]
  unfold tl Bz
  rw[AT];rw[W,FT]at S
  constructor
  ·rintro⟨y,c,rfl⟩
   obtain⟨v,h2,h3,rfl⟩:=(S y).1 c
   exact⟨v,h2,h3,Z⟩
  ·rintro⟨v,h2,h3,rfl⟩
   exact⟨v.fi,(S _).2 ⟨v,h2,h3,Z⟩,Z⟩)
theorem Xkw{p:Prg}{M:UInt8}{b:Nat}{e:Ending}(h:Xoe p M b w0 e w'):∃(l:List By)(A:Option Addr)(C:Nat)(d:Int),e=.returned (.tuple #[.slice A l.length C,Ve d]) /\
 ((JW p b/\d=5)\/(d=0/\CandGo p b/\QO (tl l)/\∀t,t∈tl l↔Bz p M t))/\l.length<=65536/\Own w0 none w' [.rws 63 38 (.slice A l.length C) (l.map (bs 38))]:=by
 rcases h with⟨i,c,g⟩|⟨A,C,l,j,m,i,c,g,n⟩
 ·exact⟨[],none,0,5,c,.inl ⟨i,Z⟩,by simp,((Own.start w0 none).grow g).nilRws 63 38⟩
 ·exact⟨l,A,C,0,g,.inr ⟨Z,j,i,c⟩,m,n⟩
end Go.Proofs.YtajfpcgbnflceaaGreatDoor
