/- Plain Lean: the values that a program's paths write are among its values; each choice of paths is a mix. Conditions: the program is valid; the values are known. -/
import Derived.Test.YtajfpcgbnflceaaGreatDoorJn17
set_option linter.unusedSimpArgs false
set_option linter.unusedVariables false
namespace Go.Proofs.YtajfpcgbnflceaaGreatDoor
open Go.Proofs.Tryz
open Go.RowKit
set_option maxRecDepth 100000
set_option maxHeartbeats 2000000
variable{dom:List UInt8}{l:List Ins}{p:Prg}{r z:RunP}{x:Ins}
theorem Xkc{a b:List UInt8}(c:Um a=a)(h:∀x∈a,x∈b)(d:(Um b).length=a.length):∀x∈b,x∈a:=by
 have g:(Um a).Sublist (Um b):=by
  unfold Um
  have:∀R:List UInt8,(R.filter λv=>a.contains v).Sublist (R.filter λv=>b.contains v):=λR=>by
   have e:(R.filter λv=>a.contains v)=(R.filter λv=>b.contains v).filter λv=>a.contains v:=by
    rw[List.filter_filter]
    refine I3 λx _=>?_
    cases hx:a.contains x with
    |false=>rfl
    |true=>
     have:b.contains x=true:=Ik.2 (h x (Ik.1 hx))
     rw[this];rfl
   rw[e]
   exact List.filter_sublist
  exact this _
 have e:Um a=Um b:=g.eq_of_length (by rw[c];exact d.symm)
 intro x hx
 rw[<-c,e]
 exact(EQ b x).2 hx
structure Vals (p:Prg) (dom:List UInt8):Prop where
 dist:Um dom=dom
 init:∀x∈p.init,x∈dom
 wrote:∀l∈p.threads,∀z,PathD l dom zRun z->∀e∈GL z,e.kind=2->e.val∈dom
theorem XkZ{g:List UInt8}(hd:Um dom=dom)(h:EY p dom=some g)(q:g.length=dom.length)(d:l∈p.threads)(r:PathD l dom zRun z){e:Ev}(n:e∈GL z)(j:e.kind=2):e.val∈dom:=by
 unfold EY at h
 split at h
 next m=>
  cases h
  refine Xkc hd (λx hx=>II _ hx) q _ (IG _ (Hh.2 ⟨l,d,?_⟩))
  have c:=Ah.1 m l d
  unfold Gd at c⊢
  split at c
  ·cases c
  next o=>
   rw[if_neg o]
   unfold byW
   refine AT.2 ⟨e.val.toNat,Az.2 ⟨Ab.2 (UInt8.toNat_lt e.val),?_⟩,by simp⟩
   unfold UZ
   refine HN.2 ⟨z,mem_ends.2 r,?_⟩
   obtain⟨i,hi⟩:=Af.1 n
   obtain⟨b,rfl⟩:=Cf hi
   unfold wrote
   refine HN.2 ⟨i,Ab.2 b,?_⟩
   unfold evW
   rw[j,AJ]
   exact⟨Z,beq_self_eq_true _⟩
 next=>cases h
theorem Xfp{p:Prg}{most:Int}{dom:List UInt8}:∀(f:Nat)(b:List UInt8),Um b=b->(∀x∈p.init,x∈b)->goV p most f b=(dom,0)->Vals p dom
 |0,b,_,_,h=>by cases(Prod.mk.inj h).2
 |f+1,b,g,hi,h=>by
  unfold goV at h
  split at h
  ·cases(Prod.mk.inj h).2
  ·split at h
   ·cases(Prod.mk.inj h).2
   next j c=>
    split at h
    next m=>
     obtain rfl:=(Prod.mk.inj h).1
     exact⟨g,hi,λl d z q e o n=>XkZ g c m d q o n⟩
    next=>
     have i:j=Um (b++p.threads.flatMap λl=>(Gd l b).1):=by
      unfold EY at c
      split at c
      ·exact(Ac c).symm
      ·cases c
     exact Xfp f j (by rw[i];exact M0 _) (λx hx=>by rw[i];exact(EQ _ x).2 (II _ (hi x hx))) h
theorem XhD{b:Nat}(g:VX p=0)(h:CandGo p b):Vals p (Um (V5 p 16).1):=by
 have d:=h.vals
 have e:V5 p 16=goV p 16 18 (Um p.init):=by
  unfold V5
  exact if_neg (λi=>i.elim (λh=>absurd h (by decide)) (λh=>h.elim (λh=>absurd h (by decide)) (λh=>h g)))
 rw[e]at d⊢
 have c:=Xfp (p:=p) (most:=16) (dom:=(goV p 16 18 (Um p.init)).1) 18 _ (M0 _) (λx hx=>(EQ _ x).2 hx) (by rw[<-d])
 rw[c.dist]
 exact c
theorem XlC{P:Nat->Nat->Prop}:∀m,(∀j,j<m->∃k,P j k)->∃L:List Nat,L.length=m/\∀j,j<m->∃k,L[j]?=some k/\P j k
 |0,_=>⟨[],Z,λj h=>absurd h (Fx _)⟩
 |m+1,h=>by
  obtain⟨L,b,d⟩:=XlC m λj hj=>h j O
  obtain⟨k,c⟩:=h m (Fc _)
  refine⟨L++[k],by rw[AK,b];rfl,λj hj=>?_⟩
  rcases AN j m with h3|h3
  ·obtain⟨i,e,g⟩:=d j h3
   exact⟨i,by rw[AP O];exact e,g⟩
  ·obtain rfl:j=m:=O
   exact⟨k,by rw[AQ O,b,Ih];rfl,c⟩
theorem XrK{m:Nat}(h:CandGo p m){b:Nat->RunP}(z:∀t l,p.threads[t]?=some l->PathD l (Um (V5 p 16).1) zRun (b t)):∃y∈JT p (V5 p 16).1,∀t l,p.threads[t]?=some l->y[t]?=some (Ul (b t)):=by
 have w:∀t l,p.threads[t]?=some l->∃k,((UI l (V5 p 16).1 4096).1)[k]?=some (Ul (b t)):=λt l e=>by
  have c:=h.paths l (AF e)
  refine Af.1 ?_
  unfold UI at c⊢
  split at c
  ·cases c
  next q=>
   rw[if_neg q]
   split at c
   ·cases c
   next j=>
    rw[if_neg j]
    exact AT.2 ⟨_,mem_ends.2 (z t l e),Z⟩
 have e:∀t l,p.threads[t]?=some l->(NC p (V5 p 16).1)[t]?=some (UI l (V5 p 16).1 4096).1:=λt l e=>by unfold NC;rw[AD,e];rfl
 obtain⟨d,c,q⟩:=XlC (P:=λt k=>∀l,p.threads[t]?=some l->((UI l (V5 p 16).1 4096).1)[k]?=some (Ul (b t))) p.threads.length λt o=>by
  obtain⟨k,r⟩:=w t _ (AA o)
  exact⟨k,λl g=>by rw[AA o]at g;cases g;exact r⟩
 have n:(NC p (V5 p 16).1).length=p.threads.length:=by unfold NC;rw[AH]
 refine⟨UF (NC p (V5 p 16).1) d,AT.2 ⟨d,mem_odo.2 ⟨by rw[AH,c,n],λi k s r v=>?_⟩,Z⟩,λt l g=>?_⟩
 ·have hi:i<p.threads.length:=by rw[<-c];exact(AB.1 r).1
  obtain⟨A,j,u⟩:=q i hi
  rw[r]at j
  cases j
  rw[AD,e i _ (AA hi)]at v
  cases v
  exact(AB.1 (u _ (AA hi))).1
 ·obtain⟨k,j,u⟩:=q t (AB.1 g).1
  exact D5 (e t l g) j (u l g)
theorem Ea(h:Ug x.op=false)(v:UInt8)(r:RunP):Ub x v r=Ub x 0 r:=by
 have b:x.op≠1:=λe=>by rw[e]at h;cases h
 have g:x.op≠4:=λe=>by rw[e]at h;cases h
 have c:x.op≠5:=λe=>by rw[e]at h;cases h
 have d:x.op≠6:=λe=>by rw[e]at h;cases h
 have e:∀v,Js x v r=Js x 0 r:=λv=>by
  unfold Js
  simp only[b,g,c,d,if_false]
 unfold Ub
 rw[e v]
theorem XeO{b:UInt8}(h:Ug b=true):b=1\/b=4\/b=5\/b=6:=by
 unfold Ug at h
 simp only[FM,beq_iff_eq]at h
 rcases h with((h|h)|h)|h
 ·exact .inl h
 ·exact .inr (.inl h)
 ·exact .inr (.inr (.inl h))
 ·exact .inr (.inr (.inr h))
theorem Xi5(h:Ug x.op=true)(v:UInt8)(r:RunP):∃e b,U1 x v r=e::b/\e.kind=1/\e.loc=x.loc/\e.val=v/\(∀g∈b,g.kind=2/\g.loc=x.loc):=by
 unfold U1
 rcases XeO h with h|h|h|h
 ·rw[if_pos h];exact⟨_,_,Z,Z,Z,Z,λ_ h=>by simp at h⟩
 ·rw[h];exact⟨_,_,Z,Z,Z,Z,λe c=>by obtain rfl:=Ay.1 c;exact⟨Z,Z⟩⟩
 ·rw[h];exact⟨_,_,Z,Z,Z,Z,λe c=>by obtain rfl:=Ay.1 c;exact⟨Z,Z⟩⟩
 ·rw[h]
  by_cases d:v≠UX x.aR x.aN r
  ·exact⟨⟨1,x.loc,v,3,UInt8.ofNat r.pc,UInt8.ofNat r.many⟩,[],if_pos d,Z,Z,Z,λ_ h=>by simp at h⟩
  ·exact⟨⟨1,x.loc,v,3,UInt8.ofNat r.pc,UInt8.ofNat r.many⟩,[⟨2,x.loc,UX x.bR x.bN r,3,UInt8.ofNat r.pc,UInt8.ofNat (r.many+1)⟩],if_neg d,Z,Z,Z,λe c=>by obtain rfl:=Ay.1 c;exact⟨Z,Z⟩⟩
section
variable{l:List Ins}{dom:List UInt8}
theorem PathD.grow(h:PathD l dom r z):GL r <+: GL z:=by
 induction h with
 |stop _=>exact ID _
 |read _ _ _ _ b=>rw[JV]at b;exact(IF _ _).trans b
 |pass _ _ _ b=>rw[JV]at b;exact(IF _ _).trans b
theorem PathD.next(h:PathD l dom r z):l[r.pc]?=none/\z=r\/∃x v,l[r.pc]?=some x/\PathD l dom (Ub x v r) z/\(Ug x.op=true->v∈dom)/\(Ug x.op=false->∀u,Ub x u r=Ub x v r):=by
 cases h with
 |stop b=>exact .inl ⟨b,Z⟩
 |read b c d g=>exact .inr ⟨_,_,b,g,λ_=>d,λe=>by rw[c]at e;cases e⟩
 |pass b c d=>exact .inr ⟨_,0,b,d,(λe=>by rw[c]at e;cases e),λ_ u=>Ea c u r⟩
end
theorem XfN(x:Ins)(v:UInt8){i:Nat}(hi:i<r.many):(Ub x v r).att i=r.att i:=by
 show(Js x v r).att i=_
 rcases XkK x v r with e|e
 ·rw[e]
 ·rw[e,Jy O]
theorem Ga(x:Ins)(v:UInt8)(r:RunP):(Ub x v r).many=r.many+(U1 x v r).length:=by
 have:=congrArg List.length (JV x v r)
 rwa [AK,UA,UA]at this
theorem PathD.att(h:PathD l dom r z):∀i,i<r.many->z.att i=r.att i:=by
 induction h with
 |stop _=>exact λ_ _=>rfl
 |read _ _ _ _ b=>exact λi hi=>(b i (by rw[Ga];omega)).trans (XfN _ _ hi)
 |pass _ _ _ b=>exact λi hi=>(b i (by rw[Ga];omega)).trans (XfN _ _ hi)
theorem XpT{v:UInt8}(h:(U1 x v r).length=2):(Ub x v r).att (r.many+1)=En r.many:=by
 show(Js x v r).att (r.many+1)=_
 have b:GB r.att (r.many+1) (En r.many) (r.many+1)=En r.many:=QH _ _ _
 refine MW (M:=λy=>y.att (r.many+1)=En r.many) x v r (λe=>?_) (λe=>?_) (λe=>?_) (λ_=>b) (λ_=>b) (λe=>?_) (λe=>?_) (λe=>?_)
 ·unfold U1 at h;rw[if_pos e]at h;cases h
 ·unfold U1 at h;rw[e]at h;cases h
 ·unfold U1 at h;rw[e]at h;cases h
 ·unfold XaL
  split
  next j=>
   unfold U1 at h
   rw[e]at h
   have h:(if v≠UX x.aR x.aN r then[(⟨1,x.loc,v,3,UInt8.ofNat r.pc,UInt8.ofNat r.many⟩:Ev)]else[⟨1,x.loc,v,3,UInt8.ofNat r.pc,UInt8.ofNat r.many⟩,⟨2,x.loc,UX x.bR x.bN r,3,UInt8.ofNat r.pc,UInt8.ofNat (r.many+1)⟩]).length=2:=h
   rw[if_pos j]at h
   cases h
  ·exact b
 ·unfold U1 at h;rw[e]at h;cases h
 ·obtain⟨d,o,g,m,c,i,n⟩:=e
  unfold U1 at h
  simp only[d,o,g,m,c,i,n,if_false]at h
  cases h
theorem XoK{v:UInt8}(h:PathD l dom (Ub x v r) z)(b:(U1 x v r).length=2)(hs:SetsOk z):MD (r.many+1) r.many∈(Ul z).rmw:=by
 have c:=Ga x v r
 have d:(Ub x v r).many<=z.many:=by
  have:=h.grow.length_le
  rwa [UA,UA]at this
 refine(JB hs.att _).2 ⟨r.many+1,r.many,O,?_,Z⟩
 rw[h.att _ O,XpT b]
 exact Xm3 _
inductive NewF (x:Ins) (v:UInt8):List Ev->Prop where
 |quiet {E:List Ev}:Ug x.op=false->(∀e∈E,e.kind=3)->NewF x v E
 |rd {e:Ev}:Ug x.op=true->e.kind=1->e.loc=x.loc->e.val=v->NewF x v [e]
 |wr {w:Ev}:Ug x.op=false->w.kind=2->w.loc=x.loc->NewF x v [w]
 |both {e w:Ev}:Ug x.op=true->e.kind=1->e.loc=x.loc->e.val=v->w.kind=2->w.loc=x.loc->NewF x v [e,w]
theorem EH(x:Ins)(v:UInt8)(r:RunP):NewF x v (U1 x v r):=by
 have b:∀{o:UInt8}{c:Bool},x.op=o->Ug o=c->Ug x.op=c:=λe h=>e▸h
 unfold U1
 split
 next h=>exact .rd (b h Z) Z Z Z
 next j=>
 split
 next h=>exact .wr (b h Z) Z Z
 next n=>
 split
 next h=>exact .quiet (b h Z) (λ_ h=>by cases h)
 next p=>
 split
 next h=>exact .both (b h Z) Z Z Z Z Z
 next i=>
 split
 next h=>exact .both (b h Z) Z Z Z Z Z
 next m=>
 split
 next h=>
  split
  ·exact .rd (b h Z) Z Z Z
  ·exact .both (b h Z) Z Z Z Z Z
 next g=>
 have d:Ug x.op=false:=by simp[Ug,j,i,m,g]
 split
 ·exact .quiet d (λe h=>by rw[Ay.1 h])
 ·exact .quiet d (λ_ h=>by cases h)
theorem XbK{E:List Ev}(h:∀e∈E,e.kind≠2):∀M:By,E.foldl wrE M=M:=by
 induction E with
 |nil=>exact λ_=>rfl
 |cons e E c=>
  intro M
  rw[Fa,show wrE M e=M by unfold wrE;rw[if_neg (h e (by simp))]]
  exact c (λd b=>h d (by simp[b])) M
theorem B0(N c:Nat)(r:Rl)(rs:List Rl)(A:Option Addr)(w0:World)(E:RowsAt w0 A 49 (rs.map Rl.cells))(I:RlN N r)(v:∀q∈rs,RlN N q)(Q:rs.length<=10):
 Calls prog 78 #[.agg r.cells.toArray,.slice A rs.length c] w0 λe D=>∃q:Rl,RlN N q/\(∀i j,q.has i j=(r.has i j||rs.any λp=>p.has i j))/\e=.returned (.agg q.cells.toArray)/\Below w0.heap.size w0 D:=by
 refine Vb func78 ntmps78 λH a F=>?_
 refine gg 2 λa F=>?_
 refine zBx H F λs a w F H=>?_
 refine zAl zeroValue58 H F λt a w F H=>?_
 refine gg 1 λa F=>?_
 replace H:Own w0 none w [.blk t (zR 0).cells 58,.blk s r.cells 58]:=H
 refine gg 8 λa F=>?_
 refine cLoopS [2,4,7,8] (λm o w=>∃(k:Nat)(q:Rl),m=rs.length-k/\o=[(9,Ve ((k:Nat):Int))]/\k<=rs.length/\RlN N q/\(∀i j,q.has i j=(r.has i j||(rs.take k).any λp=>p.has i j))/\Own w0 none w [.blk t (zR 0).cells 58,.blk s q.cells 58]) F (rs.length) [(9,Ve ((0:Nat):Int))] ?_ ?_
 ·exact⟨0,r,Z,Z,AU _,I,λi j=>by simp,H⟩
 clear F H;intro m o a w G F
 obtain⟨k,q,rfl,rfl,L,u,g,H⟩:=G
 refine gg 6 λa F=>zi (λy=>?_) λy=>?_
 ·
  have b:k<rs.length:=O
  obtain⟨p,z⟩:∃p,rs[k]?=some p:=⟨_,AA b⟩
  obtain⟨M,P,rfl,K⟩:=E k p.cells (by rw[AD,z];rfl)
  have d:=v p (AF z)
  obtain⟨J,B⟩:=or_ok u d
  refine gg 6 λa F=>?_
  refine sLr underlying58 Z ?si F Z Z Z (H.argR K) ?_
  case si=>rw[Rl.len];exact VT sizeOf58
  clear F a;intro a F
  refine zAl zeroValue58 H F λC a w F H=>?_
  refine sSr H 0 ?si F Z Z Z ?s1 Z Z ?_
  case si=>rw[Rl.len];exact VT sizeOf58
  case s1=>exact Gr _
  clear H;intro w H
  refine gg 1 λa F=>?_
  replace H:Own w0 none w [.blk C (VZ (zR 0).cells 0 p.cells) 58,.blk t (zR 0).cells 58,.blk s q.cells 58]:=H
  rw[Us (Rl.len _)]at H
  refine gg 1 λa F=>?_
  refine sLr underlying58 Z ?si F Z Z Z (H.whole 2 Z) ?_
  case si=>rw[Rl.len];exact VT sizeOf58
  clear F a;intro a F
  refine sLr underlying58 Z ?si F Z Z Z (H.whole 0 Z) ?_
  case si=>rw[Rl.len];exact VT sizeOf58
  clear F a;intro a F
  refine zCa F (XhH q p N _ u.ok d.ok u.n d.n) H λa w F H=>?_
  refine gg 3 λa F=>?_
  refine sSr H 2 ?si F Z Z Z ?s1 Z Z ?_
  case si=>rw[Rl.len];exact VT sizeOf58
  case s1=>exact Gr _
  clear H;intro w H
  refine gg 1 λa F=>?_
  replace H:Own w0 none w [.blk C p.cells 58,.blk t (zR 0).cells 58,.blk s (VZ q.cells 0 (rlF N λi=>q.to i|||p.to i).cells) 58]:=H
  rw[Us (Rl.len _)]at H
  refine gg 4 λa F=>?_
  refine⟨_,O,_,⟨k+1,_,Z,Z,O,J,λi j=>?_,H.tail⟩,F.tt⟩
  rw[B,g,At,z,FW,List.any_append,Bool.or_assoc];simp
 have b:k=rs.length:=O
 refine gg 3 λa F=>?_
 refine sLr underlying58 Z ?si F Z Z Z (H.whole 1 Z) ?_
 case si=>rw[Rl.len];exact VT sizeOf58
 clear F a;intro a F
 refine sSr H 0 ?si F Z Z Z ?s1 Z Z ?_
 case si=>exact VT sizeOf58
 case s1=>rfl
 clear H;intro w H
 refine gg 1 λa F=>?_
 replace H:Own w0 none w [.blk t (VZ (zR 0).cells 0 q.cells) 58,.blk s q.cells 58]:=H
 rw[Us (Rl.len _)]at H
 refine gg 1 λa F=>?_
 refine Nf results78 F Z underlying58 Z H 0 Z sizeOf58 Z ?_;subst b;rw[FT]at g
 exact⟨q,u,g,Z,H.below⟩
theorem XrS(b o:Nat)(x:XcP)(w0:World)(hx:ExAt w0 b o x)(m:RelsOk x.v)(u:Tab6At w0):
 Calls prog 72 #[Vc b o] w0 λe D=>∃q:Rl,FrOk x.v q/\e=.returned (.agg q.cells.toArray)/\Below w0.heap.size w0 D:=by
 have H:=Own.start w0 none
 have E:=hx.c0
 refine VU func72 Z ntmps72 Z (λa F=>?_)
 refine gg 2 λa F=>?_
 refine zAl zeroValue58 H F λA a w F H=>?_
 refine gg 1 λa F=>?_
 replace H:Own w0 none w [.blk A (zR 0).cells 58]:=H
 refine gg 1 λa F=>?_
 refine zRO H λH=>?_
 refine gg 3 λa F=>?_
 refine Xa (k:=3) (i:=3) Z F Z Z (λw H=>rLr underlying58 Z ?si F Z (H.argR hx.rf)) H (λ_ _ _ h=>h) ?_
 case si=>rw[Rl.len];exact VT sizeOf58
 clear F a;intro a F;refine Xb 5 Z F Z (λw=>rMv F Z) H qq0 (qT 6 Z Y Z Z Z Z (λa F w H=>rNc F Z) H qq0 (Xg 7 Z Z (λa F w=>rFa (f:=3) underlying65 Z sizeOf58 Z Z F Z) H qq0 λa F=>?_))
 refine Xa (k:=7) (i:=8) Z F Z Z (λw H=>rLr underlying58 Z ?si F Z (H.argR hx.co)) H (λ_ _ _ h=>h) ?_
 case si=>rw[Rl.len];exact VT sizeOf58
 clear F a;intro a F
 refine DU F H [2] 14 [true,true,true,true,true,true,true,true,true,true,true,true,true,true,false,false] (λG t w=>∃d r,t=[(16,.agg (rlF x.v.evs.length λi=>Qp x.v.co (d.to i)).cells.toArray),(17,Ve 0),(3,Vc r 0)]/\IsBack x.v.rf d/\Own w0 none w ((.blk r (zR 0).cells 58)::G)) (by repeat(first|exact SubR.nil|(apply SubR.cons;· rfl))) ?_ (λB=>?_)
 rotate_left
 ·
  refine XcR (k:=8) (i:=4) (j:=13) Y F Z Z Z Z ?_ ?_
  ·
   refine UK call122 F Z Z (M9 x.v.rf _ m.rf.ok (u.own H)) ?_;rintro e w ⟨d,g,rfl,s⟩
   replace H:=H.grow s;clear s;have c:RlN x.v.evs.length d:=⟨g.ok m.rf.ok,g.n.trans m.rf.n⟩
   refine zq λa F=>?_
   refine V6 H ?_
   refine XcR (k:=9) (i:=9) (j:=13) Y F Z Z Z Z ?_ ?_
   ·
    refine UK call79 F Z Z (G4 d x.v.co x.v.evs.length _ c.ok m.co.ok c.n m.co.n (u.own H)) ?_;rintro e w ⟨rfl,s⟩;replace H:=H.grow s;clear s
    refine zq λa F=>?_
    refine V6 H ?_
    refine gg 3 λa F=>?_
    refine Xd (k:=13) (i:=13) Z F (oAl H zeroValue58 F Z λr a w F H=>?_);refine V6 H.tail ?_
    exact eGo B Y _ ⟨d,r,Z,g,H⟩ F.tt
   refine oAl H zeroValue58 F Z λr a w F H=>?_;refine V6 H.tail ?_
   refine zEc 9 F (G4 d x.v.co x.v.evs.length _ c.ok m.co.ok c.n m.co.n (u.own H)) H λa w F H=>?_
   refine V6 H.tail ?_;refine Xb 10 Z F Z (λw=>rMv F Z) H.tail qq0 (Xg 11 Z Z (λa F w=>Lt F Z Z) H.tail qq0 (Xg 12 Z Z (λa F w=>Lt F Z Z) H.tail qq0 λa F=>?_))
   exact eGo B Y _ ⟨d,r,Z,g,H⟩ F.tt
  refine oAl H zeroValue58 F Z λr a w F H=>?_;refine V6 H.tail ?_;refine Xd (k:=9) (i:=4) Z F (UK call122 F Z Z (M9 x.v.rf _ m.rf.ok (u.own H)) ?_);rintro e w ⟨d,g,rfl,s⟩
  replace H:=H.grow s;clear s;have c:RlN x.v.evs.length d:=⟨g.ok m.rf.ok,g.n.trans m.rf.n⟩
  refine zq λa F=>?_
  refine V6 H.tail ?_
  refine zEc 9 F (G4 d x.v.co x.v.evs.length _ c.ok m.co.ok c.n m.co.n (u.own H)) H λa w F H=>?_
  refine V6 H.tail ?_;refine Xb 10 Z F Z (λw=>rMv F Z) H.tail qq0 (Xg 11 Z Z (λa F w=>Lt F Z Z) H.tail qq0 (Xg 12 Z Z (λa F w=>Lt F Z Z) H.tail qq0 λa F=>?_))
  exact eGo B Y _ ⟨d,r,Z,g,H⟩ F.tt
 clear F H;intro t a w I F
 obtain⟨d,r,rfl,p,H⟩:=I
 refine Xd (k:=14) (i:=14) Z F (oSr H 0 ?si F Z Z ?s1 Z Z ?_)
 case si=>rw[Rl.len];exact VT sizeOf58
 case s1=>exact Gr _
 clear H;intro w H
 refine gg 3 λa F=>?_
 have c:RlN x.v.evs.length d:=⟨p.ok m.rf.ok,p.n.trans m.rf.n⟩
 obtain⟨J,C⟩:=Cz c m.co
 replace H:Own w0 none w [.blk r (VZ (zR 0).cells 0 (rlF x.v.evs.length λi=>Qp x.v.co (d.to i)).cells) 58,.blk A (zR 0).cells 58]:=H
 rw[Us (Rl.len _)]at H
 refine gg 2 λa F=>?_
 refine sLr underlying58 Z ?si F Z Z Z (H.whole 0 Z) ?_
 case si=>rw[Rl.len];exact VT sizeOf58
 clear F a;intro a F
 refine sSr H 1 ?si F Z Z Z ?s1 Z Z ?_
 case si=>rw[Rl.len];exact VT sizeOf58
 case s1=>exact Gr _
 clear H;intro w H
 refine gg 1 λa F=>?_
 replace H:Own w0 none w [.blk r (rlF x.v.evs.length λi=>Qp x.v.co (d.to i)).cells 58,.blk A (VZ (zR 0).cells 0 (rlF x.v.evs.length λi=>Qp x.v.co (d.to i)).cells) 58]:=H
 rw[Us (Rl.len _)]at H
 refine gg 1 λa F=>?_
 refine Nf results72 F Z underlying58 Z H 1 Z sizeOf58 Z ?_
 refine⟨_,⟨J,λi j=>?_⟩,Z,H.below⟩
 rw[C]
 exact⟨λ⟨k,z,y⟩=>⟨k,(p.has k i).symm.trans z,y⟩,λ⟨k,z,y⟩=>⟨k,(p.has k i).trans z,y⟩⟩
def Xmu(v:XcV)(r:Rl)(i j:Nat):Bool:=r.has i j&&match v.evs[i]?,v.evs[j]? with|some e,some f=>e.thr != f.thr|_,_=>false
theorem Xmv(b o q n i j:Nat)(x:XcP)(r:Rl)(w0:World)(hb:w0.cell? ⟨q,0,none⟩=some (Vc b o))(z:RelAt w0 n r)(hx:ExAt w0 b o x)(h48:x.v.evs.length<=48)(hi:i<x.v.evs.length)(hj:j<x.v.evs.length):
 Calls prog 136 #[Ve (i:Int),Ve (j:Int),Vc n 0,Vc q 0] w0 λe u=>e=.returned (.bool (Xmu x.v r i j))/\Below w0.heap.size w0 u:=by
 have H:=Own.start w0 none
 have c:=hx.c0
 obtain⟨e,s⟩:∃e,x.v.evs[i]?=some e:=⟨_,AA hi⟩
 obtain⟨f,p⟩:∃f,x.v.evs[j]?=some f:=⟨_,AA hj⟩
 obtain⟨D,B,d,t⟩:=hx.evs i e.cells (by rw[AD,s];rfl)
 obtain⟨C,E,m,A⟩:=hx.evs j f.cells (by rw[AD,p];rfl)
 rw[d]at m
 cases m
 rw[d]at c
 have g:Xmu x.v r i j=(r.has i j&&e.thr != f.thr):=by unfold Xmu;rw[s,p]
 refine VU func136 Z ntmps136 Z (λa F=>?_)
 refine gg 5 λa F=>?_
 refine zRO H λH=>?_
 refine gg 2 λa F=>?_
 refine zEc 2 F (EJ n 0 i j r _ (H.argR z) O O) H λa w F H=>?_
 refine gg 2 λa F=>?_
 refine F.split 10 Z (λy F=>?_) λy F=>?_
 ·
  refine Xe 4 Z F Z Z (λw H=>rLd isAgg108 F Z (H.arg hb)) H qq0 λa F=>?_
  refine gg 2 λa F=>?_
  refine Xe 7 Z F Z Z (λw H=>rLd isAgg53 F Z (H.arg c)) H qq0 λa F=>?_
  refine gg 3 λa F=>?_
  refine Xe 11 Z F Z Z (λw H=>rLd isAgg3 F Z (H.arg (t 0 _ Z))) H qq0 (qT 12 Z Y Z Z Z Z (λa F w H=>rLd isAgg108 F Z (H.arg hb)) H qq0 λa F=>?_)
  refine gg 2 λa F=>?_
  refine Xe 15 Z F Z Z (λw H=>rLd isAgg53 F Z (H.arg c)) H qq0 λa F=>?_
  refine gg 3 λa F=>?_
  refine Xe 19 Z F Z Z (λw H=>rLd isAgg3 F Z (H.arg (A 0 _ Z))) H qq0 λa F=>?_
  refine gg 6 λa F=>?_
  refine⟨?_,H.below⟩
  rw[g]
  (simp[*])
 refine gg 22 λa F=>?_
 refine⟨?_,H.below⟩
 rw[g]
 (simp[*])
theorem Xps(b o:Nat)(x:XcP)(r:Rl)(w0:World)(hx:ExAt w0 b o x)(h48:x.v.evs.length<=48)(d:RlN x.v.evs.length r):
 Calls prog 82 #[Vc b o,.agg r.cells.toArray] w0 λe A=>∃q:Rl,RlN x.v.evs.length q/\(∀i j,q.has i j=Xmu x.v r i j)/\e=.returned (.agg q.cells.toArray)/\Below w0.heap.size w0 A:=by
 refine Vb func82 ntmps82 λH a F=>?_
 refine gg 2 λa F=>?_
 refine zBx H F λg a w F H=>?_
 refine zBx H F λm a w F H=>?_
 refine zAl zeroValue58 H F λz a w F H=>?_
 refine gg 1 λa F=>?_
 replace H:Own w0 none w [.blk z (zR 0).cells 58,.blk m r.cells 58,.blk g [Vc b o] 108]:=H
 refine gg 5 λa F=>?_
 refine Xi call73 F Z (Do r.n _ (Xmu x.v r) _ (by rw[d.n];exact h48) (λi j w hi hj c=>⟨136,[],[Vc m 0,Vc g 0],Z,call136,Xmv b o g m i j x r w ((H.grow c).cell 2 Z Z) ((H.grow c).whole 1 Z) (hx.own (H.grow c)) h48 (by rw[<-d.n];exact hi) (by rw[<-d.n];exact hj)⟩)) ?_;rintro e w ⟨q,p,u,t,rfl,c⟩;replace H:=H.grow c;clear c
 refine zq λa F=>?_
 refine sSr H 0 ?si F Z Z Z ?s1 Z Z ?_
 case si=>rw[Rl.len];exact VT sizeOf58
 case s1=>exact Gr _
 clear H;intro w H
 refine gg 1 λa F=>?_
 replace H:Own w0 none w [.blk z (VZ (zR 0).cells 0 q.cells) 58,.blk m r.cells 58,.blk g [Vc b o] 108]:=H
 rw[Us (Rl.len _)]at H
 refine gg 1 λa F=>?_
 refine Nf results82 F Z underlying58 Z H 0 Z sizeOf58 Z ?_
 refine⟨q,⟨u,p.trans d.n⟩,λi j=>?_,Z,H.below⟩
 rw[t]
 cases s:Xmu x.v r i j with
 |false=>simp
 |true=>
  have B:r.has i j=true:=by unfold Xmu at s;simp only[AJ]at s;exact s.1
  have y:=d.ok.lt i j B
  simp[y.1,y.2]
def J5(b:UInt8)(e:EvT):Bool:=e.ev.kind==3&&e.ev.mode==b
def fenB(v:XcV)(b:UInt8)(i j:Nat):Prop:=∃k,v.po.has i k=true/\k∈plL v.evs (J5 b) v.evs.length/\v.po.has k j=true
theorem id_ok{n:Nat}{l:List Nat}(o:n<=48)(b:∀i∈l,i<n):RlN n (rlF n λi=>ofW l&&&bit i)/\∀i j,(rlF n λi=>ofW l&&&bit i).has i j=true↔i=j/\i∈l:=by
 have e:∀i∈l,i<64:=λi hi=>by have:=b i hi;omega
 have m:∀i j,(rlF n λi=>ofW l&&&bit i).has i j=true↔i=j/\i∈l:=λi j=>by
  show has (if i<n then _ else 0) j=true↔_
  by_cases hi:i<n
  ·rw[if_pos hi,JE,XdP e,Gx O,AJ,decide_eq_true_eq,decide_eq_true_eq]
   exact⟨λ⟨d,c⟩=>by subst c;exact⟨Z,d⟩,λ⟨d,c⟩=>by subst d;exact⟨c,Z⟩⟩
  ·rw[if_neg hi,V8]
   exact⟨λh=>(by cases h),λ⟨_,h⟩=>absurd (b i h) hi⟩
 refine⟨⟨⟨o,λi j h=>?_⟩,Z⟩,m⟩
 obtain⟨rfl,g⟩:=(m i j).1 h
 exact⟨b i g,b i g⟩
theorem LI(b o:Nat)(c:UInt8)(x:XcP)(w0:World)(hx:ExAt w0 b o x)(s:RelsOk x.v)(P:Tab6At w0):
   Calls prog 137 #[Vc b o,b8 c] w0 λe w'=>∃q:Rl,RlN x.v.evs.length q/\(∀i j,q.has i j=true↔fenB x.v c i j)/\e=.returned (.agg q.cells.toArray)/\Below w0.heap.size w0 w':=by
 have H:=Own.start w0 none
 have U:=hx.c0
 have h48:=s.l48
 have N:=hx.evs
 obtain⟨E,g⟩:∃E,x.v.evs=E:=⟨_,Z⟩
 rw[g]at U N h48;refine VU func137 Z ntmps137 Z (λa F=>?_)
 refine gg 2 λa F=>?_
 refine zAl zeroValue58 H F λK a w F H=>?_
 refine gg 1 λa F=>?_
 replace H:Own w0 none w [.blk K (zR 0).cells 58]:=H
 refine gg 12 λa F=>?_
 replace H:=H.nilRws 3 1
 refine gg 12 λa F=>?_
 refine cLoopS [0,1,4,5,23,24] (λm r w=>∃(k:Nat)(y:Option Addr)(u:Nat),m=E.length-k/\r=[(6,.slice y (plL E (J5 c) k).length u),(25,Ve ((k:Nat):Int))]/\k<=E.length/\Own w0 none w [.rws 3 1 (.slice y (plL E (J5 c) k).length u) (Uo (plL E (J5 c) k)),.blk K (zR 0).cells 58]) F (E.length) [(6,.slice none 0 0),(25,Ve ((0:Nat):Int))] ?_ ?_
 ·exact⟨0,none,0,Z,Z,AU _,H⟩
 clear F H;intro m r a w t F
 obtain⟨k,y,u,rfl,rfl,hk,H⟩:=t
 refine gg 6 λa F=>zi (λa1=>?_) λa1=>?_
 ·
  have D:k<E.length:=O
  obtain⟨e,he⟩:∃e,E[k]?=some e:=⟨_,AA D⟩
  obtain⟨bE,oE,z,hE⟩:=N k e.cells (by rw[AD,he];rfl)
  rw[z]at F
  have a4:(plL E (J5 c) k).length<=k:=GH
  have A:=N2 (f:=J5 c) he
  have G:J5 c e=(e.ev.kind==3&&e.ev.mode==c):=rfl
  refine gg 8 λa F=>?_
  refine zAl zeroValue156 H F λb8 a w F H=>?_
  refine gg 1 λa F=>?_
  refine sSr H 0 ?si F Z Z Z ?s1 Z Z ?_
  case si=>exact VT sizeOf156
  case s1=>rfl
  clear H;intro w H
  refine gg 1 λa F=>?_
  replace H:Own w0 none w [.blk b8 e.cells 156,.rws 3 1 (.slice y (plL E (J5 c) k).length u) (Uo (plL E (J5 c) k)),.blk K (zR 0).cells 58]:=H
  refine gg 6 λa F=>?_
  refine zSp 33 F (λQ F=>?_) λQ F=>?_
  ·
   have B:(e.ev.kind==3)=true:=by simpa using Q
   refine gg 7 λa F=>zi (λJ=>?_) λJ=>?_
   ·
    have I:(e.ev.mode==c)=true:=by simpa using J
    refine gg 3 λa F=>?_
    refine XeN H underlying70 sizeOf3 zeroValue3 Z F Z Z Z Z λa5 a w F H=>?_
    refine G7 (bytes:=8) H 2 underlying70 typeInfo3 Z Z Z Z Z Z F Z Z Z Z Z (H.whole 0 Z) Z ?s1 ?s2 ?_
    case s1=>rfl
    case s2=>(rw[Uz];omega)
    clear F a H;intro S a2 a w F H
    refine gg 6 λa F=>?_
    rw[<-z]at F
    (rw[G,B,I]at A
     have e1:Uo (plL E (J5 c) k)++[[Ve (k:Int)]]=Uo (plL E (J5 c) (k+1)):=by rw[A];unfold Uo;rw[Ae];rfl
     have e2:(Uo (plL E (J5 c) k)++[[Ve (k:Int)]]).length=(plL E (J5 c) (k+1)).length:=by rw[e1];exact Uz _
     rw[e2]at F;rw[e2,e1]at H
     exact⟨_,O,_,⟨k+1,S,a2,Z,Z,O,H.tail.tail⟩,F.tt⟩)
   have I:(e.ev.mode==c)=false:=by simpa using J
   refine gg 5 λa F=>?_
   rw[<-z]at F
   (have h9:plL E (J5 c) (k+1)=plL E (J5 c) k:=by
      rw[A,G]
      (rw[B,I];exact Ak _)
    rw[<-h9]at H F
    exact⟨_,O,_,⟨k+1,y,u,Z,Z,O,H.tail⟩,F.tt⟩)
  have B:(e.ev.kind==3)=false:=by simpa using Q
  refine gg 6 λa F=>?_
  refine cIfF F Z ?_
  refine gg 5 λa F=>?_
  rw[<-z]at F
  (have h9:plL E (J5 c) (k+1)=plL E (J5 c) k:=by
     rw[A,G]
     (rw[B];exact Ak _)
   rw[<-h9]at H F
   exact⟨_,O,_,⟨k+1,y,u,Z,Z,O,H.tail⟩,F.tt⟩)
 have D:k=E.length:=O
 refine gg 2 λa F=>?_
 subst D
 have hL:∀i∈plL E (J5 c) E.length,i<E.length:=λi hi=>(mem_pl.1 hi).1
 have a3:(plL E (J5 c) E.length).length<=E.length:=GH
 obtain⟨t,M⟩:=id_ok h48 hL
 refine gg 2 λa F=>?_
 refine zCa F (XlL y u (plL E (J5 c) E.length) _ (H.rowsAt 0 Z Uu O) O (λi hi=>by have:=hL i hi;omega)) H λa w F H=>?_
 refine gg 7 λa F=>?_
 refine zRO H λH=>?_
 refine gg 3 λa F=>?_
 refine Xa (k:=3) (i:=3) Z F Z Z (λw H=>rLr underlying58 Z ?si F Z (H.argR hx.po)) H (λ_ _ _ h=>h) ?_
 case si=>rw[Rl.len];exact VT sizeOf58
 clear F a;intro a F
 refine gg 2 λa F=>?_
 refine DU F H [0,4] 12 [true,true,true,true,true,true,true,true,true,true,true,true,false,false] (λX r w=>∃d,r=[(58,.agg (rlF E.length λi=>Qp (rlF E.length λi=>ofW (plL E (J5 c) E.length)&&&bit i) (x.v.po.to i)).cells.toArray),(59,Ve 0),(11,Vc d 0)]/\Own w0 none w ((.blk d (zR 0).cells 58)::X)) (by repeat(first|exact SubR.nil|(apply SubR.cons;· rfl))) ?_ (λL=>?_)
 rotate_left
 ·
  refine XcR (k:=6) (i:=6) (j:=11) Y F Z Z Z Z ?_ ?_
  ·
   refine UK call184 F Z Z (XnK E.length (ofW (plL E (J5 c) E.length)) _ h48) ?_;rintro e w ⟨rfl,C⟩;replace H:=H.grow C;clear C
   refine zq λa F=>?_
   refine V6 H ?_
   refine XcR (k:=7) (i:=7) (j:=11) Y F Z Z Z Z ?_ ?_
   ·
    refine UK call79 F Z Z (G4 x.v.po (rlF E.length λi=>ofW (plL E (J5 c) E.length)&&&bit i) E.length _ s.po.ok t.ok (g▸s.po.n) Z (P.own H)) ?_;rintro e w ⟨rfl,C⟩;replace H:=H.grow C;clear C
    refine zq λa F=>?_
    refine V6 H ?_
    refine gg 3 λa F=>?_
    refine Xd (k:=11) (i:=11) Z F (oAl H zeroValue58 F Z λd a w F H=>?_);refine V6 H.tail ?_
    exact eGo L Y _ ⟨d,Z,H⟩ F.tt
   refine oAl H zeroValue58 F Z λd a w F H=>?_;refine V6 H.tail ?_
   refine zEc 7 F (G4 x.v.po (rlF E.length λi=>ofW (plL E (J5 c) E.length)&&&bit i) E.length _ s.po.ok t.ok (g▸s.po.n) Z (P.own H)) H λa w F H=>?_
   refine V6 H.tail ?_;refine Xb 8 Z F Z (λw=>rMv F Z) H.tail qq0 (Xg 9 Z Z (λa F w=>Lt F Z Z) H.tail qq0 (Xg 10 Z Z (λa F w=>Lt F Z Z) H.tail qq0 λa F=>?_))
   exact eGo L Y _ ⟨d,Z,H⟩ F.tt
  refine oAl H zeroValue58 F Z λd a w F H=>?_;refine V6 H.tail ?_
  refine zEc 6 F (XnK E.length (ofW (plL E (J5 c) E.length)) _ h48) H λa w F H=>?_
  refine V6 H.tail ?_
  refine zEc 7 F (G4 x.v.po (rlF E.length λi=>ofW (plL E (J5 c) E.length)&&&bit i) E.length _ s.po.ok t.ok (g▸s.po.n) Z (P.own H)) H λa w F H=>?_
  refine V6 H.tail ?_;refine Xb 8 Z F Z (λw=>rMv F Z) H.tail qq0 (Xg 9 Z Z (λa F w=>Lt F Z Z) H.tail qq0 (Xg 10 Z Z (λa F w=>Lt F Z Z) H.tail qq0 λa F=>?_))
  exact eGo L Y _ ⟨d,Z,H⟩ F.tt
 clear F H;intro r a w t F
 obtain⟨d,rfl,H⟩:=t
 refine Xd (k:=12) (i:=12) Z F (oSr H 0 ?si F Z Z ?s1 Z Z ?_)
 case si=>rw[Rl.len];exact VT sizeOf58
 case s1=>exact Gr _
 clear H;intro w H
 refine gg 3 λa F=>?_
 obtain⟨hu,R⟩:=Cz (g▸s.po) t
 replace H:Own w0 none w [.blk d (VZ (zR 0).cells 0 (rlF E.length λi=>Qp (rlF E.length λi=>ofW (plL E (J5 c) E.length)&&&bit i) (x.v.po.to i)).cells) 58,.rws 3 1 (.slice y (plL E (J5 c) E.length).length u) (Uo (plL E (J5 c) E.length)),.blk K (zR 0).cells 58]:=H
 rw[Us (Rl.len _)]at H
 refine gg 1 λa F=>?_
 refine zRO H λH=>?_
 refine Xa (k:=0) (i:=0) Z F Z Z (λw H=>rLr underlying58 Z ?si F Z (H.whole 0 Z)) H (λ_ _ _ h=>h) ?_
 case si=>rw[Rl.len];exact VT sizeOf58
 clear F a;intro a F
 refine gg 3 λa F=>?_
 refine Xa (k:=4) (i:=4) Z F Z Z (λw H=>rLr underlying58 Z ?si F Z (H.argR hx.po)) H (λ_ _ _ h=>h) ?_
 case si=>rw[Rl.len];exact VT sizeOf58
 clear F a;intro a F
 refine DU F H [4] 10 [true,true,true,true,true,true,true,true,true,true,false,false] (λX r w=>∃p,r=[(67,.agg (rlF E.length λi=>Qp x.v.po ((rlF E.length λi=>Qp (rlF E.length λi=>ofW (plL E (J5 c) E.length)&&&bit i) (x.v.po.to i)).to i)).cells.toArray),(68,Ve 0),(13,Vc p 0)]/\Own w0 none w ((.blk p (zR 0).cells 58)::X)) (by repeat(first|exact SubR.nil|(apply SubR.cons;· rfl))) ?_ (λL=>?_)
 rotate_left
 ·
  refine XcR (k:=5) (i:=5) (j:=9) Y F Z Z Z Z ?_ ?_
  ·
   refine UK call79 F Z Z (G4 (rlF E.length λi=>Qp (rlF E.length λi=>ofW (plL E (J5 c) E.length)&&&bit i) (x.v.po.to i)) x.v.po E.length _ hu.ok s.po.ok Z (g▸s.po.n) (P.own H)) ?_;rintro e w ⟨rfl,C⟩;replace H:=H.grow C;clear C
   refine zq λa F=>?_
   refine V6 H ?_
   refine gg 3 λa F=>?_
   refine Xd (k:=9) (i:=9) Z F (oAl H zeroValue58 F Z λp a w F H=>?_);refine V6 H.tail ?_
   exact eGo L Y _ ⟨p,Z,H⟩ F.tt
  refine oAl H zeroValue58 F Z λp a w F H=>?_;refine V6 H.tail ?_
  refine zEc 5 F (G4 (rlF E.length λi=>Qp (rlF E.length λi=>ofW (plL E (J5 c) E.length)&&&bit i) (x.v.po.to i)) x.v.po E.length _ hu.ok s.po.ok Z (g▸s.po.n) (P.own H)) H λa w F H=>?_
  refine V6 H.tail ?_;refine Xb 6 Z F Z (λw=>rMv F Z) H.tail qq0 (Xg 7 Z Z (λa F w=>Lt F Z Z) H.tail qq0 (Xg 8 Z Z (λa F w=>Lt F Z Z) H.tail qq0 λa F=>?_))
  exact eGo L Y _ ⟨p,Z,H⟩ F.tt
 clear F H;intro r a w t F
 obtain⟨p,rfl,H⟩:=t
 refine Xd (k:=10) (i:=10) Z F (oSr H 0 ?si F Z Z ?s1 Z Z ?_)
 case si=>rw[Rl.len];exact VT sizeOf58
 case s1=>exact Gr _
 clear H;intro w H
 refine gg 3 λa F=>?_
 obtain⟨hv,V⟩:=Cz hu (g▸s.po)
 replace H:Own w0 none w [.blk p (VZ (zR 0).cells 0 (rlF E.length λi=>Qp x.v.po ((rlF E.length λi=>Qp (rlF E.length λi=>ofW (plL E (J5 c) E.length)&&&bit i) (x.v.po.to i)).to i)).cells) 58,.blk d (rlF E.length λi=>Qp (rlF E.length λi=>ofW (plL E (J5 c) E.length)&&&bit i) (x.v.po.to i)).cells 58,.rws 3 1 (.slice y (plL E (J5 c) E.length).length u) (Uo (plL E (J5 c) E.length)),.blk K (zR 0).cells 58]:=H
 rw[Us (Rl.len _)]at H
 refine gg 2 λa F=>?_
 refine sLr underlying58 Z ?si F Z Z Z (H.whole 0 Z) ?_
 case si=>rw[Rl.len];exact VT sizeOf58
 clear F a;intro a F
 refine sSr H 3 ?si F Z Z Z ?s1 Z Z ?_
 case si=>rw[Rl.len];exact VT sizeOf58
 case s1=>exact Gr _
 clear H;intro w H
 refine gg 1 λa F=>?_
 replace H:Own w0 none w [.blk p (rlF E.length λi=>Qp x.v.po ((rlF E.length λi=>Qp (rlF E.length λi=>ofW (plL E (J5 c) E.length)&&&bit i) (x.v.po.to i)).to i)).cells 58,.blk d (rlF E.length λi=>Qp (rlF E.length λi=>ofW (plL E (J5 c) E.length)&&&bit i) (x.v.po.to i)).cells 58,.rws 3 1 (.slice y (plL E (J5 c) E.length).length u) (Uo (plL E (J5 c) E.length)),.blk K (VZ (zR 0).cells 0 (rlF E.length λi=>Qp x.v.po ((rlF E.length λi=>Qp (rlF E.length λi=>ofW (plL E (J5 c) E.length)&&&bit i) (x.v.po.to i)).to i)).cells) 58]:=H
 rw[Us (Rl.len _)]at H
 refine gg 1 λa F=>?_
 refine Nf results137 F Z underlying58 Z H 3 Z sizeOf58 Z ?_
 refine⟨_,g▸hv,λi j=>?_,Z,H.below⟩
 rw[V]
 refine⟨λ⟨k,W,T⟩=>?_,λ⟨k,W,T,h3⟩=>⟨k,(R i k).2 ⟨k,W,(M k k).2 ⟨Z,g▸T⟩⟩,h3⟩⟩
 obtain⟨j,h3,h4⟩:=(R i k).1 W
 obtain⟨rfl,h5⟩:=(M j k).1 h4
 exact⟨j,h3,g.symm▸h5,T⟩
theorem Xed(b o c i j:Nat)(x:XcP)(w0:World)(hb:w0.cell? ⟨c,0,none⟩=some (Vc b o))(hx:ExAt w0 b o x)(g:RelsOk x.v)(hi:i<x.v.evs.length)(hj:j<x.v.evs.length):
 Calls prog 74 #[Ve (i:Int),Ve (j:Int),Vc c 0] w0 λe d=>e=.returned (.bool (x.v.po.has i j&&Xbm x.v.evs i j))/\Below w0.heap.size w0 d:=by
 have H:=Own.start w0 none
 have h48:=g.l48
 refine VU func74 Z ntmps74 Z (λa F=>?_)
 refine gg 11 λa F=>?_
 refine zCa F (EJ b (o+1) i j x.v.po _ (H.argR hx.po) O O) H λa w F H=>?_
 refine gg 1 λa F=>?_
 refine F.split 12 Z (λm F=>?_) λm F=>?_
 ·
  refine gg 3 λa F=>?_
  refine zCa F (Xi8 b o i j x _ (hx.own H) hi hj) H λa w F H=>?_
  refine gg 5 λa F=>?_
  refine⟨?_,H.below⟩
  (simp[*])
 refine gg 9 λa F=>?_
 refine⟨?_,H.below⟩
 (simp[*])
structure ScAt (w:World) (b:Nat) (x:XcP) (q:Rl):Prop where
 x:ExAt w b 0 x
 q:w.rangeAt b 333 q.cells
theorem ScAt.own{w0 w:World}{c:List Res}{b:Nat}{x:XcP}{q:Rl}(h:ScAt w0 b x q)(H:Own w0 none w c):ScAt w b x q:=⟨h.x.own H,H.argR h.q⟩
def Ek(E:List EvT)(i:Nat)(k:UInt8):Bool:=match E[i]? with|some e=>e.ev.kind==k|none=>false
def Xac(E:List EvT)(i:Nat)(k:UInt8):Bool:=match E[i]? with|some e=>e.ev.mode==k|none=>false
def Xqe(E:List EvT)(q:Rl)(i j:Nat):Bool:=q.has i j||Xac E i 3||Xac E j 3
def Xqz(E:List EvT)(q:Rl)(i j:Nat):Bool:=Ek E i 1||Ek E j 2||Xqe E q i j
def CQ(M:UInt8)(E:List EvT)(q:Rl)(i j:Nat):Bool:=M==2||Xqz E q i j
section
variable(b i j:Nat)(x:XcP)(q:Rl)(w0:World)(hx:ScAt w0 b x q)(hi:i<x.v.evs.length)
include hx hi
theorem Xlw:Calls prog 188 #[Vc b 0,Ve (i:Int)] w0 λe n=>e=.returned (.bool (Ek x.v.evs i 1))/\Below w0.heap.size w0 n:=by
 have H:=Own.start w0 none
 have c:=hx.x.c0
 obtain⟨e,j⟩:∃e,x.v.evs[i]?=some e:=⟨_,AA hi⟩
 obtain⟨p,o,d,m⟩:=hx.x.evs i e.cells (by rw[AD,j];rfl)
 rw[d]at c
 have g:Ek x.v.evs i 1=(e.ev.kind==1):=by unfold Ek;rw[j]
 refine VU func188 Z ntmps188 Z (λa F=>?_)
 refine gg 10 λa F=>?_
 refine zLd F (H.arg c) λa F=>?_
 refine gg 3 λa F=>?_
 refine zLd F (H.arg (m 1 _ Z)) λa F=>?_
 refine gg 5 λa F=>?_
 exact⟨by rw[g],H.below⟩
theorem Xhp:Calls prog 189 #[Vc b 0,Ve (i:Int)] w0 λe n=>e=.returned (.bool (Ek x.v.evs i 2))/\Below w0.heap.size w0 n:=by
 have H:=Own.start w0 none
 have c:=hx.x.c0
 obtain⟨e,j⟩:∃e,x.v.evs[i]?=some e:=⟨_,AA hi⟩
 obtain⟨p,o,d,m⟩:=hx.x.evs i e.cells (by rw[AD,j];rfl)
 rw[d]at c
 have g:Ek x.v.evs i 2=(e.ev.kind==2):=by unfold Ek;rw[j]
 refine VU func189 Z ntmps189 Z (λa F=>?_)
 refine gg 10 λa F=>?_
 refine zLd F (H.arg c) λa F=>?_
 refine gg 3 λa F=>?_
 refine zLd F (H.arg (m 1 _ Z)) λa F=>?_
 refine gg 5 λa F=>?_
 exact⟨by rw[g],H.below⟩
theorem BN:Calls prog 193 #[Vc b 0,Ve (i:Int),b8 3] w0 λe n=>e=.returned (.bool (Xac x.v.evs i 3))/\Below w0.heap.size w0 n:=by
 have H:=Own.start w0 none
 have c:=hx.x.c0
 obtain⟨e,m⟩:∃e,x.v.evs[i]?=some e:=⟨_,AA hi⟩
 obtain⟨q,p,g,j⟩:=hx.x.evs i e.cells (by rw[AD,m];rfl)
 rw[g]at c
 have d:Xac x.v.evs i 3=(e.ev.mode==3):=by unfold Xac;rw[m]
 refine VU func193 Z ntmps193 Z (λa F=>?_)
 refine gg 10 λa F=>?_
 refine zLd F (H.arg c) λa F=>?_
 refine gg 3 λa F=>?_
 refine zLd F (H.arg (j 4 _ Z)) λa F=>?_
 refine gg 3 λa F=>?_
 refine zSp 18 F (λo F=>?_) λo F=>?_
 ·
  refine gg 15 λa F=>?_
  refine⟨?_,H.below⟩
  rw[d]
  (simp[*])
 refine gg 4 λa F=>?_
 refine zLd F (H.arg c) λa F=>?_
 refine gg 3 λa F=>?_
 refine zLd F (H.arg (j 4 _ Z)) λa F=>?_
 refine gg 6 λa F=>?_
 refine⟨?_,H.below⟩
 rw[d]
 done
variable(hj:j<x.v.evs.length)(h48:x.v.evs.length<=48)
include hj h48
theorem XkA:Calls prog 190 #[Vc b 0,Ve (i:Int),Ve (j:Int)] w0 λe g=>e=.returned (.bool (Xqe x.v.evs q i j))/\Below w0.heap.size w0 g:=by
 have H:=Own.start w0 none
 have c:=hx.q
 have m:=hx.x.c0
 refine VU func190 Z ntmps190 Z (λa F=>?_)
 refine gg 11 λa F=>?_
 refine zCa F (EJ b 333 i j q _ (H.argR c) O O) H λa w F H=>?_
 refine gg 1 λa F=>?_
 refine F.split 13 Z (λd F=>?_) λd F=>?_
 ·
  refine gg 13 λa F=>?_
  refine⟨?_,H.below⟩
  unfold Xqe
  (simp[*])
 refine gg 2 λa F=>?_
 refine zCa F (BN b i x q _ (hx.own H) hi) H λa w F H=>?_
 refine gg 2 λa F=>?_
 refine F.split 18 Z (λn F=>?_) λn F=>?_
 ·
  refine gg 8 λa F=>?_
  refine⟨?_,H.below⟩
  unfold Xqe
  (simp[*])
 refine gg 2 λa F=>?_
 refine zCa F (BN b j x q _ (hx.own H) hj) H λa w F H=>?_
 refine gg 5 λa F=>?_
 refine⟨?_,H.below⟩
 unfold Xqe
 (simp[*])
theorem Xis:Calls prog 187 #[Vc b 0,Ve (i:Int),Ve (j:Int)] w0 λe c=>e=.returned (.bool (CQ 3 x.v.evs q i j))/\Below w0.heap.size w0 c:=by
 have H:=Own.start w0 none
 have g:=hx.x.c0
 refine VU func187 Z ntmps187 Z (λa F=>?_)
 refine gg 8 λa F=>?_
 refine zCa F (Xlw b i x q _ (hx.own H) hi) H λa w F H=>?_
 refine gg 1 λa F=>?_
 refine F.split 10 Z (λd F=>?_) λd F=>?_
 ·
  refine gg 14 λa F=>?_
  refine⟨?_,H.below⟩
  unfold CQ Xqz
  (simp[*])
 refine gg 2 λa F=>?_
 refine zCa F (Xhp b j x q _ (hx.own H) hj) H λa w F H=>?_
 refine gg 2 λa F=>?_
 refine F.split 15 Z (λm F=>?_) λm F=>?_
 ·
  refine gg 9 λa F=>?_
  refine⟨?_,H.below⟩
  unfold CQ Xqz
  (simp[*])
 refine gg 3 λa F=>?_
 refine zCa F (XkA b i j x q _ (hx.own H) hi hj h48) H λa w F H=>?_
 refine gg 5 λa F=>?_
 refine⟨?_,H.below⟩
 unfold CQ Xqz
 (simp[*])
end
theorem Xit(b i j:Nat)(x:XcP)(q:Rl)(w0:World):Va 186 #[Vc b 0,Ve (i:Int),Ve (j:Int)] w0 (.bool (CQ 2 x.v.evs q i j)):=by
 refine Vb func186 ntmps186 λH a F=>?_
 refine gg 10 λa F=>?_
 exact⟨Z,H.below⟩
def fnV(f:Nat):Value:=.func (.func f) #[] #[]
def rulesC:List Value:=[.nilFunc,fnV 185,fnV 186,fnV 187,fnV 191,fnV 192,fnV 194]
theorem Xiq(w0:World):Va 138 #[] w0 (.agg rulesC.toArray):=by
 refine Vb func138 ntmps138 λH a F=>?_
 refine gg 2 λa F=>?_
 refine zAl zeroValue246 H F λc a w F H=>?_
 refine gg 1 λa F=>?_
 replace H:Own w0 none w [.blk c (List.replicate 7 .nilFunc) 246]:=H
 refine gg 2 λa F=>?_
 refine sBd (places:=[(0,1)]) zeroValue245 underlying245 Y F Z Z Z Z (qBd (places:=[(0,1)]) zeroValue245 underlying245 Y Z Z Z Z (qBd (places:=[(0,1)]) zeroValue245 underlying245 Y Z Z Z Z (qBd (places:=[(0,1)]) zeroValue245 underlying245 Y Z Z Z Z (qBd (places:=[(0,1)]) zeroValue245 underlying245 Y Z Z Z Z (qBd (places:=[(0,1)]) zeroValue245 underlying245 Y Z Z Z Z (qBa zeroValue246 underlying246 sizeOf245 Z Z Z Z λa F=>?_))))))
 refine sSr H 0 ?si F Z Z Z ?s1 Z Z ?_
 case si=>exact VT sizeOf246
 case s1=>rfl
 clear H;intro w H
 refine gg 2 λa F=>?_
 refine Nf results138 F Z underlying246 Z H 0 Z sizeOf246 Z ?_
 exact⟨Z,H.below⟩
def XbW(M:UInt8)(v:XcV)(q:Rl)(i j:Nat):Bool:=v.po.has i j&&XkR v.evs i&&XkR v.evs j&&CQ M v.evs q i j
theorem Xir{M:UInt8}(d:M=2\/M=3):∃g,rulesC[M.toNat]?=some (fnV g)/\∀(b i j:Nat)(x:XcP)(q:Rl)(w0:World),ScAt w0 b x q->i<x.v.evs.length->j<x.v.evs.length->x.v.evs.length<=48->JL prog (fnV g) [Vc b 0,Ve (i:Int),Ve (j:Int)] w0 λe c=>e=.returned (.bool (CQ M x.v.evs q i j))/\Below w0.heap.size w0 c:=by
 rcases d with rfl|rfl
 ·exact⟨_,Z,λb i j x q w0 hx hi hj h48=>⟨_,[],[],Z,call186,Xit b i j x q w0⟩⟩
 ·exact⟨_,Z,λb i j x q w0 hx hi hj h48=>⟨_,[],[],Z,call187,Xis b i j x q w0 hx hi hj h48⟩⟩
theorem Xjy(b u p t i j:Nat)(M:UInt8)(x:XcP)(q:Rl)(w0:World)(r:M=2\/M=3)(hb:w0.cell? ⟨u,0,none⟩=some (Vc b 0))(I:w0.rangeAt p 0 rulesC)(hm:w0.cell? ⟨t,0,none⟩=some (b8 M))(hx:ScAt w0 b x q)(D:RelsOk x.v)(hi:i<x.v.evs.length)(hj:j<x.v.evs.length):
 Calls prog 139 #[Ve (i:Int),Ve (j:Int),Vc u 0,Vc p 0,Vc t 0] w0 λe z=>e=.returned (.bool (XbW M x.v q i j))/\Below w0.heap.size w0 z:=by
 have H:=Own.start w0 none
 have h48:=D.l48
 have o:=hx.x.c0
 obtain⟨e,y⟩:∃e,x.v.evs[i]?=some e:=⟨_,AA hi⟩
 obtain⟨f,s⟩:∃f,x.v.evs[j]?=some f:=⟨_,AA hj⟩
 obtain⟨Q,K,n,P⟩:=hx.x.evs i e.cells (by rw[AD,y];rfl)
 obtain⟨L,R,m,N⟩:=hx.x.evs j f.cells (by rw[AD,s];rfl)
 rw[n]at m
 cases m
 rw[n]at o
 obtain⟨g,A,d⟩:=Xir r
 have B:M.toNat<7:=by rcases r with rfl|rfl<;>decide
 have J:w0.cell? ⟨p,0+M.toNat*1+0,none⟩=some (fnV g):=by rw[FZ];exact I M.toNat _ A
 have c:XbW M x.v q i j=(x.v.po.has i j&&XkQ e&&XkQ f&&CQ M x.v.evs q i j):=by unfold XbW XkR;rw[y,s]
 refine VU func139 Z ntmps139 Z (λa F=>?_)
 refine gg 5 λa F=>?_
 refine zRO H λH=>?_
 refine gg 6 λa F=>?_
 refine zEc 6 F (EJ b 1 i j x.v.po _ (H.argR hx.x.po) O O) H λa w F H=>?_
 refine gg 2 λa F=>?_
 refine F.split 15 Z (λC F=>?_) λC F=>?_
 ·
  refine gg 8 λa F=>?_
  refine zEc 16 F (NB e _) H λa w F H=>?_
  refine gg 3 λa F=>?_
  refine F.split 26 Z (λE F=>?_) λE F=>?_
  ·
   refine gg 8 λa F=>?_
   refine zEc 27 F (NB f _) H λa w F H=>?_
   refine gg 3 λa F=>?_
   refine F.split 37 Z (λG F=>?_) λG F=>?_
   ·
    refine gg 1 λa F=>?_
    refine Xf (k:=31) (i:=31) Z F Z (λw=>rIa underlying246 sizeOf245 F Z Z ?_) H (λ_ _ _ h=>h) ?_
    focus(omega)
    clear F a;intro a F
    refine gg 5 λa F=>?_
    refine Xd (k:=37) (i:=37) Z F (BZ F Z Z Z (d b i j x q _ (hx.own H) hi hj h48) ?_);rintro e w ⟨rfl,hb⟩;replace H:=H.grow hb;clear hb
    refine zq λa F=>?_
    refine gg 6 λa F=>?_
    refine⟨?_,H.below⟩
    rw[c]
    (simp[*])
   refine gg 13 λa F=>?_
   refine⟨?_,H.below⟩
   rw[c]
   (simp[*])
  refine gg 24 λa F=>?_
  refine⟨?_,H.below⟩
  rw[c]
  (simp[*])
 refine gg 35 λa F=>?_
 refine⟨?_,H.below⟩
 rw[c]
 (simp[*])
def scC(x:XcP)(q r s:Rl):List Value:=x.cells++(q.cells++(r.cells++s.cells))
section
variable{x:XcP}{q r s t:Rl}
theorem XqI:(scC x q r s).length=480:=by unfold scC;rw[AK,AK,AK,XcP.len,Rl.len,Rl.len,Rl.len]
theorem Xig{o:Nat}(h:o+49<=480):Nat.ble (o+t.cells.length) (scC x q r s).length=true:=by rw[XqI,Rl.len];exact FR h
theorem XoI:VZ (scC x q r s) 333 t.cells=scC x t r s:=by
 have h:=QU (p:=x.cells) (z:=q.cells) (s:=r.cells++s.cells) (n:=333) (o:=0) (r:=t.cells) (XcP.len x) (by rw[Rl.len,Rl.len];omega)
 rw[Us (Rl.len _)]at h
 exact h
theorem XoH:VZ (scC x q r s) 382 t.cells=scC x q t s:=by
 have h:=QU (p:=x.cells++q.cells) (z:=r.cells) (s:=s.cells) (n:=382) (o:=0) (r:=t.cells) (by rw[AK,XcP.len,Rl.len]) (by rw[Rl.len,Rl.len];omega)
 rw[Us (Rl.len _),AO,AO]at h
 exact h
theorem XoG:VZ (scC x q r s) 431 t.cells=scC x q r t:=by
 have h:=QU (p:=x.cells++(q.cells++r.cells)) (z:=s.cells) (s:=[]) (n:=431) (o:=0) (r:=t.cells) (by rw[AK,AK,XcP.len,Rl.len,Rl.len]) (by rw[Rl.len,Rl.len];omega)
 rw[Us (Rl.len _),Ak,Ak,AO,AO,AO,AO]at h
 exact h
theorem sc_at{w:World}{b:Nat}(h:w.rangeAt b 0 (scC x q r s))(d:RowsAt w x.A 7 (x.v.evs.map EvT.cells)):ScAt w b x q where
 x:=⟨λj v hj=>h j v (by unfold scC;rw[AP (AB.1 hj).1];exact hj),d⟩
 q:=by
  have c:=Jc (pre:=x.cells) (cs:=q.cells) (post:=r.cells++s.cells) (k:=333) h (XcP.len x)
  rw[As]at c
  exact c
theorem Xms{zs:List Value}(b:zs=(zX 0).cells++((zR 0).cells++((zR 0).cells++(zR 0).cells))):JF (λi=>([(0,333),(333,49),(382,49),(431,49)]:List (Nat×Nat))[i]?) zs [(0,.agg x.cells.toArray)]=some (scC x (zR 0) (zR 0) (zR 0)):=by
 have c:(Value.agg x.cells.toArray).cells.toList=x.cells:=by simp[Value.cells]
 have d:zs.length=480:=by rw[b,AK,AK,AK,Xc.len,Rl.len]
 show(bif Nat.beq (Value.agg x.cells.toArray).cells.toList.length 333&&Nat.ble (0+(Value.agg x.cells.toArray).cells.toList.length) zs.length then some (VZ zs 0 (Value.agg x.cells.toArray).cells.toList)else none)=_
 rw[c,XcP.len,d,b]
 have h:=QU (p:=[]) (z:=(zX 0).cells) (s:=(zR 0).cells++((zR 0).cells++(zR 0).cells)) (n:=0) (o:=0) (r:=x.cells) Z (by rw[XcP.len,Xc.len];omega)
 rw[Xh4 (Xc.len _),FI,FI]at h
 rw[h];rfl
end
def XkS(M:UInt8)(v:XcV)(p:Rl):Prop:=∃q:Rl,(∀i j,q.has i j=true↔fenB v 3 i j)/\∀i j,p.has i j=XbW M v q i j
theorem XbJ(b o:Nat)(M:UInt8)(x:XcP)(w0:World)(Q:M=2\/M=3)(hx:ExAt w0 b o x)(m:RelsOk x.v)(B:Tab6At w0):
 Calls prog 83 #[b8 M,Vc b o] w0 λe N=>∃p:Rl,RlN x.v.evs.length p/\XkS M x.v p/\e=.returned (.agg p.cells.toArray)/\Below w0.heap.size w0 N:=by
 have H:=Own.start w0 none
 have P:=hx.c0
 have J:=hx.cells
 have h48:=m.l48
 refine VU func83 Z ntmps83 Z (λa F=>?_)
 refine gg 2 λa F=>?_
 refine zBx H F λr a w F H=>?_
 refine zAl zeroValue58 H F λt a w F H=>?_
 refine gg 1 λa F=>?_
 replace H:Own w0 none w [.blk t (zR 0).cells 58,.blk r [b8 M] 5]:=H
 refine gg 4 λa F=>?_
 refine sLr underlying65 Z ?si F Z Z Z (H.argR J) ?_
 case si=>rw[XcP.len];exact VT sizeOf65
 clear F a;intro a F;refine sBd (cs:=scC x (zR 0) (zR 0) (zR 0)) (places:=[(0,333),(333,49),(382,49),(431,49)]) zeroValue241 underlying241 Y F Z Z Z (Xms Y) λa F=>?_
 refine zBx H F λc a w F H=>?_
 refine zAl zeroValue239 H F λs a w F H=>?_
 refine zSt H 0 F λw H=>?_
 refine gg 1 λa F=>?_
 replace H:Own w0 none w [.blk s [Vc c 0] 239,.blk c (scC x (zR 0) (zR 0) (zR 0)) 241,.blk t (zR 0).cells 58,.blk r [b8 M] 5]:=H
 refine gg 1 λa F=>?_
 refine cRegRO Y (H.sel [0,2,3] Z Z) ?_;replace H:=H.drew;refine Xe 0 Z F Z Z (λw H=>rLd isAgg239 F Z (H.cell 0 Z Z)) (H.sel [0,2,3] Z Z) qq0 (qT 1 Z Y Z Z Z Z (λa F w H=>rLd isAgg239 F Z (H.cell 0 Z Z)) (H.sel [0,2,3] Z Z) qq0 (qT 2 Z Y Z Z Z Z (λa F w H=>rLd isAgg239 F Z (H.cell 0 Z Z)) (H.sel [0,2,3] Z Z) qq0 (Xg 3 Z Z (λa F w=>rMv F Z) (H.sel [0,2,3] Z Z) qq0 (Xg 5 Z Z (λa F w=>rMv F Z) (H.sel [0,2,3] Z Z) qq0 (Xg 7 Z Z (λa F w=>rMv F Z) (H.sel [0,2,3] Z Z) qq0 λa F=>?_)))));refine Xd (k:=6) (i:=4) Z F (UK call137 F Z Z (LI b o 3 x _ (hx.own H) m (B.own H)) ?_);rintro e w ⟨g,T,u,rfl,d⟩;replace H:=H.grow d;clear d
 refine zq λa F=>?_
 refine V6 (H.sel [0,2,3] Z Z) ?_;refine Xd (k:=7) (i:=6) Z F (UK call137 F Z Z (LI b o 4 x _ (hx.own H) m (B.own H)) ?_);rintro e w ⟨E,U,K,rfl,d⟩;replace H:=H.grow d;clear d
 refine zq λa F=>?_
 refine V6 (H.sel [0,2,3] Z Z) ?_;refine Xd (k:=8) (i:=8) Z F (UK call137 F Z Z (LI b o 5 x _ (hx.own H) m (B.own H)) ?_);rintro e w ⟨C,S,L,rfl,d⟩;replace H:=H.grow d;clear d
 refine zq λa F=>?_
 refine V6 (H.sel [0,2,3] Z Z) ?_;refine Xe 9 Z F Z Z (λw H=>rNc F Z) (H.sel [0,2,3] Z Z) qq0 (Xg 10 Z Z (λa F w=>rFa (f:=1) (k:=333) underlying241 Z sizeOf58 Z Z F Z) (H.sel [0,2,3] Z Z) qq0 λa F=>?_)
 refine Xd (k:=11) (i:=11) Z F (oSr H 1 ?si F Z Z ?s1 Z (Xig O) ?_)
 case si=>rw[Rl.len];exact VT sizeOf58
 case s1=>exact Gr _
 clear H;intro w H;rw[XoI]at H;refine V6 (H.sel [0,2,3] Z Z) ?_;refine Xe 12 Z F Z Z (λw H=>rNc F Z) (H.sel [0,2,3] Z Z) qq0 (Xg 13 Z Z (λa F w=>rFa (f:=2) (k:=382) underlying241 Z sizeOf58 Z Z F Z) (H.sel [0,2,3] Z Z) qq0 λa F=>?_)
 refine Xd (k:=14) (i:=14) Z F (oSr H 1 ?si F Z Z ?s1 Z (Xig O) ?_)
 case si=>rw[Rl.len];exact VT sizeOf58
 case s1=>exact Gr _
 clear H;intro w H;rw[XoH]at H;refine V6 (H.sel [0,2,3] Z Z) ?_;refine Xe 15 Z F Z Z (λw H=>rNc F Z) (H.sel [0,2,3] Z Z) qq0 (Xg 16 Z Z (λa F w=>rFa (f:=3) (k:=431) underlying241 Z sizeOf58 Z Z F Z) (H.sel [0,2,3] Z Z) qq0 λa F=>?_)
 refine Xd (k:=17) (i:=17) Z F (oSr H 1 ?si F Z Z ?s1 Z (Xig O) ?_)
 case si=>rw[Rl.len];exact VT sizeOf58
 case s1=>exact Gr _
 clear H;intro w H;rw[XoG]at H
 refine gg 2 λa F=>?_
 replace H:Own w0 none w [.blk s [Vc c 0] 239,.blk c (scC x g E C) 241,.blk t (zR 0).cells 58,.blk r [b8 M] 5]:=H
 refine gg 2 λa F=>?_
 refine zCa F (Xiq _) H λa w F H=>?_
 refine zAl zeroValue246 H F λy a w F H=>?_
 refine sSr H 0 ?si F Z Z Z ?s1 Z Z ?_
 case si=>rw[show rulesC.length=7 from Z];exact VT sizeOf246
 case s1=>rfl
 clear H;intro w H
 refine gg 1 λa F=>?_
 replace H:Own w0 none w (.blk y rulesC 246::[.blk s [Vc c 0] 239,.blk c (scC x g E C) 241,.blk t (zR 0).cells 58,.blk r [b8 M] 5]):=H
 refine gg 8 λa F=>?_
 refine Xi call73 F Z (Do x.v.evs.length _ (XbW M x.v g) _ h48 (λi j w hi hj d=>⟨139,[],[Vc s 0,Vc y 0,Vc r 0],Z,call139,Xjy c s y r i j M x g w Q ((H.grow d).cell 1 Z Z) ((H.grow d).whole 0 Z) ((H.grow d).cell 4 Z Z) (sc_at ((H.grow d).whole 2 Z) (hx.evs.own (H.grow d))) m hi hj⟩)) ?_;rintro e w ⟨q,z,D,I,rfl,d⟩;replace H:=H.grow d;clear d
 refine zq λa F=>?_
 refine sSr H 3 ?si F Z Z Z ?s1 Z Z ?_
 case si=>rw[Rl.len];exact VT sizeOf58
 case s1=>exact Gr _
 clear H;intro w H
 refine gg 1 λa F=>?_
 replace H:Own w0 none w (.blk y rulesC 246::[.blk s [Vc c 0] 239,.blk c (scC x g E C) 241,.blk t (VZ (zR 0).cells 0 q.cells) 58,.blk r [b8 M] 5]):=H
 rw[Us (Rl.len _)]at H
 refine gg 1 λa F=>?_
 refine Nf results83 F Z underlying58 Z H 3 Z sizeOf58 Z ?_
 refine⟨q,⟨D,z⟩,⟨g,u,λi j=>?_⟩,Z,H.below⟩
 rw[I]
 cases G:XbW M x.v g i j with
 |false=>simp
 |true=>
  have R:x.v.po.has i j=true:=by unfold XbW at G;simp only[AJ]at G;exact G.1.1.1
  have A:=m.po.ok.lt i j R
  rw[m.po.n]at A
  simp[A.1,A.2]
end Go.Proofs.YtajfpcgbnflceaaGreatDoor
