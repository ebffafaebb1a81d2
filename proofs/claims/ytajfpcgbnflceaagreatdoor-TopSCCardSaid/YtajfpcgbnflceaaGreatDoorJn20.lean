/- Plain Lean: the events of a run of the machine, in their order. Conditions: the program is valid. -/
import Derived.Test.YtajfpcgbnflceaaGreatDoorJn19
set_option linter.unusedSimpArgs false
set_option linter.unusedVariables false
namespace Go.Proofs.YtajfpcgbnflceaaGreatDoor
set_option maxRecDepth 100000
variable{i j t:Nat}{p:Prg}
structure Tk where
 t:Nat
 k:Nat
 e:Ev
def OkT:By->List Tk->Prop
 |_,[]=>True
 |M,x::T=>(x.e.kind=1->x.e.val=M x.e.loc.toNat)/\OkT (wrE M x.e) T
def XkW(M:By)(T:List Tk):By:=(T.map Tk.e).foldl wrE M
theorem OkT.app{A B:List Tk}:∀{M:By},OkT M (A++B)↔OkT M A/\OkT (XkW M A) B:=by
 induction A with
 |nil=>exact λ{M}=>⟨λh=>⟨trivial,h⟩,λh=>h.2⟩
 |cons x A b=>exact λ{M}=>⟨λh=>⟨⟨h.1,(b.1 h.2).1⟩,(b.1 h.2).2⟩,λh=>⟨h.1.1,b.2 ⟨h.1.2,h.2⟩⟩⟩
def tks(t:Nat):Nat->List Ev->List Tk
 |_,[]=>[]
 |k,e::N=>⟨t,k,e⟩::tks t (k+1) N
theorem BJ:∀(N:List Ev)(k:Nat),(tks t k N)[j]?=(N[j]?).map (Tk.mk t (k+j)):=by
 induction j with
 |zero=>intro N k;cases N<;>rfl
 |succ j b=>
  intro N k
  cases N with
  |nil=>rfl
  |cons e N=>
   show(tks t (k+1) N)[j]?=(N[j]?).map _
   rw[b N (k+1),show k+1+j=k+(j+1) by omega]
theorem XhS{t:Nat}:∀(N:List Ev)(k:Nat),(tks t k N).length=N.length
 | [],_=>rfl
 |_::N,k=>by show(tks t (k+1) N).length+1=N.length+1;rw[XhS N]
theorem XhT{t:Nat}:∀(N:List Ev)(k:Nat),(tks t k N).map Tk.e=N
 | [],_=>rfl
 |e::N,k=>by show e::(tks t (k+1) N).map Tk.e=_;rw[XhT N]
theorem mem_tks{k:Nat}{N:List Ev}{x:Tk}:x∈tks t k N↔∃j,N[j]?=some x.e/\x.t=t/\x.k=k+j:=by
 rw[Af]
 constructor
 ·rintro⟨j,b⟩
  rw[BJ]at b
  obtain⟨e,c,rfl⟩:=FN.1 b
  exact⟨j,c,Z,Z⟩
 ·rintro⟨j,g,d,i⟩
  refine⟨j,?_⟩
  rw[BJ,g,<-d,<-i];rfl
theorem XrB{x:Ins}{v:UInt8}{N:List Ev}{M:By}{k:Nat}(h:NewF x v N)(d:Ug x.op=true->v=M x.loc.toNat):OkT M (tks t k N):=by
 cases h with
 |quiet _ b=>
  clear d
  induction N generalizing M k with
  |nil=>trivial
  |cons e N m=>exact⟨λh=>(by rw[b e IT]at h;cases h),m (λe j=>b e (IV _ j))⟩
 |rd i _ c g=>exact⟨λ_=>(by rw[g,c];exact d i),trivial⟩
 |wr _ b _=>exact⟨λh=>(by rw[b]at h;cases h),trivial⟩
 |both i _ c g n _=>exact⟨λ_=>(by rw[g,c];exact d i),λh=>(by rw[n]at h;cases h),trivial⟩
structure Tr (p:Prg) (R Z:Nat->RunP) (M:By) (T:List Tk):Prop where
 ok:OkT M T
 mem:∀x:Tk,x∈T↔x.t<p.threads.length/\(R x.t).many<=x.k/\(GL (Z x.t))[x.k]?=some x.e
 ord:T.Pairwise λa b=>a.t=b.t->a.k<b.k
 adj:∀(i:Nat)(x:Tk),T[i]?=some x->((Z x.t).att (x.k+1)).testBit x.k=true->∃e,T[i+1]?=some ⟨x.t,x.k+1,e⟩
def PreD(l:List Ins)(dom:List UInt8)(r:RunP):Prop:=∀z,PathD l dom r z->PathD l dom zRun z
theorem PathD.some{l:List Ins}{dom:List UInt8}{u:UInt8}(c:u∈dom):∀(n:Nat)(r:RunP),l.length-r.pc<=n->∃z,PathD l dom r z
 |n,r,i=>by
  cases b:l[r.pc]? with
  |none=>exact⟨r,.stop b⟩
  |some x=>
   have g:=(AB.1 b).1
   cases n with
   |zero=>omega
   |succ n=>
    cases e:Ug x.op with
    |true=>
     obtain⟨z,d⟩:=PathD.some (l:=l) c n (Ub x u r) (by have:=(JG x u r).1;omega)
     exact⟨z,.read b e c d⟩
    |false=>
     obtain⟨z,d⟩:=PathD.some (l:=l) c n (Ub x 0 r) (by have:=(JG x 0 r).1;omega)
     exact⟨z,.pass b e d⟩
theorem Xb2{n:Nat}:∀(N:List Ev){M M':By},(∀k,k<n->M k=M' k)->∀k,k<n->N.foldl wrE M k=N.foldl wrE M' k
 | [],_,_,h,k,b=>h k b
 |e::N,M,M',h,k,b=>by
  refine Xb2 N (M:=wrE M e) (M':=wrE M' e) (λi c=>?_) k b
  unfold wrE
  split
  ·unfold put
   split
   ·rfl
   ·exact h i c
  ·exact h i c
theorem Xfs{n:Nat}{dom:List UInt8}:∀(N:List Ev){M:By},(∀e∈N,e.kind=2->e.val∈dom)->(∀k,k<n->M k∈dom)->∀k,k<n->N.foldl wrE M k∈dom
 | [],_,_,h,k,b=>h k b
 |e::N,M,d,h,k,b=>by
  refine Xfs N (M:=wrE M e) (λe j=>d e (IV _ j)) (λi c=>?_) k b
  unfold wrE
  split
  next g=>
   unfold put
   split
   ·exact d e IT g
   ·exact h i c
  ·exact h i c
theorem XqA{p:Prg}{dom:List UInt8}{z:By}(hp:VX p=0)(hv:Vals p dom)(he:Ue p z=[]):∀(ts:List Nat)(s:By)(R:Nat->RunP)(M:By),Sim p s R->Xoa p s ts z->(∀k,k<6->Bk s k=M k)->(∀k,k<p.init.length->M k∈dom) ->
 (∀t l,p.threads[t]?=some l->PreD l dom (R t)/\Fresh (R t))->∃c T,(∀t l,p.threads[t]?=some l->PathD l dom (R t) (c t))/\Sim p z c/\Tr p R c M T/\∀k,k<6->Bk z k=XkW M T k
 | [],s,R,M,Q,d,hm,_,_=>by
   obtain rfl:z=s:=d
   have hR:=(XeF Q).1 he
   refine⟨R,[],λt l g=>.stop (hR t l g),Q,⟨trivial,λx=>⟨λh=>(by cases h),λh=>?_⟩,List.Pairwise.nil,λi x h=>(by simp at h)⟩,hm⟩
   have:=(AB.1 h.2.2).1
   rw[UA]at this
   omega
 |t::ts,s,R,M,Q,d,hm,hd,hR=>by
  have U:=valid hp
  obtain⟨l,x,hO⟩:=LX (Gg Q.bare.r) d.1
  have g:=hO.hl
  have V:=(AB.1 g).1
  have a8:p.init.length<=6:=by rw[U.init];exact U.locs6
  have hx:l[(R t).pc]?=some x:=by
   have a1:(s (t*9)).toNat=(R t).pc:=(Q.thr t V).pc
   rw[<-a1];exact hO.hx
  obtain⟨_,a5,a3⟩:=Xno Q g hx (Qs hp g)
  obtain⟨X,J⟩:=hR t l g
  -- what the instruction reads
  have o:Ug x.op=true->Bk s x.loc.toNat=M x.loc.toNat/\Bk s x.loc.toNat∈dom:=λK=>by
   have B:UW x.op 2=true:=by rcases XeO K with h|h|h|h<;>rw[h]<;>rfl
   have a2:=U.loc g hx B
   have e:=hm x.loc.toNat O
   exact⟨e,by rw[e];exact hd _ a2⟩
  generalize Bk s x.loc.toNat=v at *
  have q:∀z,PathD l dom (Ub x v (R t)) z->PathD l dom (R t) z:=λz L=>by
   cases K:Ug x.op with
   |true=>exact .read hx K (o K).2 L
   |false=>exact .pass hx K (by rw[<-Ea K v];exact L)
  have A:PreD l dom (Ub x v (R t)):=λz L=>X z (q z L)
  have a6:∀e∈U1 x v (R t),e.kind=2->e.val∈dom:=λe he P=>by
   have N:p.init[0]'(by rw[U.init];exact U.locs1)∈dom:=hv.init _ (Ff _)
   obtain⟨z,L⟩:=PathD.some (l:=l) N _ (Ub x v (R t)) (AI _)
   refine hv.wrote l (AF g) z (A z L) e ?_ P
   refine L.grow.subset ?_;rw[JV]
   exact IG _ he
  obtain⟨c,T,h1,h2,S,h4⟩:=XqA hp hv he ts _ _ ((U1 x v (R t)).foldl wrE M) a5 d.2 (λk P=>by rw[a3 k P];exact Xb2 (n:=6) _ hm k P) (Xfs _ a6 hd) (λu lu N=>by
   unfold Xa0
   by_cases w:u=t
   ·subst w
    rw[N]at g
    cases g
    rw[if_pos Z]
    exact⟨A,J.exec x v⟩
   ·rw[if_neg w];exact hR u lu N)
  have C:PathD l dom (Ub x v (R t)) (c t):=by
   have:=h1 t l g
   unfold Xa0 at this
   rwa [if_pos Z]at this
  have m:∀u,(Xa0 R t (Ub x v (R t)) u).many=if u=t then(R t).many+(U1 x v (R t)).length else(R u).many:=λu=>by
   unfold Xa0
   split
   ·exact Ga x v _
   ·rfl
  refine⟨c,tks t (R t).many (U1 x v (R t))++T,λu lu N=>?_,h2,⟨?_,λy=>?_,?_,λi y W B=>?_⟩,λk P=>?_⟩
  ·by_cases w:u=t
   ·subst w
    rw[N]at g
    cases g
    exact q _ C
   ·have:=h1 u lu N
    unfold Xa0 at this
    rwa [if_neg w]at this
  ·refine OkT.app.2 ⟨XrB (EH x v (R t)) λK=>(o K).1,?_⟩
   unfold XkW
   rw[XhT]
   exact S.ok
  ·rw[A8,mem_tks,S.mem,m]
   constructor
   ·rintro(⟨j,E,D,G⟩|⟨E,D,G⟩)
    ·rw[D,G]
     exact⟨V,Ia _ _,N3 C E⟩
    ·refine⟨E,?_,G⟩
     split at D
     next e=>rw[e];omega
     next=>exact D
   ·rintro⟨E,D,G⟩
    by_cases e:y.t=t
    ·rw[if_pos e]
     rcases AN y.k ((R t).many+(U1 x v (R t)).length)with h9|h9
     ·rw[e]at D G
      have g4:(U1 x v (R t))[y.k-(R t).many]?=some (U1 x v (R t))[y.k-(R t).many]:=AA O
      have g5:=N3 C g4
      rw[show(R t).many+(y.k-(R t).many)=y.k by omega,G]at g5
      exact .inl ⟨y.k-(R t).many,by rw[g4,<-g5],e,O⟩
     ·exact .inr ⟨E,h9,G⟩
    ·rw[if_neg e];exact .inr ⟨E,D,G⟩
  ·refine List.pairwise_append.2 ⟨?_,S.ord,λa ha b B a4=>?_⟩
   ·refine Ao.2 λi j hi hj a7 _=>?_
    have e1:=BJ (t:=t) (j:=i) (U1 x v (R t)) (R t).many
    have e2:=BJ (t:=t) (j:=j) (U1 x v (R t)) (R t).many
    rw[AA hi]at e1;rw[AA hj]at e2
    obtain⟨_,_,e1⟩:=FN.1 e1.symm
    obtain⟨_,_,e2⟩:=FN.1 e2.symm
    rw[<-e1,<-e2]
    show(R t).many+i<(R t).many+j
    omega
   ·obtain⟨j,E,D,G⟩:=mem_tks.1 ha
    obtain⟨_,g4,_⟩:=(S.mem b).1 B
    rw[m,if_pos (a4.symm.trans D)]at g4
    have:=(AB.1 E).1
    omega
  ·have I:=XhS (t:=t) (U1 x v (R t)) (R t).many
   rcases AN i (U1 x v (R t)).length with h9|h9
   ·rw[AP O,BJ]at W
    obtain⟨e,E,rfl⟩:=FN.1 W
    have B:((c t).att ((R t).many+i+1)).testBit ((R t).many+i)=true:=B
    rcases AN (i+1) (U1 x v (R t)).length with h8|h8
    ·rw[AP O,BJ,AA h8]
     exact⟨_,Z⟩
    ·have hf:=Fresh.free C (J.exec x v)
     rw[Ga,show(R t).many+(U1 x v (R t)).length=(R t).many+i+1 by omega]at hf;rw[hf,Ib]at B
     cases B
   ·rw[AQ O]at W
    rw[AQ O,I,show i+1-(U1 x v (R t)).length=i-(U1 x v (R t)).length+1 by omega];rw[I]at W
    exact S.adj _ y W B
  ·rw[h4 k P]
   unfold XkW
   rw[Ae,Fs,XhT]
def wrW(E:List EvT)(M:By)(i:Nat):By:=match E[i]? with|some g=>wrE M g.ev|none=>M
theorem Xeo{E:List EvT}{M:By}{g:EvT}(h:E[i]?=some g):wrW E M i=wrE M g.ev:=by unfold wrW;rw[h]
def NoW(E:List EvT)(b:Nat)(w:Nat):Prop:=∀f,E[w]?=some f->f.ev.kind=2->f.ev.loc.toNat≠b
theorem Xam{E:List EvT}{lo:Nat}:∀(W:List Nat)(M:By),(∃(j w:Nat)(f:EvT),W[j]?=some w/\E[w]?=some f/\f.ev.kind=2/\f.ev.loc.toNat=lo/\W.foldl (wrW E) M lo=f.ev.val/\∀(k b:Nat),j<k->W[k]?=some b->NoW E lo b)\/(W.foldl (wrW E) M lo=M lo/\∀b∈W,NoW E lo b)
 | [],M=>.inr ⟨Z,λ_ h=>by cases h⟩
 |w::W,M=>by
  rcases Xam W (wrW E M w)with⟨j,u,f,p,m,s,y,z,v⟩|⟨p,m⟩
  ·refine .inl ⟨j+1,u,f,p,m,s,y,z,λk b t i=>?_⟩
   cases k with
   |zero=>omega
   |succ k=>exact v k b O i
  ·have n:(w::W).foldl (wrW E) M lo=wrW E M w lo:=p
   cases i:E[w]? with
   |none=>
    refine .inr ⟨by rw[n];unfold wrW;rw[i],λb c=>?_⟩
    rcases Ap.1 c with h|h
    ·subst h;exact λf d=>by rw[i]at d;cases d
    ·exact m b h
   |some f=>
    by_cases d:f.ev.kind=2/\f.ev.loc.toNat=lo
    ·refine .inl ⟨0,w,f,Z,i,d.1,d.2,?_,λk b t c=>?_⟩
     ·rw[n,Xeo i]
      unfold wrE
      rw[if_pos d.1]
      exact if_pos d.2.symm
     ·cases k with
      |zero=>omega
      |succ k=>exact m b (AF c)
    ·refine .inr ⟨?_,λb c=>?_⟩
     ·rw[n,Xeo i]
      unfold wrE
      split
      next o=>exact if_neg (λe=>d ⟨o,e.symm⟩)
      next=>rfl
     ·rcases Ap.1 c with h|h
      ·subst h
       intro g q o r
       rw[i]at q
       cases q
       exact d ⟨o,r⟩
      ·exact m b h
structure SeqE (n:Nat) (E:List EvT) (rm:Rl) (F:By) (W:List Nat):Prop where
 nodup:W.Nodup
 mem:∀i,i∈W↔i<E.length
 head:∀i:Nat,i<n->W[i]?=some i
 rd:∀(j i:Nat)(g:EvT),W[j]?=some i->E[i]?=some g->g.ev.kind=1->∃(j' w:Nat)(f:EvT),j'<j/\W[j']?=some w/\E[w]?=some f/\f.ev.kind=2/\f.ev.loc.toNat=g.ev.loc.toNat/\f.ev.val=g.ev.val/\∀(k w':Nat),j'<k->k<j->W[k]?=some w'->NoW E g.ev.loc.toNat w'
 po:∀(a b i j:Nat),W[a]?=some i->W[b]?=some j->poB E i j=true->a<b
 adj:∀(a i j:Nat),W[a]?=some i->rm.has i j=true->W[a+1]?=some j
 fin:∀lo:Nat,lo<n->∃(j w:Nat)(f:EvT),W[j]?=some w/\E[w]?=some f/\f.ev.kind=2/\f.ev.loc.toNat=lo/\f.ev.val=F lo/\∀(k w':Nat),j<k->W[k]?=some w'->NoW E lo w'
 out:∀k,n<=k->k<6->F k=0
theorem OkT.at{T:List Tk}:∀{M:By}{j:Nat}{x:Tk},OkT M T->T[j]?=some x->x.e.kind=1->x.e.val=XkW M (T.take j) x.e.loc.toNat:=by
 induction T with
 |nil=>intro M j x _ h;simp at h
 |cons y T d=>
  intro M j x h c b
  cases j with
  |zero=>cases c;exact h.1 b
  |succ j=>exact d h.2 c b
section
variable{p:Prg}{dom:List UInt8}{ps:List PathP}{Z:Nat->RunP}{T:List Tk}{F:By}{d:List Nat}
def nrT(p:Prg)(ps:List PathP)(x:Tk):Nat:=V1 p.init ps x.t+x.k
def Dl(p:Prg)(ps:List PathP)(T:List Tk):List Nat:=List.range p.init.length++T.map (nrT p ps)
theorem Dk(h:j<p.init.length):(Dl p ps T)[j]?=some j:=by
 unfold Dl
 rw[AP (by rw[Aq];exact h),Av h]
theorem XiU(h:p.init.length<=j):(Dl p ps T)[j]?=(T[j-p.init.length]?).map (nrT p ps):=by
 unfold Dl
 rw[AQ (by rw[Aq];exact h),Aq,AD]
theorem Xrz(x:Tk):p.init.length<=nrT p ps x:=AW (Xny (ps:=ps) (t:=x.t)) (Ia _ _)
theorem Xrp(h:(Dl p ps T)[j]?=some i)(b:p.init.length<=i):p.init.length<=j:=by
 rcases AN j p.init.length with h1|h1
 ·rw[Dk h1]at h;cases h;exact b
 ·exact h1
theorem XjM{E:List EvT}:∀(T:List Tk)(M:By),(∀x∈T,E[nrT p ps x]?=some ⟨(x.t:Int),x.e⟩)->(T.map (nrT p ps)).foldl (wrW E) M=XkW M T
 | [],_,_=>rfl
 |x::T,M,h=>by
  rw[FH,Fa,Xeo (h x IT),XjM T _ λy b=>h y (IV _ b)];rfl
theorem Xb3(d:p.init.length<=6):∀m,m<=p.init.length->∀k,(List.range m).foldl (wrW (eK p ps)) zb k=if k<m then p.init.getD k 0 else 0
 |0,_,_=>rfl
 |m+1,g,k=>by
  obtain⟨y,b⟩:∃y,p.init[m]?=some y:=⟨_,AA O⟩
  have c:(eK p ps)[m]?=some ⟨-1,⟨2,UInt8.ofNat m,y,0,0,0⟩⟩:=GM b
  rw[HB,Fs,Fa,List.foldl_nil,Xeo c]
  show put _ (UInt8.ofNat m).toNat y k=_
  rw[ofN O]
  unfold put
  by_cases e:k=m
  ·subst e
   rw[if_pos Z,if_pos O,AS,b];rfl
  ·rw[if_neg e,Xb3 d m O k]
   by_cases h:k<m
   ·rw[if_pos h,if_pos O]
   ·rw[if_neg h,if_neg O]
theorem Xfr(b:p.init.length<=6){T:List Tk}(h:∀x∈T,(eK p ps)[nrT p ps x]?=some ⟨(x.t:Int),x.e⟩):(Dl p ps T).foldl (wrW (eK p ps)) zb=XkW (λk=>p.init.getD k 0) T:=by
 unfold Dl
 rw[Fs,XjM T _ h];refine congrArg (λM=>XkW M T) (funext λk=>?_);rw[Xb3 b _ (AI _) k]
 split
 ·rfl
 next h=>rw[AS,AV O];rfl
theorem XqH(hp:VX p=0)(hm:MixOk p dom ps)(S:V1 p.init ps ps.length<=48)(U:∀t l,p.threads[t]?=some l->ps[t]?=some (Ul (Z t))/\EndG p.init.length l (Z t)/\PathD l dom zRun (Z t))(B:Tr p (λ_=>zRun) Z (λk=>p.init.getD k 0) T)(hF:∀k,k<6->F k=XkW (λk=>p.init.getD k 0) T k):SeqE p.init.length (eK p ps) (Uq p.init ps d).rm F (Dl p ps T):=by
 have hV:=valid hp
 have W:p.init.length<=6:=by rw[hV.init];exact hV.locs6
 have o:∀{t:Nat},t<p.threads.length->∃l,p.threads[t]?=some l:=λh=>⟨_,AA h⟩
 have hE:∀x∈T,(eK p ps)[nrT p ps x]?=some ⟨(x.t:Int),x.e⟩:=λx m=>by
  obtain⟨n,_,h3⟩:=(B.mem x).1 m
  obtain⟨l,C⟩:=o n
  have D:=(U _ l C).1
  exact Xcc D h3 (AB.1 D).1
 have I:∀{x y:Tk},x∈T->y∈T->nrT p ps x=nrT p ps y->x.t=y.t/\x.k=y.k:=λ{x y} m z e=>by
  obtain⟨n,_,h3⟩:=(B.mem x).1 m
  obtain⟨s,_,u⟩:=(B.mem y).1 z
  obtain⟨l,C⟩:=o n
  obtain⟨l',aG⟩:=o s
  exact Xe4 (U _ l C).1 (AB.1 h3).1 (U _ l' aG).1 (AB.1 u).1 e
 have Q:∀{j i:Nat}{g:EvT},(Dl p ps T)[j]?=some i->(eK p ps)[i]?=some g->g.ev.kind=1\/g.thr ≠ -1->p.init.length<=j/\∃x,T[j-p.init.length]?=some x/\i=nrT p ps x/\g=⟨(x.t:Int),x.e⟩:=λ{j i g} n h2 h3=>by
  have N:p.init.length<=j:=by
   rcases AN j p.init.length with h4|h4
   ·rw[Dk h4]at n
    cases n
    have a9:(eK p ps)[j]?=_:=GM (ps:=ps) (j:=ps.length) (AA h4)
    rw[a9]at h2
    cases h2
    rcases h3 with h3|h3
    ·cases h3
    ·exact absurd rfl h3
   ·exact h4
  refine⟨N,?_⟩
  rw[XiU N]at n
  obtain⟨x,m,rfl⟩:=FN.1 n
  have:=hE x (AF m)
  rw[h2]at this
  exact⟨x,m,rfl,Ac this⟩
 have K:(Dl p ps T).foldl (wrW (eK p ps)) zb=_:=Xfr W hE
 refine⟨?_,λi=>⟨λL=>?_,λL=>?_⟩,λi L=>Dk L,λj i g N hg J=>?_,λa b i j M hb c=>?_,λa i j M a8=>?_,λV A=>?_,λk a4 P=>?_⟩
 ·refine List.nodup_append.2 ⟨List.nodup_range,Ig.2 ?_,λa M b hb=>?_⟩
  ·refine Ao.2 λi j L N G e=>?_
   obtain⟨n,h2⟩:=I (Ff L) (Ff N) e
   have:=Ao.1 B.ord i j L N G n
   omega
  ·obtain⟨x,_,rfl⟩:=AT.1 hb
   have:=Ab.1 M
   have:=Xrz (p:=p) (ps:=ps) x
   omega
 ·rcases A8.1 L with h|h
  ·have:=Ab.1 h
   have h2:=(MT (v:=p.init) (ps:=ps) ps.length).length_le
   rw[MN]at h2
   exact FC this h2
  ·obtain⟨x,m,rfl⟩:=AT.1 h
   exact(AB.1 (hE x m)).1
 ·rcases AN i p.init.length with h|h
  ·exact II _ (Ab.2 h)
  ·obtain⟨t,q,k,x,h2,h3,h4,h5,_⟩:=LL _ i _ h (AA L)
   obtain⟨l,C⟩:=o (t:=t) (by rw[<-hm.len];exact h2)
   have D:=(U t l C).1
   rw[h3]at D
   cases D
   exact IG _ (AT.2 ⟨⟨t,k,x⟩,(B.mem _).2 ⟨by rw[<-hm.len];exact h2,AU _,h5⟩,h4.symm⟩)
 ·obtain⟨n,x,m,rfl,rfl⟩:=Q N hg (.inl J)
  have a5:=B.ok.at m J
  have aF:(Dl p ps T).take j=Dl p ps (T.take (j-p.init.length)):=by
   unfold Dl
   rw[List.take_append,Aq,FD (by rw[Aq];exact n),List.map_take]
  have aA:((Dl p ps T).take j).foldl (wrW (eK p ps)) zb=XkW (λk=>p.init.getD k 0) (T.take (j-p.init.length)):=by
   rw[aF]
   exact Xfr W λy z=>hE y (List.mem_of_mem_take z)
  have A:x.e.loc.toNat<p.init.length:=by
   obtain⟨s,_,u⟩:=(B.mem x).1 (AF m)
   obtain⟨l,C⟩:=o s
   rcases(U _ l C).2.1.evs _ (AF u)with h2|h2
   ·exact h2.2
   ·have J:x.e.kind=1:=J
    rw[h2.1]at J;cases J
  rcases Xam (E:=eK p ps) (lo:=x.e.loc.toNat) ((Dl p ps T).take j) zb with⟨j',w,f,s,r,u,R,g5,g6⟩|⟨_,r⟩
  ·rw[FV]at s
   split at s
   next h9=>
    refine⟨j',w,f,h9,s,r,u,R,?_,λk w' a4 P hw=>g6 k w' a4 (by rw[FV,if_pos P];exact hw)⟩
    rw[<-g5,aA];exact a5.symm
   next=>cases s
  ·exfalso
   have a3:x.e.loc.toNat∈(Dl p ps T).take j:=AF (i:=x.e.loc.toNat) (by rw[FV,if_pos O,Dk A])
   refine r _ a3 _ (GM (ps:=ps) (j:=ps.length) (AA A)) rfl ?_
   exact ofN O
 ·unfold poB at c
  rw[AJ,decide_eq_true_eq]at c
  obtain⟨G,c⟩:=c
  split at c
  next e f he hf=>
   rw[AJ,beq_iff_eq,bne_iff_ne]at c
   obtain⟨n,x,m,rfl,rfl⟩:=Q M he (.inr c.1)
   obtain⟨h2,y,z,rfl,rfl⟩:=Q hb hf (.inr (by rw[c.2];exact c.1))
   have X:y.t=x.t:=by have:=c.2;simp only at this;omega
   rcases AN a b with h3|h3
   ·exact h3
   ·exfalso
    unfold nrT at G
    rw[X]at G
    rcases AN b a with h4|h4
    ·obtain⟨a1,a2⟩:=AB.1 m
     obtain⟨b1,b2⟩:=AB.1 z
     have:=Ao.1 B.ord (b-p.init.length) (a-p.init.length) b1 a1 O (by rw[a2,b2];exact X)
     rw[a2,b2]at this
     omega
    ·obtain rfl:a=b:=O
     rw[m]at z
     cases z
     omega
  next=>cases c
 ·obtain⟨t,q,y,s,r,u,rfl,rfl⟩:=(Jg S (λq D=>Gm (hm.pairs D).2.2) _ (AI _)).1 a8
  obtain⟨l,C⟩:=o (t:=t) (by rw[<-hm.len];exact s)
  obtain⟨D,hG,hP⟩:=U t l C
  rw[r]at D
  cases D
  have aC:=hm.next r u
  obtain⟨i,b,h3,h4,rfl⟩:=(JB hG.inv.sets.att _).1 u
  have aD:=(hP.invA λi k J=>(Q3 J).elim) i b h4
  have aH:=hG.many
  have a6:(MD i b).1.toNat=b:=ofN O
  rw[aC,a6];rw[a6]at M
  obtain⟨e,he⟩:∃e,(GL (Z t))[b]?=some e:=⟨_,AA (by rw[UA];omega)⟩
  have a7:=(B.mem ⟨t,b,e⟩).2 ⟨(AB.1 C).1,AU _,he⟩
  have aE:p.init.length<=a:=Xrp M (Xrz ⟨t,b,e⟩)
  rw[XiU aE]at M
  obtain⟨x,m,aB⟩:=FN.1 M
  obtain⟨e1,e2⟩:=I (AF m) a7 aB
  have e1:x.t=t:=e1
  have e2:x.k=b:=e2
  obtain⟨f,hf⟩:=B.adj _ x m (by rw[e1,e2,<-aD];exact h4)
  rw[XiU O,show a+1-p.init.length=a-p.init.length+1 by omega,hf,e1,e2];rfl
 ·rcases Xam (E:=eK p ps) (lo:=V) (Dl p ps T) zb with⟨j',w,f,s,r,u,R,g5,g6⟩|⟨_,r⟩
  ·exact⟨j',w,f,s,r,u,R,by rw[<-g5,K];exact(hF V O).symm,g6⟩
  ·exfalso
   refine r _ (AF (Dk (T:=T) (ps:=ps) A)) _ (GM (ps:=ps) (j:=ps.length) (AA A)) rfl ?_
   exact ofN O
 ·rw[hF k P,<-K]
  rcases Xam (E:=eK p ps) (lo:=k) (Dl p ps T) zb with⟨j',w,f,s,r,u,R,g5,g6⟩|⟨n,_⟩
  ·exfalso
   rcases AN w p.init.length with h2|h2
   ·obtain⟨y,z⟩:=(Xj1 hV hm S).ini w h2
    have z:(eK p ps)[w]?=_:=z
    rw[r]at z
    cases z
    have R:(UInt8.ofNat w).toNat=k:=R
    rw[ofN O]at R
    omega
   ·rcases(Xj1 hV hm S).knd w f h2 r with h3|h3
    ·omega
    ·rw[h3.1]at u;cases u
  ·exact n
end
structure Cut (p:Prg) (dom:List UInt8) (ps:List PathP) (d:List Nat) (Z:Nat->RunP) (ρ:Nat->Nat) (s:By) (R:Nat->RunP):Prop where
 sim:Sim p s R
 run:∀t l,p.threads[t]?=some l->PathD l dom (R t) (Z t)/\Fresh (R t)
 mem:∀lo,lo<p.init.length->∃w f,(eK p ps)[w]?=some f/\Ex p ps R w/\w∈rkD (eK p ps) p.init.length d lo/\Bk s lo=f.ev.val/\∀w',Ex p ps R w'->w'∈rkD (eK p ps) p.init.length d lo->w'=w\/Aft (rkD (eK p ps) p.init.length d lo) w' w
 out:∀k,p.init.length<=k->k<6->Bk s k=0
 ord:∀w g t l k e,p.init.length<=w->Ex p ps R w->(eK p ps)[w]?=some g->g.ev.kind=2->p.threads[t]?=some l->(R t).many<=k->(GL (Z t))[k]?=some e->(e.kind=1\/e.kind=2) ->
  (∀y,(Uq p.init ps d).rm.has (V1 p.init ps t+k) y=false)->ρ w<=ρ (V1 p.init ps t+k)
section
variable{p:Prg}{dom:List UInt8}{ps:List PathP}{d:List Nat}{Z R:Nat->RunP}{ρ:Nat->Nat}{s:By}{t k kk:Nat}{l:List Ins}{e:Ev}{x:Ins}{v:UInt8}
theorem Cut.le(b:Cut p dom ps d Z ρ s R)(c:p.threads[t]?=some l):(R t).many<=(Z t).many:=by
 have:=(b.run t l c).1.grow.length_le
 rwa [UA,UA]at this
theorem Cut.not(h:Cand p dom ps d Z ρ)(n:Cut p dom ps d Z ρ s R)(m:p.threads[t]?=some l)(q:(R t).many<=k)(c:k<(Z t).many):¬Ex p ps R (V1 p.init ps t+k):=by
 rintro(r|⟨u,j,i,o,e⟩)
 ·have:=Xny (v:=p.init) (ps:=ps) (t:=t);omega
 ·obtain⟨w,b⟩:=h.thr i
  have g:=n.le b
  obtain⟨rfl,rfl⟩:=h.uniq m b c O e
  omega
theorem Cut.split(h:Cand p dom ps d Z ρ){w:Nat}{f:EvT}(R:Nat->RunP)(i:(eK p ps)[w]?=some f):Ex p ps R w\/∃u l k,p.threads[u]?=some l/\(R u).many<=k/\(GL (Z u))[k]?=some f.ev/\w=V1 p.init ps u+k:=by
 rcases AN w p.init.length with h1|h1
 ·exact .inl (.inl h1)
 ·obtain⟨u,q,k,x,c,j,e,m,rfl⟩:=LL _ w f h1 i
  obtain⟨l,b⟩:=h.thr c
  have g:=(h.z u l b).1
  rw[j]at g
  cases g
  rcases AN k (R u).many with h6|h6
  ·exact .inl (.inr ⟨u,k,c,h6,e⟩)
  ·exact .inr ⟨u,l,k,b,h6,m,e⟩
theorem Cut.nxt(i:Cut p dom ps d Z ρ s R)(b:p.threads[t]?=some l):(l[(R t).pc]?=none/\Z t=R t)\/∃x v,Nxt p dom Z R t l x v:=by
 rcases(i.run t l b).1.next with h|⟨x,v,g,c,_,e⟩
 ·exact .inl h
 ·exact .inr ⟨x,v,b,g,c,e⟩
theorem Cut.due(h:Cand p dom ps d Z ρ)(G:Cut p dom ps d Z ρ s R)(i:∀u C r j b,Nxt p dom Z R u C r j->Xod p ps R ρ u r j b->kk<=b)(I:0<kk)(z:p.threads[t]?=some l)(D:(R t).many<=k)(n:(GL (Z t))[k]?=some e)(A:e.kind=1\/e.kind=2)(c:∀y,(Uq p.init ps d).rm.has (V1 p.init ps t+k) y=false):kk<=ρ (V1 p.init ps t+k)+1:=by
 rcases G.nxt z with⟨_,w⟩|⟨x,v,o⟩
 ·have:=(AB.1 n).1
  rw[UA,w]at this
  omega
 ·obtain⟨b,g⟩:=XnG p ps R ρ t x v
  have J:=i _ _ _ _ _ o g
  rcases g with⟨_,q⟩|⟨m,L,q,E,B,K⟩
  ·omega
  ·have:=o.far h q E B D n A c
   omega
theorem Cut.pick(A:Cut p dom ps d Z ρ s R)(g:∃t l,p.threads[t]?=some l/\¬l[(R t).pc]?=none):∃t l x v kk,Nxt p dom Z R t l x v/\Xod p ps R ρ t x v kk/\∀u m e c b,Nxt p dom Z R u m e c->Xod p ps R ρ u e c b->kk<=b:=by
 obtain⟨t,l,y,o⟩:=g
 rcases A.nxt y with⟨i,_⟩|⟨x,v,q⟩
 ·exact absurd i o
 ·obtain⟨kk,j⟩:=XnG p ps R ρ t x v
  obtain⟨k,⟨t,l,x,v,i,w⟩,z⟩:=least (P:=λkk=>∃t l x v,Nxt p dom Z R t l x v/\Xod p ps R ρ t x v kk) kk ⟨t,l,x,v,q,j⟩
  exact⟨t,l,x,v,k,i,w,λu m e c b n r=>z b ⟨u,m,e,c,n,r⟩⟩
theorem Cand.wr(h:Cand p dom ps d Z ρ){j w:Nat}(c:j<p.init.length):w∈rkD (eK p ps) p.init.length d j↔∃g,(eK p ps)[w]?=some g/\g.ev.kind=2/\g.ev.loc.toNat=j:=by
 rw[(h.cx.line c).mem_iff]
 constructor
 ·intro m
  obtain⟨_,g,b,e,i⟩:=NJ m
  exact⟨g,b,e,i⟩
 ·rintro⟨g,b,e,i⟩
  refine mem_pl.2 ⟨(AB.1 b).1,g,b,?_⟩
  unfold wrF
  rw[e,i,AJ]
  exact⟨rfl,beq_self_eq_true _⟩
theorem Cand.loc(h:Cand p dom ps d Z ρ)(c:p.threads[t]?=some l)(b:(GL (Z t))[k]?=some e)(hk:e.kind=1\/e.kind=2):e.loc.toNat<p.init.length:=by
 rcases(h.z t l c).2.1.evs e (AF b)with h1|h1
 ·exact h1.2
 ·rw[h1.1]at hk;rcases hk with hk|hk<;>cases hk
theorem Cut.reads(h:Cand p dom ps d Z ρ)(W:Cut p dom ps d Z ρ s R)(o:Nxt p dom Z R t l x v)(T:Xod p ps R ρ t x v kk)(a2:∀u l' x' v' a4,Nxt p dom Z R u l' x' v'->Xod p ps R ρ u x' v' a4->kk<=a4)(hr:Ug x.op=true):Bk s x.loc.toNat=v:=by
 obtain⟨e,V,hN,B,a8,aO,K⟩:=Xi5 hr v (R t)
 obtain⟨hq,hG,_,_⟩:=h.z t l o.thr
 have S:(U1 x v (R t))[0]?=some e:=by rw[hN];rfl
 have M:=N3 o.path S
 have a1:=h.ev o.thr M
 have c:=h.loc o.thr M (.inl B)
 rcases T with⟨h1,_⟩|⟨m,f,hm,hf,aA,T⟩
 ·have:=h1 e (AF S)
  rw[B]at this;cases this
 have aU:=Xi4 x v (R t)
 have L:=N3 o.path hf
 have N:=h.ev o.thr L
 have aW:ρ (V1 p.init ps t+((R t).many+0))<=ρ (V1 p.init ps t+((R t).many+m)):=by
  rcases Aw m with h0|h0
  ·rw[h0];exact AI _
  ·exact IS (h.cx.rho h.ord a1 N O (.inl B) aA)
 obtain⟨w,g,Q,J,P,aL,aM⟩:=h.ok.rfE.read _ _ a1 B
 have Q:(eK p ps)[w]?=some g:=Q
 have G:=(aM w).trans (decide_eq_true rfl)
 have aT:=h.ord w _ (.inr (.inl (by show(if(2:UInt8)=2 then _ else _)=true;exact G)))
 have P:g.ev.loc=e.loc:=P
 have aD:Ex p ps R w:=by
  rcases Cut.split h R Q with h1|⟨u,lu,k,h1,h2,h3,rfl⟩
  ·exact h1
  ·have:=W.due h a2 O h1 h2 h3 (.inr J) (h.free Q J)
   omega
 have aE:w∈rkD (eK p ps) p.init.length d e.loc.toNat:=(h.wr c).2 ⟨g,Q,J,by rw[P]⟩
 obtain⟨w1,g1,A,D,E,aC,a5⟩:=W.mem _ c
 rw[<-a8,<-aO,aC]
 rcases a5 w aD aE with h1|h1
 ·subst h1
  rw[Q]at A
  cases A
  exact aL
 ·exfalso
  obtain⟨aY,a3,a7,aR⟩:=(h.wr c).1 E
  rw[A]at a3
  cases a3
  have aG:(Uq p.init ps d).co.has w w1=true:=h.cx.co.2 ⟨_,c,h1⟩
  have aB:frB (Uq p.init ps d) (V1 p.init ps t+((R t).many+0)) w1:=⟨w,G,aG⟩
  have aS:=h.ord _ _ (.inr (.inr (.inr aB)))
  have aN:p.init.length<=w1:=by
   rcases AN w1 p.init.length with h9|h9
   ·exact absurd h1 (h.head c h9)
   ·exact h9
  have I:=λhl=>W.ord w1 g1 t l ((R t).many+m) f aN D A a7 o.thr O L aA hl
  rcases Aw m with h0|h0
  ·subst h0
   have:=I λy=>by
    rw[If]
    intro hy
    obtain⟨j,q,a,g1,g2,g3,g4,g5⟩:=(Jg h.cx.h48 (λq hq=>Gm (h.cx.hm.pairs hq).2.2) _ (AI _)).1 hy
    obtain⟨lj,n⟩:=h.thr g1
    have aF:=(h.z j lj n).1
    rw[g2]at aF
    cases aF
    have aQ:=Gm (h.cx.hm.pairs (AF g2)).2.2 a g3
    have aV:=h.cx.hm.next g2 g3
    have X:a.2.toNat<(GL (Z j)).length:=aQ.2
    rw[UA]at X
    have U:=(AB.1 M).1
    rw[UA]at U
    obtain⟨rfl,h7⟩:=h.uniq o.thr n U O g4
    obtain⟨i,b,h3,h4,rfl⟩:=(JB (h.z t lj n).2.1.inv.sets.att _).1 g3
    have aH:(UInt8.ofNat b).toNat=b:=by
     have:=(h.z t lj n).2.1.many
     exact ofN (by
      have:=((h.z t lj n).2.2.2.invA λi k hk=>(Q3 hk).elim) i b h4
      omega)
    have aX:=((h.z t lj n).2.2.2.invA λi k hk=>(Q3 hk).elim) i b h4
    have h7:(R t).many+0=(UInt8.ofNat b).toNat:=h7
    rw[aH]at h7
    have r:=Fresh.free o.path ((W.run t l o.thr).2.exec x v)
    rw[Ga,<-hm,show(R t).many+(0+1)=i by omega]at r;rw[r,Ib]at h4
    cases h4
   omega
  ·have aP:m=1:=O
   subst aP
   have aK:f∈V:=by
    rw[hN]at hf
    exact AF (i:=0) (by simpa using hf)
   obtain⟨a6,aJ⟩:=K f aK
   have aI:=h.cx.rm hq o.path O hG.inv.sets hG.many
   have a9:V1 p.init ps t+((R t).many+1)∈rkD (eK p ps) p.init.length d e.loc.toNat:=(h.wr c).2 ⟨_,N,a6,by rw[aJ,a8]⟩
   have C:=(AB.1 L).1
   rw[UA]at C
   rcases h.cx.two E a9 with h2|h2|h2
   ·subst h2
    exact W.not h o.thr O C D
   ·exact h.ato _ _ _ aI aB (h.cx.co.2 ⟨_,c,h2⟩)
   ·have h3:=h.ord _ _ (.inr (.inr (.inl (h.cx.co.2 ⟨_,c,h2⟩))))
    have:=I (h.free N a6)
    omega
end
theorem Xo2(x:Ins)(v:UInt8)(r:RunP):(∀e∈U1 x v r,e.kind≠2)\/∃m f,m+1=(U1 x v r).length/\(U1 x v r)[m]?=some f/\f.kind=2/\(∀(j:Nat)(g:Ev),(U1 x v r)[j]?=some g->g.kind=2->j=m)/\∀M:By,(U1 x v r).foldl wrE M=put M f.loc.toNat f.val:=by
 have i:∀N,NewF x v N->U1 x v r=N->(∀e∈N,e.kind≠2)\/∃m f,m+1=N.length/\N[m]?=some f/\f.kind=2/\(∀(j:Nat)(g:Ev),N[j]?=some g->g.kind=2->j=m)/\∀M:By,N.foldl wrE M=put M f.loc.toNat f.val:=λN h e=>by
  have o:∀(f:Ev)(M:By),f.kind=2->wrE M f=put M f.loc.toNat f.val:=λf M h=>by unfold wrE;rw[if_pos h]
  cases h with
  |quiet _ b=>exact .inl λe n c=>by rw[b e n]at c;cases c
  |rd _ b _ _=>exact .inl λe n c=>by rw[Ay.1 n,b]at c;cases c
  |wr _ b _=>exact .inr ⟨0,_,Z,Z,b,λj g d _=>by have:=(AB.1 d).1;exact Nat.lt_one_iff.1 this,λM=>o _ M b⟩
  |both _ q _ _ b _=>
   refine .inr ⟨1,_,Z,Z,b,λj g d p=>?_,λM=>?_⟩
   ·rcases j with _|_|j
    ·cases d;rw[q]at p;cases p
    ·rfl
    ·simp at d
   ·rw[Fa,show wrE M _=M by unfold wrE;rw[if_neg (by rw[q];decide)]]
    exact o _ M b
 exact i _ (EH x v r) Z
section
variable{p:Prg}{dom:List UInt8}{ps:List PathP}{d:List Nat}{Z R:Nat->RunP}{ρ:Nat->Nat}{s:By}{t k kk i:Nat}{l:List Ins}{e:Ev}{x:Ins}{v:UInt8}
theorem XjX(g:t<ps.length):Ex p ps (Xa0 R t (Ub x v (R t))) i↔Ex p ps R i\/∃j,j<(U1 x v (R t)).length/\i=V1 p.init ps t+((R t).many+j):=by
 have e:(Xa0 R t (Ub x v (R t)) t).many=(R t).many+(U1 x v (R t)).length:=by unfold Xa0;rw[if_pos Z];exact Ga x v _
 constructor
 ·rintro(h|⟨u,k,d,c,rfl⟩)
  ·exact .inl (.inl h)
  ·by_cases b:u=t
   ·subst b
    rw[e]at c
    rcases AN k (R u).many with h|h
    ·exact .inl (.inr ⟨u,k,d,h,Z⟩)
    ·exact .inr ⟨k-(R u).many,O,O⟩
   ·unfold Xa0 at c
    rw[if_neg b]at c
    exact .inl (.inr ⟨u,k,d,c,Z⟩)
 ·rintro((h|⟨u,k,d,c,rfl⟩)|⟨j,m,rfl⟩)
  ·exact .inl h
  ·refine .inr ⟨u,k,d,?_,Z⟩
   by_cases b:u=t
   ·subst b;omega
   ·unfold Xa0;rw[if_neg b];exact c
  ·exact .inr ⟨t,_,g,O,Z⟩
theorem Cut.step(h:Cand p dom ps d Z ρ)(E:Cut p dom ps d Z ρ s R)(aA:∃t l,p.threads[t]?=some l/\¬l[(R t).pc]?=none):∃t R',t∈Ue p s/\Cut p dom ps d Z ρ (G6 p s t) R':=by
 obtain⟨t,l,x,v,kk,D,S,N⟩:=E.pick aA
 obtain⟨M,hG,hl,_⟩:=h.z t l D.thr
 have V:t<ps.length:=(AB.1 M).1
 have aJ:=h.ok.evs.n6
 have hx:Ub x (Bk s x.loc.toNat) (R t)=Ub x v (R t):=by
   cases hr:Ug x.op with
   |true=>rw[E.reads h D S N hr]
   |false=>exact D.any hr _
 have hN:U1 x (Bk s x.loc.toNat) (R t)=U1 x v (R t):=by
   have:=congrArg GL hx
   rw[JV,JV]at this
   exact List.append_cancel_left this
 obtain⟨aE,K,q⟩:=Xno E.sim D.thr D.ins hl
 rw[hx]at K;rw[hN]at q
 have hE:∀{j:Nat}{g:Ev},(U1 x v (R t))[j]?=some g->(GL (Z t))[(R t).many+j]?=some g/\(eK p ps)[V1 p.init ps t+((R t).many+j)]?=some ⟨(t:Int),g⟩:=λi=>⟨N3 D.path i,h.ev D.thr (N3 D.path i)⟩
 have I:∀{w:Nat}{g:EvT},Ex p ps (Xa0 R t (Ub x v (R t))) w->(eK p ps)[w]?=some g->Ex p ps R w\/∃j,(U1 x v (R t))[j]?=some g.ev/\w=V1 p.init ps t+((R t).many+j):=λ{w g} hw B=>by
   rcases(XjX V).1 hw with W|⟨j,i,rfl⟩
   ·exact .inl W
   ·have:=(hE (AA i)).2
    rw[B]at this
    cases this
    exact .inr ⟨j,AA i,rfl⟩
 refine⟨t,_,aE,K,λu lu hu=>?_,λA y=>?_,λk aD a3=>?_,λw g u lu k e hw aF B c U hk he T G=>?_⟩
 ·unfold Xa0
  by_cases C:u=t
  ·subst C
   rw[if_pos rfl]
   have:=D.thr
   rw[hu]at this
   cases this
   exact⟨D.path,(E.run _ _ hu).2.exec x v⟩
  ·rw[if_neg C];exact E.run u lu hu
 ·obtain⟨w1,g1,aB,a7,a8,a5,a6⟩:=E.mem A y
  have a1:(∀(j:Nat)(g:Ev),(U1 x v (R t))[j]?=some g->g.kind=2->¬g.loc.toNat=A)->Bk (G6 p s t) A=Bk s A->∃w f,(eK p ps)[w]?=some f/\Ex p ps (Xa0 R t (Ub x v (R t))) w/\w∈rkD (eK p ps) p.init.length d A/\Bk (G6 p s t) A=f.ev.val/\∀J,Ex p ps (Xa0 R t (Ub x v (R t))) J->J∈rkD (eK p ps) p.init.length d A->J=w\/Aft (rkD (eK p ps) p.init.length d A) J w:=λW h2=>
    ⟨w1,g1,aB,(XjX V).2 (.inl a7),a8,h2.trans a5,λJ Q o=>by
      obtain⟨g,B,c,a2⟩:=(h.wr y).1 o
      rcases I Q B with h3|⟨j,i,_⟩
      ·exact a6 J h3 o
      ·exact absurd a2 (W j _ i c)⟩
  rcases Xo2 x v (R t)with M|⟨m,f,hm,hf,r,n,b⟩
  ·exact a1 (λj g i B=>absurd B (M g (AF i))) (by rw[q A O,XbK M])
  ·by_cases e:f.loc.toNat=A
   ·obtain⟨a4,X⟩:=hE hf
    have L:V1 p.init ps t+((R t).many+m)∈rkD (eK p ps) p.init.length d A:=(h.wr y).2 ⟨_,X,r,e⟩
    refine⟨_,_,X,(XjX V).2 (.inr ⟨m,O,rfl⟩),L,?_,λJ Q o=>?_⟩
    ·rw[q A O,b];exact if_pos e.symm
    ·obtain⟨g,B,c,a2⟩:=(h.wr y).1 o
     rcases I Q B with h3|⟨j,i,rfl⟩
     ·have P:=(AB.1 a4).1
      rw[UA]at P
      rcases h.cx.two o L with h2|h2|h2
      ·subst h2
       exact absurd h3 (E.not h D.thr O P)
      ·exact .inr h2
      ·exfalso
       have h4:=h.ord _ _ (.inr (.inr (.inl (h.cx.co.2 ⟨_,y,h2⟩))))
       have aC:p.init.length<=J:=by
         rcases AN J p.init.length with h9|h9
         ·exact absurd h2 (h.head y h9)
         ·exact h9
       have:=E.ord J g t l _ f aC h3 B c D.thr O a4 (.inr r) (h.free X r)
       omega
     ·rw[n j _ i c];exact .inl rfl
   ·refine a1 (λj g i B=>?_) ?_
    ·have:=n j g i B
     subst this;rw[hf]at i
     cases i
     exact e
    ·rw[q A O,b];exact if_neg (λhh=>e hh.symm)
 ·rw[q k a3,<-E.out k aD a3]
  rcases Xo2 x v (R t)with M|⟨m,f,hm,hf,r,n,b⟩
  ·rw[XbK M]
  ·have:=h.loc D.thr (hE hf).1 (.inr r)
   rw[b];exact if_neg O
 ·have a9:(R u).many<=k:=by
    refine AW ?_ hk
    unfold Xa0
    split
    next C=>subst C;rw[Ga];exact Ia _ _
    next=>exact AI _
  rcases I aF B with W|⟨j,i,rfl⟩
  ·exact E.ord w g u lu k e hw W B c U a9 he T G
  ·rcases Xo2 x v (R t)with M|⟨m,f,hm,hf,r,n,b⟩
   ·exact absurd c (M _ (AF i))
   obtain rfl:=n j _ i c
   by_cases C:u=t
   ·subst C
    have aG:=h.ev U he
    have aI:(R u).many+j<k:=by
      unfold Xa0 at hk
      rw[if_pos rfl,Ga]at hk
      omega
    exact IS (h.cx.rho h.ord (hE i).2 aG O (.inr c) T)
   ·rcases S with⟨W,_⟩|⟨m',f',aH,_,_,S⟩
    ·have:=W _ (AF i)
     rw[c]at this;cases this
    ·obtain rfl:m'=j:=O
     have:=E.due h N O U a9 he T G
     omega
theorem Cut.all(h:Cand p dom ps d Z ρ):∀(n:Nat)(s:By)(R:Nat->RunP),Cut p dom ps d Z ρ s R->mu p s<=n->∃e z i,Xoa p s e z/\Cut p dom ps d Z ρ z i/\∀t l,p.threads[t]?=some l->l[(i t).pc]?=none
 |n,s,R,j,A=>by
  by_cases b:∃t l,p.threads[t]?=some l/\¬l[(R t).pc]?=none
  ·obtain⟨t,i,c,g⟩:=j.step h b
   obtain⟨l,x,w⟩:=LX (Gg j.sim.bare.r) c
   have q:=w.mu
   cases n with
   |zero=>omega
   |succ n=>
    obtain⟨e,z,v,y,m,u⟩:=Cut.all h n _ _ g O
    exact⟨t::e,z,v,⟨c,y⟩,m,u⟩
  ·exact⟨[],s,R,rfl,j,λt l c=>Decidable.not_not.1 λo=>b ⟨t,l,c,o⟩⟩
theorem Cut.start(h:Cand p dom ps d Z ρ):Cut p dom ps d Z ρ (Ur p) (λ_=>zRun) where
 sim:=BS h.cx.hp
 run:=λt l v=>⟨(h.z t l v).2.2.2,Cb⟩
 mem:=λlo b=>by
  have A:=h.ok.evs.n6
  obtain⟨y,r⟩:∃y,p.init[lo]?=some y:=⟨_,AA b⟩
  have q:(eK p ps)[lo]?=some ⟨-1,⟨2,UInt8.ofNat lo,y,0,0,0⟩⟩:=GM r
  refine⟨lo,_,q,.inl b,(h.wr b).2 ⟨_,q,rfl,ofN O⟩,?_,λi hx j=>?_⟩
  ·rw[Dr h.cx.hp,AS,r];rfl
  ·rcases hx with hx|⟨_,_,_,hx,_⟩
   ·obtain⟨g,s,_,c⟩:=(h.wr b).1 j
    obtain⟨u,n⟩:∃y,p.init[i]?=some y:=⟨_,AA hx⟩
    have m:(eK p ps)[i]?=some ⟨-1,⟨2,UInt8.ofNat i,u,0,0,0⟩⟩:=GM n
    rw[m]at s
    cases s
    have c:(UInt8.ofNat i).toNat=lo:=c
    rw[ofN O]at c
    exact .inl c
   ·exact absurd hx (Fx _)
 out:=λk B _=>by rw[Dr h.cx.hp,AS,AV B];rfl
 ord:=λw g t l k e C o=>by
  rcases o with hx|⟨_,_,_,hx,_⟩
  ·omega
  ·exact absurd hx (Fx _)
theorem DN{E:List EvT}{n:Nat}{f:By}{i:Nat}(b:i<32):∀L,fiJ E n d f L i=f i
 |0=>rfl
 |L+1=>by
  unfold fiJ put
  rw[if_neg O];exact DN b L
theorem Xar{i:Nat}:∀J,J*8<=i->fiK ps J i=0
 |0,_=>rfl
 |J+1,b=>by
  unfold fiK
  cases ps[J]? with
  |none=>exact Xar J O
  |some q=>
   show lay _ _ _ _ _=_
   unfold lay
   rw[if_neg O];exact Xar J O
theorem Xfu{q:PathP}{t b:Nat}(c:ps[t]?=some q)(hd:b<8):∀J,t<J->fiK ps J (t*8+b)=q.regs b
 |0,h=>absurd h (Fx _)
 |J+1,h=>by
  by_cases e:t=J
  ·subst e
   rw[Xaq c]
   unfold lay
   rw[if_pos O,show t*8+b-t*8=b by omega]
  ·unfold fiK
   cases ps[J]? with
   |none=>exact Xfu c hd J O
   |some d=>
    show lay _ _ _ _ _=_
    unfold lay
    rw[if_neg O];exact Xfu c hd J O
theorem Xad{E:List EvT}{b:Nat->List Nat}{i:Nat}:∀L,L<=i->XbL E b L i=0
 |0,_=>rfl
 |L+1,h=>by
  unfold XbL put
  rw[if_neg O];exact Xad L O
theorem XdG{E:List EvT}{b:Nat->List Nat}{i:Nat}:∀L,i<L->XbL E b L i=Bn E (b i)
 |0,h=>absurd h (Fx _)
 |L+1,h=>by
  unfold XbL put
  by_cases e:i=L
  ·rw[if_pos e,e]
  ·rw[if_neg e];exact XdG L O
theorem Cut.end(h:Cand p dom ps d Z ρ)(n:Cut p dom ps d Z ρ s R)(N:∀t l,p.threads[t]?=some l->l[(R t).pc]?=none):toL 38 (GS s)=toL 38 (Uq p.init ps d).fi:=by
 have K:∀t l,p.threads[t]?=some l->Z t=R t:=λt l q=>(n.run t l q).1.at_none (N t l q)
 have D:∀w g,(eK p ps)[w]?=some g->Ex p ps R w:=λw g T=>by
  rcases Cut.split h R T with h1|⟨u,l,k,h1,m,r,_⟩
  ·exact h1
  ·have:=(AB.1 r).1
   rw[UA,K u l h1]at this
   omega
 have E:=h.cx.hm.len
 refine XnP n.sim (λt dd q Q=>?_) (λi h1 m=>?_) (λk I=>?_)
 ·obtain⟨l,G⟩:=h.thr (t:=t) O
  have V:=(h.z t l G).1
  show fiJ _ _ _ _ _ _=_
  have:=(valid h.cx.hp).thr4
  rw[DN O,Xfu V Q _ O,<-K t l G];rfl
 ·show fiJ _ _ _ _ _ _=_
  rw[DN m,Xar _ O]
 ·rw[<-h.ok.coE.mem k I]
  rcases AN k p.init.length with h1|h1
  ·rw[XdG _ h1]
   obtain⟨w,g,M,_,B,b,c⟩:=n.mem k h1
   rw[b]
   show Bn (eK p ps) (rkD (eK p ps) p.init.length d k)=_
   have J:=Ie B
   obtain⟨y,o⟩:∃y,(rkD (eK p ps) p.init.length d k)[(rkD (eK p ps) p.init.length d k).length-1]?=some y:=⟨_,AA O⟩
   have v:y=w:=by
    obtain⟨W,A,_⟩:=(h.wr h1).1 (AF o)
    rcases c y (D y W A) (AF o)with m|⟨i,j,U,r,L⟩
    ·exact m
    ·exfalso
     have C:=h.cx.lines.nodup k h1
     obtain⟨a1,P⟩:=AB.1 r
     obtain⟨S,X⟩:=AB.1 o
     have hj:=(AB.1 L).1
     exact Ao.1 C i _ a1 S O (P.trans X.symm)
   unfold Bn
   rw[AS,o,v]
   show(match(eK p ps)[w]? with|some e=>e.ev.val|none=>0)=_
   rw[M]
  ·rw[Xad _ h1,n.out k h1 I]
end
theorem XmY{e:Nat}(r:VX p=0)(hm:e<=10000)(m:CandGo p e){v:XcV}(I:v∈Uf p)(D:GU 2 v):Xnc p 1 (toL 38 v.fi):=by
 obtain⟨ps,b,w⟩:=Hh.1 I
 obtain⟨d,A,rfl⟩:=AT.1 w
 have E:=valid r
 have g:=Xjg E b
 have i:=m.small ps b
 have n:(JA (szL (UE p.init ps ps.length) p.init.length)).length<=10000:=by
  refine AW ?_ (AW m.few hm)
  unfold Uf
  have c:=(List.sublist_flatten_of_mem (AT.2 ⟨ps,b,Z⟩:UG p.init ps∈(JT p (V5 p 16).1).map (UG p.init))).length_le
  unfold UG at c
  rw[AH]at c
  exact c
 have y:=Co E b i A n
 have C:∀t:Nat,∃z,∀l,p.threads[t]?=some l->ps[t]?=some (Ul z)/\EndG p.init.length l z/\Ua 6 l=true/\PathD l (Um (V5 p 16).1) zRun z:=λt=>by
  cases j:p.threads[t]? with
  |none=>exact⟨zRun,λl h=>by cases h⟩
  |some l=>
   obtain⟨q,B⟩:∃q,ps[t]?=some q:=⟨_,AA (by rw[g.len];exact(AB.1 j).1)⟩
   obtain⟨K,z,c,o,s,rfl⟩:=g.run t q B
   rw[j]at c
   cases c
   exact⟨z,λK h=>by cases h;exact⟨B,s,Qs r j,o⟩⟩
 obtain⟨ρ,G⟩:=D.2.2
 have u:Cand p (Um (V5 p 16).1) ps d (λt=>(C t).choose) ρ:=⟨⟨r,g,i,A⟩,y,λt l j=>(C t).choose_spec l j,G,D.2.1⟩
 obtain⟨J,z,R,c,o,s⟩:=Cut.all u _ _ _ (Cut.start u) (AI _)
 exact(XdA r).2 ⟨J,z,c,(XeF o.sim).2 s,(o.end u s).symm⟩
theorem XiM{α:Type}{g:Nat->α}{l m:List α}(h:l.Perm m):∀r:List Nat,m=r.map g->∃q:List Nat,q.Perm r/\l=q.map g:=by
 induction h with
 |nil=>exact λr c=>⟨[],by cases r with|nil=>exact .refl _|cons _ _=>simp at c,Z⟩
 |cons x _ p=>
  intro r c
  cases r with
  |nil=>simp at c
  |cons a r=>
   rw[FH]at c
   obtain⟨rfl,d⟩:=List.cons.inj c
   obtain⟨q,i,n⟩:=p r d
   exact⟨a::q,i.cons a,by rw[n];rfl⟩
 |swap x y l=>
  intro r c
  match r,c with
  | [],c=>simp at c
  | [_],c=>simp at c
  |a::b::r,c=>
   obtain⟨o,c⟩:=List.cons.inj c
   obtain⟨u,c⟩:=List.cons.inj c
   exact⟨b::a::r,.swap a b r,by rw[o,u,c];rfl⟩
 |trans _ _ e j=>
  intro r c
  obtain⟨q,s,d⟩:=j r c
  obtain⟨t,i,n⟩:=e q d
  exact⟨t,i.trans s,n⟩
theorem Xl5(b:List Nat):b=(List.range b.length).map λk=>b.getD k 0:=by
 refine Ar λi=>?_
 rw[AD]
 rcases AN i b.length with h|h
 ·rw[Av h,AA h]
  show _=some (b.getD i 0)
  rw[AS,AA h];rfl
 ·rw[AV h,AV (by rw[Aq];exact h)];rfl
theorem XiE{b o:List Nat}{x:Nat}(c:b.length<=48)(g:o.Perm b)(e:b[0]?=some x)(d:o[0]?=some x):o∈GG b:=by
 cases b with
 |nil=>cases e
 |cons y b=>
  cases o with
  |nil=>cases d
  |cons z o=>
   cases e
   cases d
   obtain⟨q,j,i⟩:=XiM ((List.perm_cons _).1 g) _ (Xl5 b)
   unfold GG
   refine AT.2 ⟨0::q.map Nat.succ,XlB (by rw[AY]at c;exact c) (j.map _),?_⟩
   rw[FH,Fj,i];rfl
theorem DL{f:Nat->Bool}:∀(W:List Nat)(l y:Nat),W[l]?=some y->f y=true->(∀(i b:Nat),i<l->W[i]?=some b->f b=false)->(W.filter f)[0]?=some y
 | [],l,y,h,_,_=>by simp at h
 |w::W,0,y,h,c,_=>by
  cases h
  rw[I1 c];rfl
 |w::W,l+1,y,h,c,d=>by
  have g:f w=false:=d 0 w (Nat.succ_pos _) Z
  rw[I2 (by rw[g];exact Bool.noConfusion)]
  exact DL W l y h c λi b j e=>d (i+1) b O e
theorem NA{f:Nat->Bool}{a b:Nat}:∀W:List Nat,Aft (W.filter f) a b->Aft W a b
 | [],h=>h
 |w::W,h=>by
  rw[XaV]
  cases c:f w with
  |true=>
   rw[I1 c,XaV]at h
   rcases h with h|h
   ·exact .inl ⟨h.1,(Az.1 h.2).1⟩
   ·exact .inr (NA W h)
  |false=>
   rw[I2 (by rw[c];exact Bool.noConfusion)]at h
   exact .inr (NA W h)
def isW(E:List EvT)(l i:Nat):Bool:=match E[i]? with|some g=>wrF l g|none=>false
theorem isW_iff{E:List EvT}{l:Nat}:isW E l i=true↔∃g:EvT,E[i]?=some g/\g.ev.kind=2/\g.ev.loc.toNat=l:=by
 unfold isW
 constructor
 ·intro h
  split at h
  next g e=>
   unfold wrF at h
   rw[AJ,beq_iff_eq,beq_iff_eq]at h
   exact⟨g,e,h⟩
  next=>cases h
 ·rintro⟨g,c,b,d⟩
  rw[c]
  show wrF l g=true
  unfold wrF
  rw[b,d,AJ]
  exact⟨Z,beq_self_eq_true _⟩
section
variable{n:Nat}{E:List EvT}{rm:Rl}{F:By}{W:List Nat}
theorem SeqE.uniq(h:SeqE n E rm F W){a b:Nat}(j:W[a]?=some i)(hb:W[b]?=some i):a=b:=by
 obtain⟨e,d⟩:=AB.1 j
 obtain⟨c,g⟩:=AB.1 hb
 rcases F5 a b with h1|h1|h1
 ·exact absurd (d.trans g.symm) (Ao.1 h.nodup a b e c h1)
 ·exact h1
 ·exact absurd (g.trans d.symm) (Ao.1 h.nodup b a c e h1)
theorem SeqE.place(h:SeqE n E rm F W){g:EvT}(b:E[i]?=some g):∃j:Nat,W[j]?=some i:=Af.1 ((h.mem i).2 (AB.1 b).1)
theorem SeqE.choice(h:SeqE n E rm F W)(hn:n<=E.length)(N:E.length<=48)(V:∀l,l<n->(wrL E l)[0]?=some l):∃d∈JA (szL E n),(∀l,l<n->rkD E n d l=W.filter (isW E l)) /\
 ∀(j i:Nat)(g:EvT)(b:Nat),(rdL E)[j]?=some i->E[i]?=some g->W[b]?=some i->∃(a:Nat)(f:EvT),a<b/\W[a]?=some (Xbh E d j)/\E[Xbh E d j]?=some f/\f.ev.kind=2/\f.ev.loc.toNat=g.ev.loc.toNat/\∀(k z:Nat),a<k->k<b->W[k]?=some z->NoW E g.ev.loc.toNat z:=by
 obtain⟨M,T,h2⟩:=XlC (P:=λj k=>k<(QQ E ((rdL E).getD j 0)).length/\∀(i:Nat)(g:EvT)(b:Nat),(rdL E)[j]?=some i->E[i]?=some g->W[b]?=some i->∃(a:Nat)(f:EvT),a<b/\W[a]?=some ((QQ E i).getD k 0)/\E[(QQ E i).getD k 0]?=some f/\f.ev.kind=2/\f.ev.loc.toNat=g.ev.loc.toNat/\∀(G z:Nat),a<G->G<b->W[G]?=some z->NoW E g.ev.loc.toNat z) (rdL E).length λj J=>by
  obtain⟨i,v⟩:∃i,(rdL E)[j]?=some i:=⟨_,AA J⟩
  obtain⟨_,g,t,r⟩:=mem_pl.1 (AF v)
  have r:g.ev.kind=1:=beq_iff_eq.1 r
  obtain⟨b,K⟩:=h.place t
  obtain⟨a,w,f,c,m,o,g4,g5,g6,g7⟩:=h.rd b i g K t r
  have I:w∈QQ E i:=by
   rw[Xh3 t]
   unfold srcE
   refine Az.2 ⟨mem_pl.2 ⟨(AB.1 o).1,f,o,?_⟩,?_⟩
   ·unfold wrF
    rw[g4,g5,AJ]
    exact⟨Z,beq_self_eq_true _⟩
   ·unfold Lg
    rw[o]
    exact beq_iff_eq.2 g6
  obtain⟨k,q⟩:=Af.1 I
  have U:(QQ E i).getD k 0=w:=by rw[AS,q];rfl
  refine⟨k,?_,λi' g' b' D A a2=>?_⟩
  ·rw[AS,v];exact(AB.1 q).1
  ·rw[v]at D
   cases D
   rw[t]at A
   cases A
   obtain rfl:=h.uniq K a2
   rw[U]
   exact⟨a,f,c,m,o,g4,g5,g7⟩
 obtain⟨L,h3,h4⟩:=XlC (P:=λl k=>(GG (wrL E l))[k]?=some (W.filter (isW E l))) n λl u=>by
  refine Af.1 (XiE (x:=l) (AW GH N) ?_ (V l u) ?_)
  ·refine(List.perm_ext_iff_of_nodup (List.Pairwise.filter _ h.nodup) (pl_inc.imp λh=>IJ h)).2 λi=>?_
   rw[Az,isW_iff]
   constructor
   ·rintro⟨_,g,c,m,o⟩
    refine mem_pl.2 ⟨(AB.1 c).1,g,c,?_⟩
    unfold wrF
    rw[m,o,AJ]
    exact⟨Z,beq_self_eq_true _⟩
   ·intro v
    obtain⟨g0,g,c,m,o⟩:=NJ v
    exact⟨(h.mem i).2 g0,g,c,m,o⟩
  ·refine DL W l l (h.head l u) (isW_iff.2 ?_) λi y v hy=>?_
   ·obtain⟨_,g,c,m,o⟩:=NJ (AF (V l u))
    exact⟨g,c,m,o⟩
   ·rw[h.head i O]at hy
    cases hy
    rw[If]
    intro hh
    have X:i∈wrL E l:=by
     obtain⟨g,c,m,o⟩:=isW_iff.1 hh
     refine mem_pl.2 ⟨(AB.1 c).1,g,c,?_⟩
     unfold wrF
     rw[m,o,AJ]
     exact⟨Z,beq_self_eq_true _⟩
    obtain⟨_,g,c,_,o⟩:=NJ X
    obtain⟨_,g',B,_,a3⟩:=NJ (AF (V i O))
    rw[c]at B
    cases B
    omega
 have C:(Gv E).length=(rdL E).length:=by unfold Gv;rw[AH]
 have Q:(Qn E n).length=n:=by unfold Qn;rw[AH,Aq]
 refine⟨M++L,mem_odo.2 ⟨?_,λi k s q p=>?_⟩,λl u=>?_,λj i g b J t K=>?_⟩
 ·unfold szL
  rw[AK,AK,AH,AH,T,h3,C,Q]
 ·unfold szL at p
  rcases AN i (rdL E).length with h5|h5
  ·rw[AP O]at q
   rw[AP (by rw[AH];omega),AD]at p
   obtain⟨G,c,m,_⟩:=h2 i h5
   rw[q]at c
   cases c
   unfold Gv at p
   rw[AD,AA h5]at p
   cases p
   rw[AS,AA h5]at m
   exact m
  ·rw[AQ O,T]at q
   rw[AQ (by rw[AH];omega),AH,C,AD]at p
   have h6:i-(rdL E).length<n:=by have:=(AB.1 q).1;omega
   obtain⟨G,c,m⟩:=h4 _ h6
   rw[q]at c
   cases c
   unfold Qn at p
   rw[AD,Av h6]at p
   cases p
   exact(AB.1 m).1
 ·obtain⟨k,c,m⟩:=h4 l u
  have a1:(Qn E n)[l]?=some (wrL E l):=by unfold Qn;rw[AD,Av u];rfl
  unfold rkD
  rw[AS (l:=Qn E n),a1,AS (l:=M++L),AQ O,T,Fq,c]
  show(GG (wrL E l)).getD k []=_
  rw[AS,m];rfl
 ·have S:=(AB.1 J).1
  obtain⟨k,c,_,o⟩:=h2 j S
  have R:(Gv E)[j]?=some (QQ E i):=by unfold Gv;rw[AD,J];rfl
  have e:Xbh E (M++L) j=(QQ E i).getD k 0:=by
   unfold Xbh
   rw[AS (l:=Gv E),R,AS (l:=M++L),AP O,c];rfl
  rw[e]
  exact o i g b J t K
end
theorem seq_holds{dom:List UInt8}{ps:List PathP}{d:List Nat}{F:By}{W:List Nat}(h:Ctx p dom ps d)(z:SeqE p.init.length (eK p ps) (Uq p.init ps d).rm F W)(M:∀l,l<p.init.length->rkD (eK p ps) p.init.length d l=W.filter (isW (eK p ps) l))(T:∀(j i:Nat)(g:EvT)(b:Nat),(rdL (eK p ps))[j]?=some i->(eK p ps)[i]?=some g->W[b]?=some i->∃(a:Nat)(f:EvT),a<b/\W[a]?=some (Xbh (eK p ps) d j)/\(eK p ps)[Xbh (eK p ps) d j]?=some f/\f.ev.kind=2/\f.ev.loc.toNat=g.ev.loc.toNat/\∀(k E:Nat),a<k->k<b->W[k]?=some E->NoW (eK p ps) g.ev.loc.toNat E):GU 2 (Uq p.init ps d):=by
 have C:∀i:Nat,∃j:Nat,i<(eK p ps).length->W[j]?=some i:=λi=>by
  by_cases hi:i<(eK p ps).length
  ·obtain⟨j,K⟩:=z.place (AA hi)
   exact⟨j,λ_=>K⟩
  ·exact⟨0,λh=>absurd h hi⟩
 obtain⟨ρ,hρ⟩:∃ρ:Nat->Nat,∀i:Nat,i<(eK p ps).length->W[ρ i]?=some i:=⟨λi=>(C i).choose,λi=>(C i).choose_spec⟩
 have m:∀{j i:Nat},W[j]?=some i->ρ i=j:=λ{j i} K=>z.uniq (hρ i ((z.mem i).1 (AF K))) K
 have G:∀i j,(Uq p.init ps d).po.has i j=true->ρ i<ρ j:=λi j c=>by
  have c:(poR (eK p ps)).has i j=true:=c
  rw[Xbv (l:=eK p ps) h.h48 i j]at c
  have q:=c
  unfold poB at q
  rw[AJ]at q
  obtain⟨_,q⟩:=q
  split at q
  next e f Q B=>
   have Q:(eK p ps)[i]?=some e:=Q
   have B:(eK p ps)[j]?=some f:=B
   exact z.po _ _ i j (hρ i (AB.1 Q).1) (hρ j (AB.1 B).1) c
  next=>cases q
 have v:∀w i,(Uq p.init ps d).rf.has w i=true->∃(a b:Nat)(f g:EvT),a<b/\W[a]?=some w/\W[b]?=some i/\(eK p ps)[w]?=some f/\(eK p ps)[i]?=some g/\g.ev.kind=1/\f.ev.kind=2/\f.ev.loc.toNat=g.ev.loc.toNat/\∀(k E:Nat),a<k->k<b->W[k]?=some E->NoW (eK p ps) g.ev.loc.toNat E:=λw i L=>by
  obtain⟨j,_,rfl,A⟩:=(E8 h.h48 _ (AI _)).1 L
  obtain⟨_,g,V,X⟩:=mem_pl.1 (AF A)
  obtain⟨b,q⟩:=z.place V
  obtain⟨a,f,t,r,n,P,g5,U⟩:=T j i g b A V q
  exact⟨a,b,f,g,t,r,q,n,V,beq_iff_eq.1 X,P,g5,U⟩
 have D:∀i j,(Uq p.init ps d).co.has i j=true->∃(a b l:Nat)(f:EvT),a<b/\W[a]?=some i/\W[b]?=some j/\(eK p ps)[j]?=some f/\f.ev.kind=2/\f.ev.loc.toNat=l/\isW (eK p ps) l i=true:=λi j c=>by
  obtain⟨l,hl,u⟩:=h.co.1 c
  rw[M l hl]at u
  obtain⟨J,m2⟩:=Bf u
  obtain⟨f,t,r,n⟩:=isW_iff.1 (Az.1 m2).2
  obtain⟨a,b,A,h4,h5⟩:=NA W u
  exact⟨a,b,l,f,A,h4,h5,t,r,n,(Az.1 J).2⟩
 have y:∀i j,frB (Uq p.init ps d) i j->ρ i<ρ j:=λi j ⟨k,h1,u⟩=>by
  obtain⟨a,b,f,g,t,r,n,P,g5,U,g7,g8,g9⟩:=v k i h1
  obtain⟨a',b',l,f',k1,k2,I,S,N,k6,k7⟩:=D k j u
  obtain rfl:=z.uniq r k2
  obtain⟨f2,J,m2,m3⟩:=isW_iff.1 k7
  rw[P]at J
  cases J
  rw[m n,m I]
  rcases F5 b b' with h9|h9|h9
  ·exact h9
  ·subst h9
   rw[n]at I
   cases I
   rw[g5]at S
   cases S
   rw[U]at N;cases N
  ·exact absurd (show f'.ev.loc.toNat=g.ev.loc.toNat by omega) (g9 b' j k1 h9 I f' S N)
 have s:∀i j,(Uq p.init ps d).rf.has i j=true->ρ i<ρ j:=λi j c=>by
  obtain⟨a,b,_,_,t,r,n,_⟩:=v i j c
  rw[m r,m n];exact t
 have o:∀i j,(Uq p.init ps d).co.has i j=true->ρ i<ρ j:=λi j c=>by
  obtain⟨a,b,_,_,t,r,n,_⟩:=D i j c
  rw[m r,m n];exact t
 refine⟨⟨ρ,λi j c=>?_⟩,λi j k R B hc=>?_,⟨ρ,λi j c=>?_⟩⟩
 ·rcases c with h1|h1|h1|h1
  ·rw[AJ]at h1;exact G i j h1.1
  ·exact s i j h1
  ·exact o i j h1
  ·exact y i j h1
 ·have h1:=y i k B
  have u:=o k j hc
  obtain⟨w,hw,_⟩:=B
  obtain⟨a,b,_,_,_,_,n,_⟩:=v w i hw
  have A:=z.adj b i j n R
  rw[m n]at h1;rw[m A]at u
  omega
 ·rcases c with h1|h1|h1|h1
  ·exact G i j h1.1
  ·exact s i j h1
  ·exact o i j h1
  ·exact y i j h1
theorem Xlj{C:Nat}{x:List UInt8}(g:VX p=0)(m:CandGo p C)(h:Xnc p 1 x):∃v∈Uf p,GU 2 v/\x=toL 38 v.fi:=by
 obtain⟨ts,z,W,L,rfl⟩:=(XdA g).1 h
 have D:=valid g
 have P:p.init.length<=6:=by rw[D.init];exact D.locs6
 obtain⟨c,T,Q,g2,g3,g4⟩:=XqA g (XhD g m) L ts _ _ (λk=>p.init.getD k 0) (BS g) W (λk _=>Dr g k) (λk E=>by
  show p.init.getD k 0∈_
  rw[AS,AA E]
  exact(XhD g m).init _ (Ff _)) λt l _=>⟨λ_ h=>h,Cb⟩
 obtain⟨ps,r,s⟩:=XrK m Q
 have q:=Xjg D r
 have n:=m.small ps r
 have hz:∀t l,p.threads[t]?=some l->ps[t]?=some (Ul (c t))/\EndG p.init.length l (c t)/\PathD l (Um (V5 p 16).1) zRun (c t):=λt l o=>⟨s t l o,Xay D o (Qs g o) (Q t l o),Q t l o⟩
 have A:=λd=>XqH (d:=d) (F:=Bk z) g q n hz g3 g4
 obtain⟨d,U,u,S⟩:=(A []).choice (by
  have:=(MT (v:=p.init) (ps:=ps) ps.length).length_le
  rwa [MN]at this) n (λl R=>Xen P R)
 have J:=A d
 have hC:Ctx p (Um (V5 p 16).1) ps d:=⟨g,q,n,U⟩
 refine⟨Uq p.init ps d,Hh.2 ⟨ps,r,AT.2 ⟨d,U,Z⟩⟩,seq_holds hC J u S,?_⟩
 have a1:=q.len
 have h4:=D.thr4
 refine XnP g2 (λt dd o K=>?_) (λi W L=>?_) (λk E=>?_)
 ·have R:=AA o
  show fiJ _ _ _ _ _ _=_
  rw[DN O,Xfu (s t _ R) K _ O];rfl
 ·show fiJ _ _ _ _ _ _=_
  rw[DN L,Xar _ O]
 ·show fiJ (eK p ps) _ _ _ _ _=_
  rw[<-Xjj (λi _=>XdT O _ (AI _) i) _ k E]
  rcases AN k p.init.length with h5|h5
  ·rw[XdG _ h5,u k h5]
   obtain⟨j,w,f,V,k2,k3,k4,k5,k6⟩:=J.fin k h5
   rw[<-k5]
   have M:isW (eK p ps) k w=true:=isW_iff.2 ⟨f,k2,k3,k4⟩
   have B:w∈(Dl p ps T).filter (isW (eK p ps) k):=Az.2 ⟨AF V,M⟩
   have X:=Ie B
   obtain⟨y,G⟩:∃y,((Dl p ps T).filter (isW (eK p ps) k))[((Dl p ps T).filter (isW (eK p ps) k)).length-1]?=some y:=⟨_,AA O⟩
   have N:y=w:=by
    obtain⟨i,I⟩:=Af.1 B
    have a2:=(AB.1 I).1
    by_cases e:i=((Dl p ps T).filter (isW (eK p ps) k)).length-1
    ·rw[e,G]at I;exact Ac I
    ·exfalso
     obtain⟨a,b,m1,m2,m3⟩:=NA (Dl p ps T) ⟨i,_,O,I,G⟩
     obtain rfl:=J.uniq V m2
     obtain⟨f',n1,n2,n3⟩:=isW_iff.1 (Az.1 (AF G)).2
     exact k6 b y m1 m3 f' n1 n2 n3
   unfold Bn
   rw[AS,G,N]
   show(match(eK p ps)[w]? with|some e=>e.ev.val|none=>0)=_
   rw[k2]
  ·rw[Xad _ h5,J.out k h5 E]
end Go.Proofs.YtajfpcgbnflceaaGreatDoor
