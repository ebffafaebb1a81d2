/- Structs and arrays of plain cells against each other. And more of this kind. Conditions: those of each theorem. -/
import Derived.Test.YtajfpcgbnflceaaGreatDoorVcK
import Derived.ChangeKeysEq
import Derived.Laws.IdiomCopy
import Derived.Carry
import Derived.MapKept
set_option linter.unusedSimpArgs false
set_option linter.unusedVariables false
namespace Go.Proofs.YtajfpcgbnflceaaGreatDoor
open Go.Proofs.Tryz
open Go.RowKit
set_option maxRecDepth 100000
variable{A:Option Addr}{D b bx c i j k n ox sz:Nat}{R:Ending->World->Prop}{ag:Bool}{bt e st t:TypeId}{cs vs:List Value}{d:Tmp}{fn:Func}{fs:Array Field}{m:List Bool}{news rows:List (List Value)}{o oi:Oper}{ps:List (Nat×Value)}{q:IntKind}{s x x' y y':Operand}{ti:TypeInfo}{ts:Array TypeId}{u v z:Value}{w':World}
section
variable{P:Program}
inductive CK where
 |u8|bool|int|str|wd
deriving DecidableEq
def CK.ok:CK->Value->Prop
 |.u8,v=>∃n,v=.int .u8 n
 |.bool,v=>∃b,v=.bool b
 |.int,v=>∃n,v=.int .i64 n
 |.str,v=>∃s,v=.string s
 |.wd,v=>∃n,v=.int .u64 n
def Fits:List CK->List Value->Prop
 | [],[]=>True
 |k::b,v::vs=>k.ok v/\Fits b vs
 |_,_=>False
def NU:Value->Value->Bool
 |.int _ a,.int _ b=>a==b
 |.bool a,.bool b=>a==b
 |.string a,.string b=>a.toList==b.toList
 |_,_=>false
def ceq:List Value->List Value->Bool
 | [],[]=>true
 |x::r,y::s=>NU x y&&ceq r s
 |_,_=>false
theorem Fits.len:∀{b:List CK}{vs:List Value},Fits b vs->vs.length=b.length
 | [],[],_=>rfl
 |_::_,_::_,h=>by simp[Fits.len h.2]
 | [],_::_,h=>h.elim
 |_::_,[],h=>h.elim
theorem Fits.split:∀{k1 b:List CK}{vs:List Value},Fits (k1++b) vs->Fits k1 (vs.take k1.length)/\Fits b (vs.drop k1.length)
 | [],_,_,h=>⟨trivial,h⟩
 |_::_,_,[],h=>h.elim
 |_::_,_,_::_,h=>⟨⟨h.1,(Fits.split h.2).1⟩,(Fits.split h.2).2⟩
theorem Cn:∀{a b c d:List Value},a.length=c.length->ceq (a++b) (c++d)=(ceq a c&&ceq b d)
 | [],_,[],_,_=>by simp[ceq]
 | [],_,_::_,_,h=>by simp at h
 |_::_,_,[],_,h=>by simp at h
 |_::_,_,_::_,_,h=>by
  simp only[Au,ceq]
  rw[Cn (by simpa using h),Bool.and_assoc]
theorem Xec(n:Nat){x y:List Value}(e:n<=x.length)(g:n<=y.length):ceq x y=(ceq (x.take n) (y.take n)&&ceq (x.drop n) (y.drop n)):=by
 have h:=Cn (a:=x.take n) (b:=x.drop n) (c:=y.take n) (d:=y.drop n) (by rw[Aj,Aj];omega)
 rw[FL,FL]at h
 exact h
def pk:Bool->List Value->Value
 |true,vs=>.agg vs.toArray
 |false,[v]=>v
 |false,_=>undef
def EqT(P:Program)(D:Nat)(t:TypeId)(e:List CK)(ag:Bool):Prop:=
 ∀d w c b,Fits e c->Fits e b->(Op.equalIn (d+D) t (pk ag c) (pk ag b)).run P w=.ok (ceq c b) w
theorem EqT.up{b:List CK}(h:EqT P D t b ag)(n:Nat):EqT P (D+n) t b ag:=λd w i g c e=>by
 have:=h (d+n) w i g c e
 rwa [show d+(D+n)=d+n+D by omega]
theorem Br{k:IntKind}{c:CK}(i:P.underlying t=some (.int k))(n:c=.u8\/c=.int):EqT P 1 t [c] false:=by
 intro d w m j e g
 match m,j,e,g with
 | [x],[y],e,g=>
   rcases n with rfl|rfl
   ·obtain⟨⟨a,rfl⟩,_⟩:=e
    obtain⟨⟨b,rfl⟩,_⟩:=g
    simp[pk,run_equalIn_int w d t .u8 k a b i,ceq,NU]
   ·obtain⟨⟨a,rfl⟩,_⟩:=e
    obtain⟨⟨b,rfl⟩,_⟩:=g
    simp[pk,run_equalIn_int w d t .i64 k a b i,ceq,NU]
theorem eqWd{k:IntKind}(j:P.underlying t=some (.int k)):EqT P 1 t [.wd] false:=by
 intro d w i g c e
 match i,g,c,e with
 | [x],[y],c,e=>
   obtain⟨⟨a,rfl⟩,_⟩:=c
   obtain⟨⟨b,rfl⟩,_⟩:=e
   simp[pk,run_equalIn_int w d t .u64 k a b j,ceq,NU]
theorem XrX(j:P.underlying t=some .bool):EqT P 1 t [.bool] false:=by
 intro d w i g c e
 match i,g,c,e with
 | [x],[y],c,e=>
   obtain⟨⟨a,rfl⟩,_⟩:=c
   obtain⟨⟨b,rfl⟩,_⟩:=e
   simp[pk,run_equalIn_bool w d t a b j,ceq,NU]
theorem Jz{off:Nat}(w:World)(hs:∀w,(sizeOf e).run P w=.ok n w)(c:∀w,(isAgg e).run P w=.ok ag w)(g:ag=false->n=1)(i:off+n<=vs.length):
 (part e vs.toArray off).run P w=.ok (pk ag ((vs.drop off).take n)) w:=by
 unfold part
 simp only[Sem.run_bind,c,Result.andThen_ok]
 cases ag
 ·obtain rfl:=g Z
  have b:off<vs.length:=O
  have d:(vs.drop off).take 1=[vs[off]]:=by rw[FA b];rfl
  simp[d,pk,b]
 ·simp[hs,pk,List.extract_eq_take_drop]
theorem Xcv(hs:∀w,(sizeOf e).run P w=.ok n w):P.cellsOf e=n/\∃i,P.info? e=some i:=by
 have:=hs default
 unfold sizeOf typeInfo at this
 cases b:P.info? e with
 |none=>simp[b,go_sem]at this
 |some i=>simp[b,go_sem]at this;exact⟨by simp[Program.cellsOf,b,this],i,Z⟩
def Xlt:Nat->List CK->List CK
 |0,_=>[]
 |n+1,b=>b++Xlt n b
theorem Xcd{j:Nat}{ks:List CK}(S:P.underlying t=some (.array j e))(hs:∀w,(sizeOf e).run P w=.ok ks.length w)(r:∀w,(isAgg e).run P w=.ok ag w)(z:ag=false->ks.length=1)(h:EqT P D e ks ag):
   EqT P (D+1) t (Xlt j ks) true:=by
 intro d w b c N K
 obtain⟨B,i,R⟩:=Xcv hs
 have I:=run_equalIn_array w (d+D) (P:=P) b.toArray c.toArray S R
 rw[B]at I
 show(Op.equalIn (d+(D+1)) t (.agg b.toArray) (.agg c.toArray)).run P w=_
 rw[show d+(D+1)=d+D+1 by omega,I]
 have C:∀(m s:Nat),Fits (Xlt m ks) (b.drop (s*ks.length))->Fits (Xlt m ks) (c.drop (s*ks.length)) ->
     (Op.eqItems (d+D) e ks.length b.toArray c.toArray (List.range' s m)).run P w=.ok (ceq (b.drop (s*ks.length)) (c.drop (s*ks.length))) w:=by
   intro m
   induction m with
   |zero=>
    intro s v u
    have L:b.drop (s*ks.length)=[]:=Al v.len
    have M:c.drop (s*ks.length)=[]:=Al u.len
    rw[L,M]
    simp[Op.eqItems,ceq]
   |succ m Q=>
    intro s v u
    have T:=v.len
    have J:=u.len
    simp only[Xlt,AK,Fm]at T J
    obtain⟨p,n⟩:=Fits.split (k1:=ks) v
    obtain⟨q,g⟩:=Fits.split (k1:=ks) u
    rw[Hw]at n g
    have E:s*ks.length+ks.length=(s+1)*ks.length:=by rw[FB];omega
    rw[E]at n g
    have o:=Q (s+1) n g
    rcases Aw ks.length with h0|h0
    ·have A:=Jz (P:=P) (vs:=b) (off:=s*ks.length) w hs r z (by rw[h0];simp)
     have G:=Jz (P:=P) (vs:=c) (off:=s*ks.length) w hs r z (by rw[h0];simp)
     simp only[Ir,Op.eqItems,Sem.run_bind,A,G,Result.andThen_ok,h d w _ _ p q]
     rw[Xec (x:=b.drop (s*ks.length)) (y:=c.drop (s*ks.length)) ks.length (by rw[h0];simp) (by rw[h0];simp),Hw,Hw,E]
     cases ceq ((b.drop (s*ks.length)).take ks.length) ((c.drop (s*ks.length)).take ks.length)
     ·simp
     ·simpa using o
    ·have A:=Jz (P:=P) (vs:=b) (off:=s*ks.length) w hs r z O
     have G:=Jz (P:=P) (vs:=c) (off:=s*ks.length) w hs r z O
     simp only[Ir,Op.eqItems,Sem.run_bind,A,G,Result.andThen_ok,h d w _ _ p q]
     rw[Xec (x:=b.drop (s*ks.length)) (y:=c.drop (s*ks.length)) ks.length (by rw[Fm];omega) (by rw[Fm];omega),Hw,Hw,E]
     cases ceq ((b.drop (s*ks.length)).take ks.length) ((c.drop (s*ks.length)).take ks.length)
     ·simp
     ·simpa using o
 have:=C j 0 (by simpa using N) (by simpa using K)
 rw[IK]
 simpa using this
def Xek(P:Program)(D:Nat):Nat->List Field->List (List CK×Bool)->Prop
 |_,[],[]=>True
 | off, f :: fs, (ks, ag) :: r => f.offset = off /\ f.name ≠ "_" /\ (∀ w, (sizeOf f.type).run P w = .ok ks.length w) /\ (∀ w, (isAgg f.type).run P w = .ok ag w) /\ (ag = false -> ks.length = 1) /\ EqT P D f.type ks ag /\ Xek P D (off + ks.length) fs r
 |_,_,_=>False
theorem QE{kss:List (List CK×Bool)}(Q:P.underlying t=some (.struct fs))(W:P.stoodInHeld t=false)(i:Xek P D 0 fs.toList kss):
   EqT P (D+1) t (kss.flatMap (·.1)) true:=by
 intro d w e g U hy
 have s:P.fieldsOf t=fs:=by simp[Program.fieldsOf,Q]
 have K:=run_equalIn_struct (P:=P) w (d+D) t e.toArray g.toArray (by rw[s];exact Q) W
 rw[s]at K
 show(Op.equalIn (d+(D+1)) t (.agg e.toArray) (.agg g.toArray)).run P w=_
 rw[show d+(D+1)=d+D+1 by omega,K]
 have G:∀(l:List Field) (kss:List (List CK×Bool)) (b:Nat),Xek P D b l kss->Fits (kss.flatMap (·.1)) (e.drop b)->Fits (kss.flatMap (·.1)) (g.drop b) ->
     (Op.eqFields (d+D) e.toArray g.toArray l).run P w=.ok (ceq (e.drop b) (g.drop b)) w:=by
   intro l
   induction l with
   |nil=>
    intro kss b i m j
    cases kss with
    |cons _ _=>exact i.elim
    |nil=>
     have e1:e.drop b=[]:=Al m.len
     have T:g.drop b=[]:=Al j.len
     rw[e1,T]
     simp[Op.eqFields,ceq]
   |cons f fs ih=>
    intro kss b i m j
    match kss,i with
    |(c,ag)::r,i=>
     obtain⟨M,J,v,E,I,L,X⟩:=i
     have lx:=m.len
     have ly:=j.len
     simp only[F4,AK,Fm]at lx ly
     simp only[F4]at m j
     obtain⟨B,q⟩:=Fits.split m
     obtain⟨C,o⟩:=Fits.split j
     rw[Hw]at q o
     have n:=ih r _ X q o
     have hb:c.length=0\/b+c.length<=e.length:=O
     have V:c.length=0\/b+c.length<=g.length:=O
     by_cases N:b+c.length<=e.length/\b+c.length<=g.length
     ·have R:=Jz (P:=P) (vs:=e) (off:=b) w v E I N.1
      have p2:=Jz (P:=P) (vs:=g) (off:=b) w v E I N.2
      simp only[Op.eqFields,M,J,ne_eq,not_false_eq_true,if_true,Sem.run_bind,R,p2,Result.andThen_ok,L d w _ _ B C]
      rw[Xec (x:=e.drop b) (y:=g.drop b) c.length (by rw[Fm];omega) (by rw[Fm];omega),Hw,Hw]
      cases ceq ((e.drop b).take c.length) ((g.drop b).take c.length)
      ·simp
      ·simpa using n
     ·have u:c.length=0:=O
      have z:ag=true:=by cases ag;exact absurd (I Z) O;rfl
      subst z
      have A:c=[]:=Al u
      subst A
      have p:∀(vs:List Value),(part f.type vs.toArray b).run P w=.ok (.agg #[]) w:=by
        intro vs
        unfold part
        simp only[Sem.run_bind,E,Result.andThen_ok,if_true,v,Sem.run_pure,Fw,FF]
        simp
      have h8:=L d w [] [] trivial trivial
      simp only[Op.eqFields,M,J,ne_eq,not_false_eq_true,if_true,Sem.run_bind,p,Result.andThen_ok]
      have S:(Op.equalIn (d+D) f.type (.agg #[]) (.agg #[])).run P w=.ok true w:=h8
      simp only[S,Result.andThen_ok]
      simpa using n
 have:=G fs.toList kss 0 i (by simpa using U) (by simpa using hy)
 simpa using this
theorem bEqT{d:List CK}{c b:List Value}(h:EqT P D t d true)(j:P.eqGuardType P.depth t=false)(m:Nat.ble D 10000=true)(g:Fits d c)(i:Fits d b):
 Gu P .eql t x' y' (.agg c.toArray) (.agg b.toArray) (.bool (ceq c b)):=λw=>by
 have n:=FG m
 have e:=h (10000-D) w c b g i
 rw[show 10000-D+D=10000 by omega]at e
 simp only[Sem.run_bind,run_eqGuard_agg w .eql t x' y' _ _ j,Result.andThen_ok,run_eql_struct,show(Op.equalIn 10000 t (.agg c.toArray) (.agg b.toArray)).run P w=_ from e]
theorem bNeT{d:List CK}{c b:List Value}(h:EqT P D t d true)(j:P.eqGuardType P.depth t=false)(m:Nat.ble D 10000=true)(g:Fits d c)(i:Fits d b):
 Gu P .neq t x' y' (.agg c.toArray) (.agg b.toArray) (.bool (!ceq c b)):=λw=>by
 have n:=FG m
 have e:=h (10000-D) w c b g i
 rw[show 10000-D+D=10000 by omega]at e
 simp only[Sem.run_bind,run_eqGuard_agg w .neq t x' y' _ _ j,Result.andThen_ok,run_neq_struct,show(Op.equalIn 10000 t (.agg c.toArray) (.agg b.toArray)).run P w=_ from e]
theorem GY:∀(S:List UInt8),Fits (List.replicate S.length .u8) (S.map b8)
 | []=>trivial
 |_::r=>⟨⟨_,Z⟩,GY r⟩
theorem M2:∀(S T:List UInt8),ceq (S.map b8) (T.map b8)=(S==T)
 | [],[]=>rfl
 | [],_::_=>rfl
 |_::_,[]=>rfl
 |x::r,y::s=>by
  simp only[FH,ceq,NU,M2 r s,Nh]
  rfl
theorem NZ(m n:Nat):Xlt m (List.replicate n .u8)=List.replicate (m*n) .u8:=by
 induction m with
 |zero=>simp[Xlt]
 |succ m b=>rw[Xlt,b,List.replicate_append_replicate,FB,Ht,Ij]
theorem bEqS{S T:List UInt8}(h:EqT P D t (List.replicate n .u8) true)(b:P.eqGuardType P.depth t=false)(d:Nat.ble D 10000=true)(c:S.length=n)(e:T.length=n):
 Gu P .eql t x' y' (.agg (S.map b8).toArray) (.agg (T.map b8).toArray) (.bool (S==T)):=by
 rw[<-M2]
 exact bEqT h b d (by subst c;exact GY S) (by rw[<-e];exact GY T)
theorem bNeS{S T:List UInt8}(h:EqT P D t (List.replicate n .u8) true)(b:P.eqGuardType P.depth t=false)(d:Nat.ble D 10000=true)(c:S.length=n)(e:T.length=n):
 Gu P .neq t x' y' (.agg (S.map b8).toArray) (.agg (T.map b8).toArray) (.bool (!(S==T))):=by
 rw[<-M2]
 exact bNeT h b d (by subst c;exact GY S) (by rw[<-e];exact GY T)
end
section
variable{P:Program}{l:List Oper}{Q:Exit->Act->World->Prop}{S:World->Prop}{N:Nat}{a:Act}{env:List (Nat×Value)}{w:World}
def QJ(o:Oper):Bool:=match o.op with
 |.move _=>true
 |.assign _=>true
 |.extract ..=>true
 |.pick ..=>true
 |.binOp ..=>true
 |.unOp ..=>true
 |.convert ..=>true
 |.fieldAddr ..=>true
 |.indexAddr ..=>true
 |.index ..=>true
 |_=>false
def XkF(l:List Oper)(j:Nat):Bool:=(List.range l.length).all λi=>i==j||(match l[i]? with|some o=>QJ o|none=>true)||Bm l l.length i j||Bm l l.length j i
def wpT(P:Program)(l:List Oper)(Q:Exit->Act->World->Prop):Nat->(World->Prop)->Array Bool->Act->World->Prop
 |0,_,b,a,w=>Region.ready .any l.toArray b=[]/\Q .normal a w
 |fuel+1,S,b,a,w=>
  (Region.ready .any l.toArray b=[]->Q .normal a w) /\
  ∀i∈Region.ready .any l.toArray b,wpOp P l.toArray Q i (λc w'=>(XkF l i=true/\∃d:World->Prop,d w'/\wpT P l Q fuel d (b.setIfInBounds i true) c w')\/(S w'/\wpT P l Q fuel S (b.setIfInBounds i true) c w')) a w
theorem Nx:∀(fuel:Nat)(S:World->Prop)(b:Array Bool)(a:Act)(w:World),wpT P l Q fuel S b a w->wpAny P .any l.toArray Q fuel b a w
 |0,_,_,_,_,h=>h
 |fuel+1,_,_,_,_,h=>⟨h.1,λi e=>wpOp_mono (λ_ _ c=>by
 rcases c with⟨_,d,_,c⟩|⟨_,c⟩
 ·exact Nx fuel d _ _ _ c
 ·exact Nx fuel _ _ _ _ c) (h.2 i e)⟩
theorem Xep{S e:World->Prop}(d:∀w,e w->S w):∀(fuel:Nat)(b:Array Bool)(a:Act)(w:World),wpT P l Q fuel e b a w->wpT P l Q fuel S b a w
 |0,_,_,_,h=>h
 |fuel+1,_,_,_,h=>⟨h.1,λi j=>wpOp_mono (λ_ _ c=>by
 rcases c with c|⟨m,g⟩
 ·exact .inl c
 ·exact .inr ⟨d _ m,Xep d fuel _ _ _ g⟩) (h.2 i j)⟩
theorem Xi1{b:Array Bool}(u:Closed l b)(d:l[i]?=some oi)(y:QJ oi=false)(A:i∈Region.ready .any l.toArray b)(v:j∈Region.ready .any l.toArray b)(r:j≠i):XkF l j=false:=by
 cases w:XkF l j with
 |false=>rfl
 |true=>
  exfalso
  obtain⟨n,q,e,s⟩:=mem_ready.1 A
  obtain⟨m,z,o,g⟩:=mem_ready.1 v
  have p:i<l.length:=(AB.1 d).1
  have h1:=(Ah.1 w) i (Ab.2 p)
  simp only[d,y,Bool.or_false,FM,beq_iff_eq]at h1
  have c:∀k,b.getD k true=false->b.getD k false=true->False:=λk t h1=>by
   rcases AN k b.size with h|h
   ·simp[h]at t h1;rw[t]at h1;cases h1
   ·simp[HA h]at h1
  rcases h1 with(h1|h1)|h1
  ·exact r h1.symm
  ·exact c i n (Jb u _ j z (by simpa using o) g h1)
  ·exact c j m (Jb u _ i q (by simpa using e) s h1)
theorem EW{S0:World->Prop}(V:l.toArray[i]?=some oi)(s:∀(j:Nat)(o:Oper) cs b,l.toArray[j]?=some o->o.op ≠ .select cs b)(hQ:∀c a w,Q (.panic c) (a.put oi.dst v) w->Q (.panic c) a w)(n:QJ oi=false\/∀w,S0 w):
   ∀(m:Nat)(S:World->Prop)(d:Array Bool)(a:Act)(w:World),(QJ oi=false->∀w,S w->S0 w)->Closed l d ->
     (∀j C,l.toArray[j]?=some C->j≠i->d.getD j true=false->(∀e∈C.after,Region.binds .any e=true->e.on≠i)->oi.apart l.toArray C=true) ->
     i∈Region.ready .any l.toArray d->YieldsIf P l.toArray S0 oi v a->S w ->
     wpT P l Q m S (d.setIfInBounds i true) (a.put oi.dst v) w->wpT P l Q (m+1) S d a w:=by
 intro m
 induction m with
 |zero=>
  intro S d a w p W y q U K H
  have D:S0 w:=by rcases n with h|h;exact p h w K;exact h w
  refine⟨λh=>(by rw[h]at q;cases q),λj u=>?_⟩
  by_cases g:j=i
  ·subst g;exact U.wpOp V D (.inr ⟨K,H⟩)
  ·have:=ready_mono u g
   rw[H.1]at this
   cases this
 |succ m ih=>
  intro S d a w p W y q U K H
  have D:S0 w:=by rcases n with h|h;exact p h w K;exact h w
  refine⟨λh=>(by rw[h]at q;cases q),λj u=>?_⟩
  by_cases g:j=i
  ·subst g;exact U.wpOp V D (.inr ⟨K,H⟩)
  ·have B:=H.2 j (ready_mono u g)
   obtain⟨r,C,A,T⟩:=mem_ready.1 u
   have N:∀e∈C.after,Region.binds .any e=true->e.on≠i:=λe he G a1=>by
     have B:=T e he G
     have h0:=(mem_ready.1 q).1
     rw[a1]at B
     rcases AN i d.size with h'|h'
     ·simp[h']at h0 B;rw[h0]at B;cases B
     ·simp[HA h']at B
   have h2:=wpOp_putIf A (y j C A g r N) (λcs b=>s i oi cs b V) (λcs b=>s j C cs b A) hQ U B
   have t:∀k J,l.toArray[k]?=some J->k≠i->(d.setIfInBounds j true).getD k true=false ->
       (∀e∈J.after,Region.binds .any e=true->e.on≠i)->oi.apart l.toArray J=true:=λk J hk X M a3=>by
     refine y k J hk X ?_ a3
     by_cases E:j=k
     ·subst E;exact r
     ·rw[getD_set_ne true E]at M;exact M
   refine wpOp_mono (λa' w' h3=>?_) h2
   obtain⟨L,a5⟩:=h3
   rcases a5 with⟨G,S',R,z⟩|⟨I,z⟩
   ·have a2:QJ oi=true:=by
      cases hq:QJ oi with
      |true=>rfl
      |false=>
       have a4:=Xi1 W (by simpa using V) hq q u g
       rw[a4]at G;cases G
    exact .inl ⟨G,S',R,ih S' (d.setIfInBounds j true) a' w' (λh=>by rw[a2]at h;cases h) (W.list u) t (ready_mono q (Ne.symm g)) L R (by
      rw[Iz _ _ g]
      exact z)⟩
   ·exact .inr ⟨I,ih S (d.setIfInBounds j true) a' w' p (W.list u) t (ready_mono q (Ne.symm g)) L I (by
      rw[Iz _ _ g]
      exact z)⟩
def wpR(P:Program)(l:List Oper)(Q:Exit->Act->World->Prop)(S:World->Prop)(k:Nat)(m:List Bool)(a:Act)(w:World):Prop:=
 Closed l m.toArray->k<=l.length->wpT P l Q (l.length-k) S m.toArray a w
def QP(l:List Oper)(m:List Bool)(k i:Nat):Bool:=Nat.blt k l.length&&Region.noSelect l.toArray&&(Region.ready .any l.toArray m.toArray).contains i&&Region.free .any l.toArray m.toArray i
def Xl1(l:List Oper)(m:List Bool)(k i:Nat):Bool:=Nat.blt k l.length&&match Region.ready .any l.toArray m.toArray with | [j]=>Nat.beq j i|_=>false
def EB:List Oper->Nat->Option Oper
 | [],_=>none
 |o::_,0=>some o
 |_::r,i+1=>EB r i
theorem No:∀{l:List Oper}{i:Nat}{o:Oper},EB l i=some o->l[i]?=some o
 | [],_,_,h=>by cases h
 |_::_,0,_,h=>by simpa[EB]using h
 |_::r,i+1,_,h=>by simpa using No (l:=r) h
theorem NY(m:List Bool)(i:Nat):m.toArray.setIfInBounds i true=(m.set i true).toArray:=by simp
theorem XmZ{id:Nat}(hm:P.follows .mixedOrders=true)(S:World->Prop)(h:wpR P l Q S 0 (List.replicate l.length false) a w.drew):(Code.region id l.toArray true).wp P Q a w:=by
 refine wp_region_any hm ?_
 have c:Closed l (List.replicate l.length false).toArray:=λj o d b e g i=>by
  exfalso
  simp only[Fk,Im,Fp]at b
  split at b<;>simp at b
 have:=Nx _ _ _ _ _ (h c (AU _))
 rw[Fr,show Array.replicate l.length false=(List.replicate l.length false).toArray by simp]
 exact this
theorem XmO(y:EB l i=some o)(r:QP l m k i=true)(F:Has N a env)(s:V2 l env o.guard=true)(hd:o.dst=some d)(t:Nat.blt d N=true)(n:QJ o=false)(A:∀w,S w->(execOp a.eval o).run P w=.ok (.value v) w)(B:S w)(u:∀c a w,Q (.panic c) (a.put (some d) v) w->Q (.panic c) a w)(K:∀a,Has N a ((d,v)::env)->wpR P l Q S (k+1) (m.set i true) a w):wpR P l Q S k m a w:=by
 intro q D
 simp only[QP,AJ]at r
 obtain⟨⟨⟨g,z⟩,b⟩,C⟩:=r
 have g:=IQ.mp g
 have b:i∈Region.ready .any l.toArray m.toArray:=by simpa using b
 have j:=K _ (F.put t)
 unfold wpR at j
 rw[<-NY]at j
 have e:l.length-k=(l.length-(k+1))+1:=O
 rw[e]
 have p:l.toArray[i]?=some o:=by simpa using No y
 refine EW p (Region.noSelect_spec z) (by rw[hd];exact u) (.inl n) _ _ _ _ _ (λ_ _ h=>h) q (Region.free_spec p C) b (.inl ⟨UB F s,A⟩) B (by rw[hd];exact j (q.list b) g)
theorem Xa(q:EB l i=some o)(F:Has N a env)(hd:o.dst=some d)(b:QJ o=false)(r:∀w,S w->(execOp a.eval o).run P w=.ok (.value v) w)(g:S w)(p:∀c a w,Q (.panic c) (a.put (some d) v) w->Q (.panic c) a w)(K:∀a,Has N a ((d,v)::env)->wpR P l Q S (k+1) (m.set i true) a w)(n:QP l m k i=true:=by kernel_rfl)(e:V2 l env o.guard=true:=by exact rfl)(j:Nat.blt d N=true:=by exact rfl):wpR P l Q S k m a w:=XmO q n F e hd j b r g p K
theorem eT(i:Nat)(q:EB l i=some o)(n:QP l m k i=true)(F:Has N a env)(e:V2 l env o.guard=true)(hd:o.dst=some d)(j:Nat.blt d N=true)(b:QJ o=false)(r:∀w,S w->(execOp a.eval o).run P w=.ok (.value v) w)(g:S w)(p:∀c a w,Q (.panic c) (a.put (some d) v) w->Q (.panic c) a w)(K:∀a,Has N a ((d,v)::env)->wpR P l Q S (k+1) (m.set i true) a w):wpR P l Q S k m a w:=XmO q n F e hd j b r g p K
theorem Xe(i:Nat)(q:EB l i=some o)(F:Has N a env)(hd:o.dst=some d)(b:QJ o=false)(r:∀w,S w->(execOp a.eval o).run P w=.ok (.value v) w)(g:S w)(p:∀c a w,Q (.panic c) (a.put (some d) v) w->Q (.panic c) a w)(K:∀a,Has N a ((d,v)::env)->wpR P l Q S (k+1) (m.set i true) a w)(n:QP l m k i=true:=by kernel_rfl)(e:V2 l env o.guard=true:=by exact rfl)(j:Nat.blt d N=true:=by exact rfl):wpR P l Q S k m a w:=eT i q n F e hd j b r g p K
theorem qT(i:Nat)(q:EB l i=some o)(n:QP l m k i=true)(e:V2 l env o.guard=true)(hd:o.dst=some d)(j:Nat.blt d N=true)(b:QJ o=false)(r:∀a,Has N a env->∀w,S w->(execOp a.eval o).run P w=.ok (.value v) w)(g:S w)(p:∀c a w,Q (.panic c) (a.put (some d) v) w->Q (.panic c) a w)(K:∀a,Has N a ((d,v)::env)->wpR P l Q S (k+1) (m.set i true) a w):∀a,Has N a env->wpR P l Q S k m a w:=λa F=>XmO q n F e hd j b (r a F) g p K
theorem Xfz(u:EB l i=some o)(q:QP l m k i=true)(F:Has N a env)(r:V2 l env o.guard=true)(hd:o.dst=some d)(s:Nat.blt d N=true)(z:∀w,(execOp a.eval o).run P w=.ok (.value v) w)(A:S w)(t:∀c a w,Q (.panic c) (a.put (some d) v) w->Q (.panic c) a w)(K:∀a,Has N a ((d,v)::env)->wpR P l Q S (k+1) (m.set i true) a w):wpR P l Q S k m a w:=by
 intro p C
 simp only[QP,AJ]at q
 obtain⟨⟨⟨g,y⟩,b⟩,B⟩:=q
 have g:=IQ.mp g
 have b:i∈Region.ready .any l.toArray m.toArray:=by simpa using b
 have j:=K _ (F.put s)
 unfold wpR at j
 rw[<-NY]at j
 have e:l.length-k=(l.length-(k+1))+1:=O
 rw[e]
 have n:l.toArray[i]?=some o:=by simpa using No u
 refine EW (S0:=λ_=>True) n (Region.noSelect_spec y) (by rw[hd];exact t) (.inr λ_=>trivial) _ _ _ _ _ (λ_ _ _=>trivial) p (Region.free_spec n B) b (.inl ⟨UB F r,λw _=>z w⟩) A (by rw[hd];exact j (p.list b) g)
theorem Xf(p:EB l i=some o)(F:Has N a env)(hd:o.dst=some d)(q:∀w,(execOp a.eval o).run P w=.ok (.value v) w)(e:S w)(n:∀c a w,Q (.panic c) (a.put (some d) v) w->Q (.panic c) a w)(K:∀a,Has N a ((d,v)::env)->wpR P l Q S (k+1) (m.set i true) a w)(j:QP l m k i=true:=by kernel_rfl)(b:V2 l env o.guard=true:=by exact rfl)(g:Nat.blt d N=true:=by exact rfl):wpR P l Q S k m a w:=Xfz p j F b hd g q e n K
theorem eTF(i:Nat)(p:EB l i=some o)(j:QP l m k i=true)(F:Has N a env)(b:V2 l env o.guard=true)(hd:o.dst=some d)(g:Nat.blt d N=true)(q:∀w,(execOp a.eval o).run P w=.ok (.value v) w)(e:S w)(n:∀c a w,Q (.panic c) (a.put (some d) v) w->Q (.panic c) a w)(K:∀a,Has N a ((d,v)::env)->wpR P l Q S (k+1) (m.set i true) a w):wpR P l Q S k m a w:=Xfz p j F b hd g q e n K
theorem Xb(i:Nat)(p:EB l i=some o)(F:Has N a env)(hd:o.dst=some d)(q:∀w,(execOp a.eval o).run P w=.ok (.value v) w)(e:S w)(n:∀c a w,Q (.panic c) (a.put (some d) v) w->Q (.panic c) a w)(K:∀a,Has N a ((d,v)::env)->wpR P l Q S (k+1) (m.set i true) a w)(j:QP l m k i=true:=by kernel_rfl)(b:V2 l env o.guard=true:=by exact rfl)(g:Nat.blt d N=true:=by exact rfl):wpR P l Q S k m a w:=eTF i p j F b hd g q e n K
theorem qTF(i:Nat)(p:EB l i=some o)(j:QP l m k i=true)(b:V2 l env o.guard=true)(hd:o.dst=some d)(g:Nat.blt d N=true)(q:∀a,Has N a env->∀w,(execOp a.eval o).run P w=.ok (.value v) w)(e:S w)(n:∀c a w,Q (.panic c) (a.put (some d) v) w->Q (.panic c) a w)(K:∀a,Has N a ((d,v)::env)->wpR P l Q S (k+1) (m.set i true) a w):∀a,Has N a env->wpR P l Q S k m a w:=λa F=>Xfz p j F b hd g (q a F) e n K
theorem Xg(i:Nat)(p:EB l i=some o)(hd:o.dst=some d)(q:∀a,Has N a env->∀w,(execOp a.eval o).run P w=.ok (.value v) w)(e:S w)(n:∀c a w,Q (.panic c) (a.put (some d) v) w->Q (.panic c) a w)(K:∀a,Has N a ((d,v)::env)->wpR P l Q S (k+1) (m.set i true) a w)(j:QP l m k i=true:=by kernel_rfl)(b:V2 l env o.guard=true:=by exact rfl)(g:Nat.blt d N=true:=by exact rfl):∀a,Has N a env->wpR P l Q S k m a w:=qTF i p j b hd g q e n K
theorem eSkip(u:EB l i=some o)(q:QP l m k i=true)(F:Has N a env)(r:CI l env o.guard=true)(hd:o.dst=some d)(s:Nat.blt d N=true)(y:S w)(t:∀c a w,Q (.panic c) (a.put (some d) undef) w->Q (.panic c) a w)(K:∀a,Has N a ((d,undef)::env)->wpR P l Q S (k+1) (m.set i true) a w):wpR P l Q S k m a w:=by
 intro p A
 simp only[QP,AJ]at q
 obtain⟨⟨⟨g,v⟩,b⟩,z⟩:=q
 have g:=IQ.mp g
 have b:i∈Region.ready .any l.toArray m.toArray:=by simpa using b
 have j:=K _ (F.put s)
 unfold wpR at j
 rw[<-NY]at j
 have e:l.length-k=(l.length-(k+1))+1:=O
 rw[e]
 have n:l.toArray[i]?=some o:=by simpa using No u
 refine EW (S0:=λ_=>True) n (Region.noSelect_spec v) (by rw[hd];exact t) (.inr λ_=>trivial) _ _ _ _ _ (λ_ _ _=>trivial) p (Region.free_spec n z) b (.inr ⟨Lr F r,Z⟩) y (by rw[hd];exact j (p.list b) g)
def Ke(P:Program)(l:List Oper)(Q:Exit->Act->World->Prop)(S:World->Prop)(k:Nat)(m:List Bool)(i:Nat)(a:Act)(w:World):Prop:=
 Closed l (m.set i true).toArray->k<l.length->(XkF l i=true/\∃b:World->Prop,b w/\wpT P l Q (l.length-(k+1)) b (m.set i true).toArray a w)\/(S w/\wpT P l Q (l.length-(k+1)) S (m.set i true).toArray a w)
theorem eOne(u:EB l i=some o)(c:Xl1 l m k i=true)(F:Has N a env)(r:V2 l env o.guard=true)(h:o.wp P a w (Ke P l Q S k m i) Q):wpR P l Q S k m a w:=by
 intro v z
 simp only[Xl1,AJ]at c
 obtain⟨b,c⟩:=c
 have b:=IQ.mp b
 have e:l.length-k=(l.length-(k+1))+1:=O
 rw[e]
 have p:Region.ready .any l.toArray m.toArray=[i]:=by
  split at c
  ·rename_i j g;rw[g,FP c]
  ·cases c
 have d:=v.list (i:=i) (by rw[p];simp)
 rw[NY]at d
 refine⟨λq=>(by rw[p]at q;cases q),λj g=>?_⟩
 rw[p]at g
 have n:j=i:=by simpa using g
 subst n
 have t:l.toArray[j]?=some o:=by simpa using No u
 unfold wpOp
 simp only[t,UB F r,if_true]
 refine .inl (Oper.wp_mono (λy w' s=>?_) h)
 rw[NY]
 exact s d b
theorem Xd(b:EB l i=some o)(F:Has N a env)(h:o.wp P a w (Ke P l Q S k m i) Q)(d:Xl1 l m k i=true:=by kernel_rfl)(c:V2 l env o.guard=true:=by exact rfl):wpR P l Q S k m a w:=eOne b d F c h
theorem eNil(d:(Nat.beq k l.length&&(Region.ready .any l.toArray m.toArray).isEmpty)=true)(K:Q .normal a w):wpR P l Q S k m a w:=by
 intro _ _
 obtain⟨c,e⟩:=Hy.1 d
 have b:=FP c
 subst b;rw[Ih]
 exact⟨List.isEmpty_iff.1 e,K⟩
variable{w0:World}{row:Option Nat}{rs:List Res}
theorem cRegRO{id:Nat}(hm:P.follows .mixedOrders=true)(_H:Own w0 row w rs)(h:wpR P l Q (λw=>Own w0 row w rs) 0 (List.replicate l.length false) a w.drew):(Code.region id l.toArray true).wp P Q a w:=XmZ hm _ h
theorem Xr0(hb:XkF l i=true)(_H:Own w0 row w rs)(h:wpR P l Q (λw=>Own w0 row w rs) (k+1) (m.set i true) a w):
 Ke P l Q S k m i a w:=λc b=>.inl ⟨hb,_,_H,h c b⟩
end
section
abbrev By:=Nat->UInt8
def bs(n:Nat)(s:By):List Value:=(List.range n).map λi=>b8 (s i)
def zb:By:=λ_=>0
def cut(s:By)(o:Nat):By:=λi=>s (o+i)
def put(s:By)(j:Nat)(v:UInt8):By:=λi=>if i=j then v else s i
def lay(s:By)(o m:Nat)(x:By):By:=λi=>if o<=i/\i<o+m then x (i-o)else s i
def same(n:Nat)(a b:By):Bool:=(List.range n).map a==(List.range n).map b
theorem same_iff{a b:By}:same n a b=true↔∀i,i<n->a i=b i:=by
 simp[same]
theorem XfK{a b:By}(h:∀i,i<n->a i=b i):bs n a=bs n b:=H9 λi c=>by rw[h i (Ab.1 c)]
@[simp] theorem bs_length (n:Nat) (s:By):(bs n s).length=n:=by simp[bs]
theorem GT{s:By}(h:i<n):(bs n s)[i]?=some (b8 (s i)):=by simp[bs,h]
theorem Nd{s:By}(h:n<=i):(bs n s)[i]?=none:=by simp[bs,h]
theorem Xky{s:By}{o m:Nat}(h:o+m<=n):((bs n s).drop o).take m=bs m (cut s o):=by
 refine Ar λi=>?_
 rw[FV,Fi]
 split
 ·rename_i b;rw[GT O,GT b];rfl
 ·rename_i b;rw[Nd O]
theorem XfJ(n:Nat)(s:By)(j:Nat)(v:UInt8):(bs n s).set j (b8 v)=bs n (put s j v):=by
 refine Ar λi=>?_
 rw[Am]
 rcases AN i n with h|h
 ·rw[GT h,GT h,bs_length]
  unfold put
  split
  ·rename_i e;subst e;simp[h]
  ·rename_i e;rw[if_neg (λx=>e x.symm)]
 ·rw[Nd h,bs_length,Nd h]
  split
  ·rw[if_neg O]
  ·rfl
theorem Gz:∀(vs cs:List Value)(o i:Nat),o+vs.length<=cs.length->(VZ cs o vs)[i]?=if o<=i/\i<o+vs.length then vs[i-o]? else cs[i]?
 | [],cs,o,i,_=>by rw[VZ,if_neg (by simp only[Fw];omega)]
 |v::r,cs,o,i,h=>by
  simp only[AY]at h
  rw[VZ,Gz r _ _ _ (by rw[F9];omega)]
  by_cases c:o+1<=i/\i<o+1+r.length
  ·rw[if_pos c,if_pos (by simp only[AY];omega),show i-o=(i-(o+1))+1 by omega,IN]
  ·rw[if_neg c,Am]
   by_cases b:o=i
   ·subst b;rw[if_pos Z,if_pos O,if_pos (by simp only[AY];omega),Ih];rfl
   ·rw[if_neg b,if_neg (by simp only[AY];omega)]
theorem Qk{s:By}{o m:Nat}{x:By}(h:o+m<=n):VZ (bs n s) o (bs m x)=bs n (lay s o m x):=by
 refine Ar λi=>?_
 rw[Gz _ _ _ _ (by rw[bs_length,bs_length];exact h),bs_length]
 split
 ·rename_i b;rw[GT O,GT O];unfold lay;rw[if_pos b]
 ·rename_i b
  rcases AN i n with h2|h2
  ·rw[GT h2,GT h2];unfold lay;rw[if_neg b]
  ·rw[Nd h2,Nd h2]
theorem Xcx(n:Nat)(s:By):(bs n s).all (·.oneCell')=true:=by
 rw[Ah]
 intro v b
 obtain⟨i,_,rfl⟩:=AT.1 b
 rfl
theorem QK(n:Nat)(s:By):bs n s=((List.range n).map s).map b8:=by simp[bs]
def ofL(l:List UInt8):By:=λi=>l.getD i 0
theorem Xr8(l:List UInt8):bs l.length (ofL l)=l.map b8:=by
 refine Ar λi=>?_
 rcases AN i l.length with h|h
 ·rw[GT h];simp[ofL,h]
 ·rw[Nd h];simp[h]
variable{P:Program}{l:List Oper}{Q:Exit->Act->World->Prop}{N:Nat}{a:Act}{env:List (Nat×Value)}{rest:List Oper}{d:Tmp}{ty:TypeId}{pos:String}{af:Array Edge}{g:Option (Nat×Bool)}{w0 w:World}{row:Option Nat}{rs:List Res}{Kt:Act->World->Prop}
theorem Own.cellB(H:Own w0 row w rs)(i:Nat){s:By}(c:rs[i]?=some (.blk b (bs n s) t))(d:j<n):w.cell? ⟨b,j,none⟩=some (b8 (s j)):=H.cell i c (GT d)
theorem Own.rangeB(H:Own w0 row w rs)(i:Nat){s:By}(o m:Nat)(c:rs[i]?=some (.blk b (bs n s) t))(h:o+m<=n):w.rangeAt b o (bs m (cut s o)):=by
 rw[<-Xky h];exact H.range i c o m
theorem Own.rangeB0(H:Own w0 row w rs)(i:Nat){s:By}(m:Nat)(c:rs[i]?=some (.blk b (bs n s) t))(h:m<=n):w.rangeAt b 0 (bs m s):=by
 have:=H.rangeB i 0 m c O
 rwa [show cut s 0=s from funext λi=>by simp[cut]]at this
theorem L3{o m:Nat}{s:By}{e:TypeDesc}(n:P.underlying t=some e)(c:e.isRow=true)(j:∀w,(sizeOf t).run P w=.ok m w)(F:Has N a env)(i:ev env x=some (.pointer (some ⟨b,o,none⟩)))(p:w.rangeAt b o (bs m s)):(execOp a.eval ⟨some d,.load t x,ty,pos,af,g⟩).run P w=.ok (.value (.agg (bs m s).toArray)) w:=
 rLr n c (by rw[bs_length];exact VT j) F i p
theorem Qo{o m:Nat}{s:By}{e:TypeDesc}(q:P.underlying t=some e)(c:e.isRow=true)(p:∀w,(sizeOf t).run P w=.ok m w)(F:Has N a env)(j:V2 l env g=true)(n:Nat.blt d N=true)(i:ev env x=some (.pointer (some ⟨b,o,none⟩)))(r:w.rangeAt b o (bs m s))(K:∀a,Has N a ((d,.agg (bs m s).toArray)::env)->wpList P l.toArray Q rest a w):wpList P l.toArray Q (⟨some d,.load t x,ty,pos,af,g⟩::rest) a w:=
 UV F j Z n (L3 q c p F i r) K
theorem oU(hd:o.dst=none)(b:(execOp a.eval o).run P w=.ok .skip w')(K:Kt a w'):o.wp P a w Kt Q:=by
 unfold Oper.wp
 rw[b,Oper.upon_skip,hd]
 exact K
theorem oSt(H:Own w0 row w rs)(i:Nat)(A:∀w,(sizeOf t).run P w=.ok 1 w)(F:Has N a env)(s:ev env x=some (.pointer (some ⟨b,j,none⟩)))(n:ev env y=some v)(r:v.oneCell'=true)(d:rs[i]?=some (.blk b cs bt))(B:cs[j]?=some u)(K:∀w,Own w0 row w (rs.set i (.blk b (cs.set j v) bt))->Kt a w):(Oper.mk none (.store t x y) ty pos af g).wp P a w Kt Q:=
 oU Z (w':=w.setCell ⟨b,j,none⟩ v) (by
  simp only[execOp,F.eval s,F.eval n]
  have z:=H.cell i d B
  have p:=(H.blk i d).frozen j
  have o:v.cells=#[v]:=by cases v<;>simp_all[Value.oneCell',Value.cells]
  have e:=run_storeCells_cells (P:=P) b j [v] 0 w (λq c=>by simp at c;subst c;simp[z]) (λq c=>by simp at c;subst c;simpa using p) (λq c=>by simp at c;subst c;exact r)
  simp only[FF]at e
  have m:(storeCells ⟨b,j,none⟩ [v]).run P w=.ok () (w.setCell ⟨b,j,none⟩ v):=e
  simp only[Instr.storeAt,Instr.sureAddr,storeVar,o,Sem.run_bind,Sem.run_pure,Result.andThen_ok,A,Fr,AY,Fw,ne_eq,not_true_eq_false,↓reduceIte,As,m]) (K _ (H.set i d j v))
theorem oSr{o:Nat}(H:Own w0 row w rs)(i:Nat)(hs:(P.info? t).map (·.size)=some vs.length)(F:Has N a env)(d:ev env x=some (.pointer (some ⟨b,o,none⟩)))(e:ev env y=some (.agg vs.toArray))(n:vs.all (·.oneCell')=true)(c:rs[i]?=some (.blk b cs bt))(j:Nat.ble (o+vs.length) cs.length=true)(K:∀w,Own w0 row w (rs.set i (.blk b (VZ cs o vs) bt))->Kt a w):(Oper.mk none (.store t x y) ty pos af g).wp P a w Kt Q:=
 oU Z (w':=w.setCells b o vs) (by
  simp only[execOp,F.eval d,F.eval e]
  have m:=run_storeAt_mid (P:=P) w b o t vs.toArray (by simpa using H.there i c o vs.length j) (by simpa using hs) (by simpa using n)
  simp only[Sem.run_bind,m,Result.andThen_ok,Sem.run_pure]) (K _ (Own.setCells i vs o w rs cs H c))
theorem sStB{s:By}{v:UInt8}(H:Own w0 row w rs)(i:Nat)(q:∀w,(sizeOf t).run P w=.ok 1 w)(F:Has N a env)(m:V2 l env g=true)(d:ev env x=some (.pointer (some ⟨b,j,none⟩)))(e:ev env y=some (b8 v))(p:rs[i]?=some (.blk b (bs n s) bt))(o:j<n)(K:∀w,Own w0 row w (rs.set i (.blk b (bs n (put s j v)) bt))->wpList P l.toArray Q rest a w):wpList P l.toArray Q (⟨none,.store t x y,ty,pos,af,g⟩::rest) a w:=
 sSt H i q F m d e Z p (GT o) (λw c=>K w (by rw[XfJ]at c;exact c))
theorem oStB{s:By}{v:UInt8}(H:Own w0 row w rs)(i:Nat)(p:∀w,(sizeOf t).run P w=.ok 1 w)(F:Has N a env)(d:ev env x=some (.pointer (some ⟨b,j,none⟩)))(e:ev env y=some (b8 v))(o:rs[i]?=some (.blk b (bs n s) bt))(m:j<n)(K:∀w,Own w0 row w (rs.set i (.blk b (bs n (put s j v)) bt))->Kt a w):(Oper.mk none (.store t x y) ty pos af g).wp P a w Kt Q:=
 oSt H i p F d e Z o (GT m) (λw c=>K w (by rw[XfJ]at c;exact c))
theorem sSrB{o m:Nat}{s v:By}(H:Own w0 row w rs)(i:Nat)(r:∀w,(sizeOf t).run P w=.ok m w)(F:Has N a env)(j:V2 l env g=true)(e:ev env x=some (.pointer (some ⟨b,o,none⟩)))(p:ev env y=some (.agg (bs m v).toArray))(q:rs[i]?=some (.blk b (bs n s) bt))(c:o+m<=n)(K:∀w,Own w0 row w (rs.set i (.blk b (bs n (lay s o m v)) bt))->wpList P l.toArray Q rest a w):wpList P l.toArray Q (⟨none,.store t x y,ty,pos,af,g⟩::rest) a w:=
 sSr H i (by rw[bs_length];exact VT r) F j e p (Xcx _ _) q (FR (by rw[bs_length,bs_length];exact c)) (λw d=>K w (by rw[Qk c]at d;exact d))
theorem Xgq{o m:Nat}{s v:By}(H:Own w0 row w rs)(i:Nat)(q:∀w,(sizeOf t).run P w=.ok m w)(F:Has N a env)(e:ev env x=some (.pointer (some ⟨b,o,none⟩)))(j:ev env y=some (.agg (bs m v).toArray))(p:rs[i]?=some (.blk b (bs n s) bt))(d:o+m<=n)(K:∀w,Own w0 row w (rs.set i (.blk b (bs n (lay s o m v)) bt))->Kt a w):(Oper.mk none (.store t x y) ty pos af g).wp P a w Kt Q:=
 oSr H i (by rw[bs_length];exact VT q) F e j (Xcx _ _) p (FR (by rw[bs_length,bs_length];exact d)) (λw c=>K w (by rw[Qk d]at c;exact c))
theorem V3{s v:By}:bs n (lay s 0 n v)=bs n v:=XfK λi b=>by simp[lay,b]
theorem sAlB(H:Own w0 row w rs)(j:∀w,(zeroValue t).run P w=.ok (.agg (bs n zb).toArray) w)(F:Has N a env)(c:V2 l env g=true)(i:Nat.blt d N=true)(K:∀b a w,Has N a ((d,.pointer (some ⟨b,0,none⟩))::env)->Own w0 row w (.blk b (bs n zb) t::rs)->wpList P l.toArray Q rest a w):wpList P l.toArray Q (⟨some d,.alloc t,ty,pos,af,g⟩::rest) a w:=
 sAl H j F c i (λb a w F e=>K b a w F (by simpa[Value.cells]using e))
theorem XiZ(H:Own w0 row w rs)(i:∀w,(zeroValue t).run P w=.ok (.agg (bs n zb).toArray) w)(F:Has N a env)(e:Nat.blt d N=true)(K:∀b a w,Has N a ((d,.pointer (some ⟨b,0,none⟩))::env)->Own w0 row w (.blk b (bs n zb) t::rs)->Kt a w):(Oper.mk (some d) (.alloc t) ty pos af g).wp P a w Kt Q:=
 oAl H i F e (λb a w F c=>K b a w F (by simpa[Value.cells]using c))
theorem sBxB{s:By}(H:Own w0 row w rs)(F:Has N a env)(e:V2 l env g=true)(j:Nat.blt d N=true)(c:ev env x=some (.agg (bs n s).toArray))(K:∀b a w,Has N a ((d,.pointer (some ⟨b,0,none⟩))::env)->Own w0 row w (.blk b (bs n s) t::rs)->wpList P l.toArray Q rest a w):wpList P l.toArray Q (⟨some d,.box t x,ty,pos,af,g⟩::rest) a w:=
 sBx H F e j c (λb a w F i=>K b a w F (by simpa[Value.cells]using i))
theorem rIdA{i:Operand}{b m:Nat}{s:By}{k:IntKind}(r:P.underlying t=some (.array b e))(c:∀w,(sizeOf e).run P w=.ok m w)(u:∀w,(isAgg e).run P w=.ok true w)(F:Has N a env)(q:ev env x=some (.agg (bs n s).toArray))(v:ev env i=some (.int k (j:Int)))(y:j<b)(o:j*m+m<=n):
 (execOp a.eval ⟨some d,.index t x i,ty,pos,af,g⟩).run P w=.ok (.value (.agg (bs m (cut s (j*m))).toArray)) w:=by
 have p:=Jz (P:=P) (e:=e) (n:=m) (off:=j*m) (vs:=bs n s) w c u (by simp) (by rw[bs_length];exact o)
 rw[Xky o]at p
 simp only[execOp,F.eval q,F.eval v,Instr.index,asIntOf,Sem.run_bind,Sem.run_pure,Result.andThen_ok,run_underlying r,c]
 rw[if_pos O]
 simp only[Sem.run_bind,c,Result.andThen_ok,FU,p,pk,Sem.run_pure]
theorem XqR{i:Operand}{b m:Nat}{s:By}{k:IntKind}(u:P.underlying t=some (.array b e))(z:∀w,(sizeOf e).run P w=.ok m w)(v:∀w,(isAgg e).run P w=.ok true w)(F:Has N a env)(o:V2 l env g=true)(r:Nat.blt d N=true)(c:ev env x=some (.agg (bs n s).toArray))(y:ev env i=some (.int k (j:Int)))(p:j<b)(q:j*m+m<=n)(K:∀a,Has N a ((d,.agg (bs m (cut s (j*m))).toArray)::env)->wpList P l.toArray Q rest a w):wpList P l.toArray Q (⟨some d,.index t x i,ty,pos,af,g⟩::rest) a w:=
 UV F o Z r (rIdA u z v F c y p q) K
theorem rIdV{i:Operand}{b:Nat}{s:By}{k:IntKind}(p:P.underlying t=some (.array b e))(c:∀w,(sizeOf e).run P w=.ok 1 w)(q:∀w,(isAgg e).run P w=.ok false w)(F:Has N a env)(o:ev env x=some (.agg (bs n s).toArray))(r:ev env i=some (.int k (j:Int)))(u:j<b)(v:j<n):
 (execOp a.eval ⟨some d,.index t x i,ty,pos,af,g⟩).run P w=.ok (.value (b8 (s j))) w:=by
 have m:=Jz (P:=P) (e:=e) (n:=1) (off:=j*1) (vs:=bs n s) w c q (λ_=>rfl) (by rw[bs_length];omega)
 rw[Xky O]at m
 simp only[execOp,F.eval o,F.eval r,Instr.index,asIntOf,Sem.run_bind,Sem.run_pure,Result.andThen_ok,run_underlying p,c]
 rw[if_pos O]
 simp only[Sem.run_bind,c,Result.andThen_ok,FU,m,Sem.run_pure]
 simp[pk,bs,cut,HB]
theorem sIdV{i:Operand}{b:Nat}{s:By}{k:IntKind}(r:P.underlying t=some (.array b e))(y:∀w,(sizeOf e).run P w=.ok 1 w)(u:∀w,(isAgg e).run P w=.ok false w)(F:Has N a env)(m:V2 l env g=true)(q:Nat.blt d N=true)(c:ev env x=some (.agg (bs n s).toArray))(v:ev env i=some (.int k (j:Int)))(o:j<b)(p:j<n)(K:∀a,Has N a ((d,b8 (s j))::env)->wpList P l.toArray Q rest a w):wpList P l.toArray Q (⟨some d,.index t x i,ty,pos,af,g⟩::rest) a w:=
 UV F m Z q (rIdV r y u F c v o p) K
theorem bEqY{u v:By}(h:EqT P D t (List.replicate n .u8) true)(b:P.eqGuardType P.depth t=false)(c:Nat.ble D 10000=true):
 Gu P .eql t x' y' (.agg (bs n u).toArray) (.agg (bs n v).toArray) (.bool (same n u v)):=by
 rw[QK,QK];exact bEqS h b c (by simp) (by simp)
theorem Xqg{u v:By}(h:EqT P D t (List.replicate n .u8) true)(b:P.eqGuardType P.depth t=false)(c:Nat.ble D 10000=true):
 Gu P .neq t x' y' (.agg (bs n u).toArray) (.agg (bs n v).toArray) (.bool (!(same n u v))):=by
 rw[QK,QK];exact bNeS h b c (by simp) (by simp)
end
section
variable{P:Program}{l:List Oper}{Q:Exit->Act->World->Prop}{N:Nat}{a:Act}{env:List (Nat×Value)}{rest:List Oper}{d:Tmp}{ty:TypeId}{pos:String}{af:Array Edge}{g:Option (Nat×Bool)}{w0 w:World}{row:Option Nat}{rs:List Res}{Kt:Act->World->Prop}
def Res.rws(e:TypeId)(sz:Nat)(v:Value)(rows:List (List Value)):Res:=.arr e sz v rows.length rows.flatten
theorem Own.nilRws(H:Own w0 row w rs)(e:TypeId)(sz:Nat):Own w0 row w (.rws e sz (.slice none 0 0) []::rs):=H.nilArr e sz
theorem Own.pick(H:Own w0 row w rs)(i:Nat){r:Res}(hi:rs[i]?=some r):Own w0 row w [r] where
 grown:=H.grown
 pred:=λj s b=>by
  cases j with
  |zero=>cases b;exact H.pred i r hi
  |succ j=>simp at b
 foot:=λj s b=>by
  cases j with
  |zero=>cases b;exact H.foot i r hi
  |succ j=>simp at b
 apart:=λj k s u b d c=>by
  cases j with
  |succ j=>simp at b
  |zero=>cases k with
   |zero=>exact absurd Z c
   |succ k=>simp at d
def XlD(rs:List Res):List Nat->Option (List Res)
 | []=>some []
 |i::r=>match rs[i]?,XlD rs r with
  |some x,some q=>some (x::q)
  |_,_=>none
def XfP:List Nat->Bool
 | []=>true
 |i::r=>r.all (λj=>!Nat.beq i j)&&XfP r
theorem MC{rs:List Res}:∀{d:List Nat}{c:List Res},XlD rs d=some c->∀(j:Nat)(r:Res),c[j]?=some r->∃i,d[j]?=some i/\rs[i]?=some r
 | [],c,h,j,r,b=>by cases h;simp at b
 |i::d,c,h,j,r,b=>by
  unfold XlD at h
  split at h
  ·rename_i x q o n
   cases h
   cases j with
   |zero=>simp at b;subst b;exact⟨i,Z,o⟩
   |succ j=>obtain⟨e,g,m⟩:=MC n j r (by simpa using b);exact⟨e,by simpa using g,m⟩
  ·cases h
theorem XcH:∀{d:List Nat},XfP d=true->∀{j k i:Nat},d[j]?=some i->d[k]?=some i->j=k
 | [],_,j,_,_,b,_=>by simp at b
 |x::r,h,j,k,i,b,c=>by
  simp only[XfP,AJ,Ah,Bool.not_eq_true']at h
  cases j with
  |zero=>
   cases k with
   |zero=>rfl
   |succ k=>
    simp only[I0,FE]at b
    subst b
    have:=h.1 x (AF (by simpa using c))
    rw[Ii]at this;cases this
  |succ j=>
   cases k with
   |zero=>
    simp only[I0,FE]at c
    subst c
    have:=h.1 x (AF (by simpa using b))
    rw[Ii]at this;cases this
   |succ k=>exact congrArg (· + 1) (XcH h.2 (j:=j) (k:=k) (i:=i) (by simpa using b) (by simpa using c))
theorem Own.sel(H:Own w0 row w rs)(m:List Nat){g:List Res}(hs:XlD rs m=some g)(t:XfP m=true):Own w0 row w g where
 grown:=H.grown
 pred:=λj r b=>by obtain⟨i,_,c⟩:=MC hs j r b;exact H.pred i r c
 foot:=λj r b=>by obtain⟨i,_,c⟩:=MC hs j r b;exact H.foot i r c
 apart:=λj k r u b q d=>by
  obtain⟨i,s,c⟩:=MC hs j r b
  obtain⟨n,o,p⟩:=MC hs k u q
  refine H.apart i n r u c p (λe=>d ?_);subst e
  exact XcH t s o
theorem Own.none(H:Own w0 row w rs):Own w0 row w []:=
 ⟨H.grown,λi r h=>by simp at h,λi r h=>by simp at h,λi j r s h=>by simp at h⟩
theorem Own.rowsAt(H:Own w0 row w rs)(i:Nat)(p:rs[i]?=some (.rws e sz (.slice A n c) rows))(q:∀r∈rows,r.length=sz)(b:0<sz):RowsAt w A sz rows:=by
 have h:=H.arr i p
 rcases h.2 with⟨d,o⟩|⟨g,s,t,d,_⟩
 ·have:rows=[]:=Al o
  subst this
  intro j cs m
  simp at m
 ·have u:n=rows.length:=by cases d;rfl
  subst u
  exact RowsAt.ofArr h q b
theorem Own.rwsLen(H:Own w0 row w rs)(i:Nat)(m:rs[i]?=some (.rws e sz (.slice A n c) rows)):n=rows.length/\n<=c/\c<=maxLen:=by
 have h:=H.arr i m
 rcases h.2 with⟨b,j⟩|⟨g,p,q,b,_,_,d,o,_⟩
 ·cases b;exact⟨j.symm,AI _,AU _⟩
 ·cases b;exact⟨Z,d,o⟩
theorem XkL{m:Nat}{d:Nat}(H:Own w0 row w rs)(i:Nat)(ht:P.underlying t=some (.slice e))(hi:∀w,(typeInfo e).run P w=.ok ti w)(hz:ti.zero=some z)(o:ti.size=sz)(M:ti.bytes=d)(R:z.cells.size=sz)(Q:Nat.blt 0 sz=true)(X:Nat.blt 0 d=true)(T:rs[i]?=some (.rws e sz v rows))(hm:news.length=m)(p:w.rangeAt bx ox news.flatten)(hl:∀r∈news,r.length=sz)(h1:∀r∈news,r.all (·.oneCell')=true)(y:0<m)(hb:(rows.length+m)*d<=140737488355328)(ty:TypeId):
 ∃A c' w',(Builtin.append_ #[t,t] ty #[v,.slice (some ⟨bx,ox,.none⟩) m c]).run P w=.ok (.slice A (rows++news).length c') w'/\Own w0 row w' (rs.set i (.rws e sz (.slice A (rows++news).length c') (rows++news))):=by
 have B:=IQ.mp Q
 have I:=IQ.mp X
 have N:∀(q:List (List Value)),(∀r∈q,r.length=sz)->q.flatten.length=q.length*sz:=by
  intro q hq
  induction q with
  |nil=>simp
  |cons r0 rest ih=>rw[FO,AK,ih (λr hm=>hq r (by simp[hm])),hq r0 (by simp),AY,FB];omega
 have a1:rows.length+m<=140737488355328:=AW (IM _ I) hb
 obtain⟨g,U,w',C,G,n,S,E⟩:=run_append_lies (P:=P) w t ty 0 e ti z sz d ht (LG hi) hz o M R B v rows.length rows.flatten (H.arr i T) ⟨bx,ox,.none⟩ m c news.flatten (by rw[N news hl,hm])
  (λj u W=>by simpa[Addr.add_mid]using p j u W) (λu W=>by
   obtain⟨r,L,K⟩:=List.mem_flatten.1 W
   exact(Ah.1 (h1 r L)) u K) y (by simp only[maxLen];omega) hb (AU _) w.heap.size Z
 have e1:(rows++news).length=rows.length+m:=by rw[AK,hm]
 refine⟨some ⟨g,0,.none⟩,U,w',by rw[e1];exact C,?_⟩
 have s:v.ownBlock=some g\/w.heap.size<=g:=by
  rcases S with h|h
  ·exact .inl h
  ·exact .inr O
 refine H.turn i T _ ?_ n.size (λb hb J=>n.block b hb (λe=>J (show v.ownBlock=some b from e.symm))) ?_ ?_
 ·refine⟨n.os.trans H.grown.os,n.tape.trans H.grown.tape,n.output.trans H.grown.output,AW H.grown.size n.size,λk V D=>?_⟩
  refine(n.block k (FC V H.grown.size) (λe=>?_)).trans (H.grown.block k V D)
  rcases(H.foot i _ T k (show v.ownBlock=some k from e.symm)).1 with h|h
  ·exact absurd V O
  ·exact D h
 ·show w'.ownsRow 0 e sz _ (rows++news).length (rows++news).flatten
  rw[e1,List.flatten_append]
  exact G
 ·intro b hb
  have:g=b:=by simpa[Res.rws,Res.arr,Value.ownBlock]using hb
  subst this
  rcases s with h|h
  ·exact⟨.inl h,E⟩
  ·exact⟨.inr h,E⟩
theorem Lc{ty':TypeId}{b:Value}(F:Has N a env)(hs:ev env s=some v)(c:ev env x=some u)(e:(Builtin.append_ #[t,t] ty #[v,u]).run P w=.ok b w'):
 (execOp a.eval ⟨some d,.call ⟨.builtin .append,#[s,x],#[t,t]⟩,ty,pos,af,g⟩).run P w=.ok (.value b) w':=by
 simp only[execOp,resolve,invoke,builtin,Sem.run_bind,Sem.run_pure,Result.andThen_ok,FK,FH,IB,F.eval hs,F.eval c,e]
theorem sApp{m:Nat}{b:Nat}(H:Own w0 row w rs)(i:Nat)(M:P.underlying t=some (.slice e))(I:∀w,(typeInfo e).run P w=.ok ti w)(S:ti.zero=some z)(j:ti.size=sz)(q:ti.bytes=b)(p:z.cells.size=sz)(u:Nat.blt 0 sz=true)(y:Nat.blt 0 b=true)(F:Has N a env)(C:V2 l env g=true)(E:Nat.blt d N=true)(hs:ev env s=some v)(B:ev env x=some (.slice (some ⟨bx,ox,none⟩) m c))(J:rs[i]?=some (.rws e sz v rows))(hm:news.length=m)(n:w.rangeAt bx ox news.flatten)(D:∀r∈news,r.length=sz)(T:∀r∈news,r.all (·.oneCell')=true)(o:0<m)(hb:(rows.length+m)*b<=140737488355328)(K:∀A c a w,Has N a ((d,.slice A (rows++news).length c)::env)->Own w0 row w (rs.set i (.rws e sz (.slice A (rows++news).length c) (rows++news)))->wpList P l.toArray Q rest a w):
 wpList P l.toArray Q (⟨some d,.call ⟨.builtin .append,#[s,x],#[t,t]⟩,ty,pos,af,g⟩::rest) a w:=by
 obtain⟨A,G,w',R,U⟩:=XkL (P:=P) (c:=c) H i M I S j q p u y J hm n D T o hb ty
 exact UV F C Z E (Lc (ty':=ty) F hs B R) (λa L=>K A G a w' L U)
theorem oApp{m:Nat}{b:Nat}(H:Own w0 row w rs)(i:Nat)(M:P.underlying t=some (.slice e))(I:∀w,(typeInfo e).run P w=.ok ti w)(S:ti.zero=some z)(j:ti.size=sz)(q:ti.bytes=b)(p:z.cells.size=sz)(u:Nat.blt 0 sz=true)(y:Nat.blt 0 b=true)(F:Has N a env)(D:Nat.blt d N=true)(hs:ev env s=some v)(B:ev env x=some (.slice (some ⟨bx,ox,none⟩) m c))(J:rs[i]?=some (.rws e sz v rows))(hm:news.length=m)(n:w.rangeAt bx ox news.flatten)(C:∀r∈news,r.length=sz)(T:∀r∈news,r.all (·.oneCell')=true)(o:0<m)(hb:(rows.length+m)*b<=140737488355328)(K:∀A c a w,Has N a ((d,.slice A (rows++news).length c)::env)->Own w0 row w (rs.set i (.rws e sz (.slice A (rows++news).length c) (rows++news)))->Kt a w):
 (Oper.mk (some d) (.call ⟨.builtin .append,#[s,x],#[t,t]⟩) ty pos af g).wp P a w Kt Q:=by
 obtain⟨A,E,w',R,G⟩:=XkL (P:=P) (c:=c) H i M I S j q p u y J hm n C T o hb ty
 exact oV F Z D (Lc (ty':=ty) F hs B R) (λa L=>K A E a w' L G)
theorem G7{bytes:Nat}(H:Own w0 row w rs)(i:Nat)(D:P.underlying t=some (.slice e))(B:∀w,(typeInfo e).run P w=.ok ti w)(E:ti.zero=some z)(b:ti.size=sz)(n:ti.bytes=bytes)(m:z.cells.size=sz)(o:Nat.blt 0 sz=true)(p:Nat.blt 0 bytes=true)(F:Has N a env)(r:V2 l env g=true)(y:Nat.blt d N=true)(hs:ev env s=some v)(q:ev env x=some (.slice (some ⟨bx,ox,none⟩) 1 c))(C:rs[i]?=some (.rws e sz v rows))(j:w.rangeAt bx ox cs)(u:cs.length=sz)(G:cs.all (·.oneCell')=true)(hb:(rows.length+1)*bytes<=140737488355328)(K:∀A c a w,Has N a ((d,.slice A (rows++[cs]).length c)::env)->Own w0 row w (rs.set i (.rws e sz (.slice A (rows++[cs]).length c) (rows++[cs])))->wpList P l.toArray Q rest a w):
 wpList P l.toArray Q (⟨some d,.call ⟨.builtin .append,#[s,x],#[t,t]⟩,ty,pos,af,g⟩::rest) a w:=
 sApp H i D B E b n m o p F r y hs q C (news:=[cs]) Z (by simpa using j) (by simpa using u) (by simpa using G) O hb K
theorem XlO{bytes:Nat}(H:Own w0 row w rs)(i:Nat)(C:P.underlying t=some (.slice e))(y:∀w,(typeInfo e).run P w=.ok ti w)(D:ti.zero=some z)(b:ti.size=sz)(n:ti.bytes=bytes)(m:z.cells.size=sz)(o:Nat.blt 0 sz=true)(p:Nat.blt 0 bytes=true)(F:Has N a env)(u:Nat.blt d N=true)(hs:ev env s=some v)(q:ev env x=some (.slice (some ⟨bx,ox,none⟩) 1 c))(B:rs[i]?=some (.rws e sz v rows))(j:w.rangeAt bx ox cs)(r:cs.length=sz)(E:cs.all (·.oneCell')=true)(hb:(rows.length+1)*bytes<=140737488355328)(K:∀A c a w,Has N a ((d,.slice A (rows++[cs]).length c)::env)->Own w0 row w (rs.set i (.rws e sz (.slice A (rows++[cs]).length c) (rows++[cs])))->Kt a w):
 (Oper.mk (some d) (.call ⟨.builtin .append,#[s,x],#[t,t]⟩) ty pos af g).wp P a w Kt Q:=
 oApp H i C y D b n m o p F u hs q B (news:=[cs]) Z (by simpa using j) (by simpa using r) (by simpa using E) O hb K
theorem rSlA{o:Nat}(c:P.underlying t=some (.array n e))(q:∀w,(sizeOf e).run P w=.ok sz w)(F:Has N a env)(p:ev env x=some (.pointer (some ⟨b,o,none⟩))):
 (execOp a.eval ⟨some d,.slice t x none none none,ty,pos,af,g⟩).run P w=.ok (.value (.slice (some ⟨b,o,none⟩) n n)) w:=by
 have i:P.elem t=e:=by simp[Program.elem,c]
 have m:P.arrayLen t=n:=by simp[Program.arrayLen,c]
 have j:=run_sliceAt_array_all (P:=P) w t ⟨b,o,none⟩ (by rw[i,m];exact c)
 rw[i,q,m]at j
 simp only[execOp,IU,F.eval p,Sem.run_bind,j,Result.andThen_ok,slicedAt,IZ,Iw,Sem.run_pure]
 split<;>simp[Addr.add]
theorem XpD{o c dCap Ls CN:Nat}{s:By}{d:List UInt8}(H:Own w0 row w rs)(r:P.underlying t=some (.slice e))(K:∀w,(sizeOf e).run P w=.ok 1 w)(p:rs[i]?=some (.blk b (bs n s) bt))(y:RowsAt w A 1 (d.map λx=>[b8 x]))(D:d.length=Ls)(L:o+c<=n)(ty:TypeId):
 ∃w',(Builtin.copy_ #[t,t] ty #[.slice (some ⟨b,o,none⟩) c dCap,.slice A Ls CN]).run P w=.ok (goInt ((min Ls c:Nat):Int)) w'/\Own w0 row w' (rs.set i (.blk b (bs n (lay s o (min Ls c) (ofL d))) bt)):=by
 have q:=VT (P:=P) K
 by_cases u:min Ls c=0
 ·refine⟨w,by rw[u];exact run_copy_none (P:=P) w t t ty e _ _ _ _ _ _ r q (by simpa using u),?_⟩
  have G:lay s o (min Ls c) (ofL d)=s:=funext λk=>by unfold lay;rw[if_neg O]
  rw[G]
  have:rs.set i (.blk b (bs n s) bt)=rs:=by
   refine Ar λk=>?_
   rw[Am]
   split
   ·rename_i e
    subst e
    split
    ·exact p.symm
    ·rename_i h;rw[AV O]
   ·rfl
  rw[this]
  exact H
 ·obtain⟨C,J,rfl,_⟩:=y 0 [b8 (d[0]'(by omega))] (by simp[show 0<d.length by omega])
  have B:bs (min Ls c) (ofL d)=(d.take (min Ls c)).map b8:=by
   have:=Xr8 (d.take (min Ls c))
   rw[Aj,D,show min (min Ls c) Ls=min Ls c by omega]at this;rw[<-this]
   refine XfK λk I=>?_
   simp[ofL,FV,I]
  have g:=run_copy_cells (P:=P) w t t ty e b o c dCap ⟨C,J,none⟩ Ls CN (bs (min Ls c) (ofL d)) r q (bs_length _ _)
   (λj v m=>by
    rcases AN j (min Ls c)with hj|hj
    ·rw[GT hj]at m
     cases m
     obtain⟨N,M,z,E⟩:=y j [b8 (d[j]'(by omega))] (by simp[show j<d.length by omega])
     cases z
     have:=E 0 _ Z
     simp only[FZ,FF]at this
     simpa[Addr.add_mid,ofL,show j<d.length by omega]using this
    ·rw[Nd hj]at m;cases m)
   (λj hj=>by rw[bs_length]at hj;rw[H.cellB i p O];rfl) (λj hj=>(H.blk i p).frozen _) (λv m=>(Ah.1 (Xcx _ _)) v m)
  rw[bs_length]at g
  refine⟨_,g,?_⟩
  have:=Own.setCells i (bs (min Ls c) (ofL d)) o w rs _ H p
  rw[Qk O]at this
  exact this
theorem XpC{r:Value}(F:Has N a env)(b:ev env x=some u)(c:ev env y=some v)(e:(Builtin.copy_ #[t,t] ty #[u,v]).run P w=.ok r w'):
 (execOp a.eval ⟨some d,.call ⟨.builtin .copy,#[x,y],#[t,t]⟩,ty,pos,af,g⟩).run P w=.ok (.value r) w':=by
 simp only[execOp,resolve,invoke,builtin,Sem.run_bind,Sem.run_pure,Result.andThen_ok,FK,FH,IB,F.eval b,F.eval c,e]
theorem oCpB{o c j Ls CN:Nat}{s:By}{p:List UInt8}(H:Own w0 row w rs)(i:Nat)(D:P.underlying t=some (.slice e))(G:∀w,(sizeOf e).run P w=.ok 1 w)(F:Has N a env)(u:Nat.blt d N=true)(q:ev env x=some (.slice (some ⟨b,o,none⟩) c j))(C:ev env y=some (.slice A Ls CN))(z:rs[i]?=some (.blk b (bs n s) bt))(I:RowsAt w A 1 (p.map λx=>[b8 x]))(m:p.length=Ls)(r:o+c<=n)(K:∀a w,Has N a ((d,goInt ((min Ls c:Nat):Int))::env)->Own w0 row w (rs.set i (.blk b (bs n (lay s o (min Ls c) (ofL p))) bt))->Kt a w):
 (Oper.mk (some d) (.call ⟨.builtin .copy,#[x,y],#[t,t]⟩) ty pos af g).wp P a w Kt Q:=by
 obtain⟨w',E,v⟩:=XpD (P:=P) (dCap:=j) (CN:=CN) H D G z I m r ty
 exact oV F Z u (XpC F q C E) (λa B=>K a w' B v)
inductive FillB (place:Nat->Option (Nat×Nat)) (n:Nat):By->List (Nat×Value)->By->Prop where
 |nil {s:By}:FillB place n s [] s
 |one {s s':By} {i o:Nat} {v:UInt8} {ps:List (Nat×Value)} (hp:place i=some (o,1)) (h:Nat.blt o n=true) (r:FillB place n (put s o v) ps s'):FillB place n s ((i,b8 v)::ps) s'
 |row {s s' x:By} {i o m:Nat} {ps:List (Nat×Value)} (hp:place i=some (o,m)) (h:Nat.ble (o+m) n=true) (r:FillB place n (lay s o m x) ps s'):FillB place n s ((i,.agg (bs m x).toArray)::ps) s'
theorem FillB.to{b:Nat->Option (Nat×Nat)}{s c:By}(h:FillB b n s ps c):JF b (bs n s) ps=some (bs n c):=by
 induction h with
 |nil=>rfl
 | @one s c i o v ps e h _ d=>
   have h:=IQ.mp h
   unfold JF
   simp only[e]
   have g:(Value.cells (b8 v)).toList=[b8 v]:=rfl
   rw[g]
   have j:(Nat.beq [b8 v].length 1&&Nat.ble (o+[b8 v].length) (bs n s).length)=true:=by
    rw[bs_length,AJ];exact⟨Z,FR h⟩
   rw[j]
   simp only[cond_true,VZ,XfJ]
   exact d
 | @row s c x i o m ps e h _ d=>
   have h:=FG h
   unfold JF
   simp only[e]
   have g:(Value.cells (.agg (bs m x).toArray)).toList=bs m x:=rfl
   rw[g,bs_length,bs_length]
   have j:(Nat.beq m m&&Nat.ble (o+m) n)=true:=by
    rw[AJ];exact⟨Ii _,FR h⟩
   rw[j]
   simp only[cond_true]
   rw[Qk h]
   exact d
theorem rBdB{c:List (Nat×Operand)}{b:List (Nat×Nat)}{s:By}(o:∀w,(zeroValue t).run P w=.ok (.agg (bs n zb).toArray) w)(p:P.underlying t=some (.struct fs))(j:fs.toList.mapM (λf=>(P.info? f.type).map λi=>(f.offset,i.size))=some b)(F:Has N a env)(e:evP env c=some ps)(m:FillB (λi=>b[i]?) n zb ps s):
 (execOp a.eval ⟨some d,.build t c.toArray,ty,pos,af,g⟩).run P w=.ok (.value (.agg (bs n s).toArray)) w:=
 rBd o p j F e m.to
theorem Xin{b:List (Nat×Operand)}{places:List (Nat×Nat)}{s:By}(p:∀w,(zeroValue t).run P w=.ok (.agg (bs n zb).toArray) w)(q:P.underlying t=some (.struct fs))(m:fs.toList.mapM (λf=>(P.info? f.type).map λi=>(f.offset,i.size))=some places)(F:Has N a env)(c:V2 l env g=true)(j:Nat.blt d N=true)(e:evP env b=some ps)(o:FillB (λi=>places[i]?) n zb ps s)(K:∀a,Has N a ((d,.agg (bs n s).toArray)::env)->wpList P l.toArray Q rest a w):wpList P l.toArray Q (⟨some d,.build t b.toArray,ty,pos,af,g⟩::rest) a w:=
 UV F c Z j (rBdB p q m F e o) K
end
section
variable{P:Program}{l:List Oper}{Q:Exit->Act->World->Prop}{N:Nat}{a:Act}{env:List (Nat×Value)}{rest:List Oper}{d:Tmp}{ty:TypeId}{pos:String}{af:Array Edge}{g:Option (Nat×Bool)}{w0 w:World}{row:Option Nat}{rs:List Res}{Kt:Act->World->Prop}
theorem XfH{s:By}{d:TypeDesc}(H:Own w0 row w rs)(j:P.underlying st=some d)(c:d.isRow=true)(g:∀w,(sizeOf st).run P w=.ok n w)(e:rs[i]?=some (.blk b (bs n s) bt)):
 (loadVar st ⟨b,0,none⟩).run P w=.ok (.agg (bs n s).toArray) w:=
 run_loadVar_mid (P:=P) w b 0 st (bs n s) d (H.whole i e) j c (by rw[bs_length];exact VT g)
theorem DB{a:Act}{t:Nat}(h:a.tmps.getD t undef=v):a.tmps[t]?.getD undef=v:=by simpa using h
theorem D6(b:Nat):(asAddr (.pointer (some ⟨b,0,none⟩))).run P w=.ok ⟨b,0,none⟩ w:=rfl
theorem J2{t : Tmp}{s:By}{e:TypeDesc}(c:fn.results=#[.cell t st])(F:Has N a env)(m:lk env t=some (.pointer (some ⟨b,0,none⟩)))(o:P.underlying st=some e)(d:e.isRow=true)(j:∀w,(sizeOf st).run P w=.ok n w)(H:Own w0 row w rs)(i:Nat)(g:rs[i]?=some (.blk b (bs n s) bt))(h:R (.returned (.agg (bs n s).toArray)) w):bodyPost P fn R .ret a w:=by
 refine bodyPost_ret (v:=.agg (bs n s).toArray) ?_ F.nod h
 have p:=XfH (P:=P) H o d j g
 unfold results
 rw[c,IY]
 simp[p,DB (F.get t _ m),D6,Sem.run_bind]
theorem QM{t u:Tmp}{s:By}{e:TypeDesc}{y:Value}(c:fn.results=#[.cell t st,.tmp u])(F:Has N a env)(o:lk env t=some (.pointer (some ⟨b,0,none⟩)))(g:lk env u=some y)(p:P.underlying st=some e)(d:e.isRow=true)(m:∀w,(sizeOf st).run P w=.ok n w)(H:Own w0 row w rs)(i:Nat)(j:rs[i]?=some (.blk b (bs n s) bt))(h:R (.returned (.tuple #[.agg (bs n s).toArray,y])) w):bodyPost P fn R .ret a w:=by
 refine bodyPost_ret (v:=.tuple #[.agg (bs n s).toArray,y]) ?_ F.nod h
 have q:=XfH (P:=P) H p d m j
 unfold results
 rw[c,IY]
 simp[q,DB (F.get t _ o),D6,DB (F.get u _ g),Sem.run_bind]
theorem Nf{t:Tmp}{e:TypeDesc}(c:fn.results=#[.cell t st])(F:Has N a env)(m:lk env t=some (.pointer (some ⟨b,0,none⟩)))(o:P.underlying st=some e)(d:e.isRow=true)(H:Own w0 row w rs)(i:Nat)(g:rs[i]?=some (.blk b cs bt))(j:∀w,(sizeOf st).run P w=.ok n w)(p:Nat.beq cs.length n=true)(h:R (.returned (.agg cs.toArray)) w):bodyPost P fn R .ret a w:=
 bodyPost_ret (Da c F m o d (by rw[FP p];exact VT j) (H.blk i g)) F.nod h
theorem rMinN{k e:IntKind}(F:Has N a env)(b:ev env x=some (.int k (i:Int)))(c:ev env y=some (.int e (j:Int))):
 (execOp a.eval ⟨some d,.call ⟨.builtin .min,#[x,y],ts⟩,ty,pos,af,g⟩).run P w=.ok (.value (.int k ((min i j:Nat):Int))) w:=by
 simp only[execOp,resolve,invoke,builtin,Sem.run_bind,Sem.run_pure,Result.andThen_ok,FK,FH,IB,F.eval b,F.eval c,Builtin.min_,List.foldlM,Builtin.min2]
 congr 4
 split<;>omega
theorem XoJ{k m:IntKind}(F:Has N a env)(e:V2 l env g=true)(n:Nat.blt d N=true)(b:ev env x=some (.int k (i:Int)))(c:ev env y=some (.int m (j:Int)))(K:∀a,Has N a ((d,.int k ((min i j:Nat):Int))::env)->wpList P l.toArray Q rest a w):wpList P l.toArray Q (⟨some d,.call ⟨.builtin .min,#[x,y],ts⟩,ty,pos,af,g⟩::rest) a w:=
 UV F e Z n (rMinN F b c) K
theorem BZ{b:List Operand}(F:Has N a env)(i:Nat.blt d N=true)(c:ev env x=some v)(m:evL env b=some vs)(o:JL P v vs w R)(K:∀e w,R e w->∃v,e=.returned v/\∀a,Has N a ((d,v)::env)->Kt a w):(Oper.mk (some d) (.call ⟨.value x,b.toArray,ts⟩) ty pos af g).wp P a w Kt Q:=by
 obtain⟨f,q,p,rfl,n,j⟩:=o
 exact Xrx F i c n m j K
/-! ### An array's element, by simpler places -/
theorem rIaZ{i:Operand}{k:IntKind}(o:P.underlying t=some (.array n e))(q:∀w,(sizeOf e).run P w=.ok sz w)(F:Has N a env)(c:ev env x=some (.pointer (some ⟨b,0,none⟩)))(p:ev env i=some (.int k (j:Int)))(m:j<n):(execOp a.eval ⟨some d,.indexAddr t x i,ty,pos,af,g⟩).run P w=.ok (.value (.pointer (some ⟨b,j*sz,none⟩))) w:=by
 have h:=rIa (P:=P) (d:=d) (ty:=ty) (pos:=pos) (af:=af) (g:=g) (w:=w) o q F c p m
 simpa only[As,FZ]using h
theorem Xa1{i:Operand}{k:IntKind}(q:P.underlying t=some (.array n e))(s:∀w,(sizeOf e).run P w=.ok sz w)(F:Has N a env)(m:V2 l env g=true)(p:Nat.blt d N=true)(c:ev env x=some (.pointer (some ⟨b,0,none⟩)))(r:ev env i=some (.int k (j:Int)))(o:j<n)(K:∀a,Has N a ((d,.pointer (some ⟨b,j*sz,none⟩))::env)->wpList P l.toArray Q rest a w):wpList P l.toArray Q (⟨some d,.indexAddr t x i,ty,pos,af,g⟩::rest) a w:=
 UV F m Z p (rIaZ q s F c r o) K
theorem Xq9{i:Operand}{k:IntKind}(o:P.underlying t=some (.array n e))(q:∀w,(sizeOf e).run P w=.ok 1 w)(F:Has N a env)(c:ev env x=some (.pointer (some ⟨b,0,none⟩)))(p:ev env i=some (.int k (j:Int)))(m:j<n):(execOp a.eval ⟨some d,.indexAddr t x i,ty,pos,af,g⟩).run P w=.ok (.value (.pointer (some ⟨b,j,none⟩))) w:=by
 have h:=rIa (P:=P) (d:=d) (ty:=ty) (pos:=pos) (af:=af) (g:=g) (w:=w) o q F c p m
 simpa only[As,FZ]using h
theorem XqS{i:Operand}{k:IntKind}(q:P.underlying t=some (.array n e))(s:∀w,(sizeOf e).run P w=.ok 1 w)(F:Has N a env)(m:V2 l env g=true)(p:Nat.blt d N=true)(c:ev env x=some (.pointer (some ⟨b,0,none⟩)))(r:ev env i=some (.int k (j:Int)))(o:j<n)(K:∀a,Has N a ((d,.pointer (some ⟨b,j,none⟩))::env)->wpList P l.toArray Q rest a w):wpList P l.toArray Q (⟨some d,.indexAddr t x i,ty,pos,af,g⟩::rest) a w:=
 UV F m Z p (Xq9 q s F c r o) K
theorem rIa1{i:Operand}{o:Nat}{k:IntKind}(p:P.underlying t=some (.array n e))(r:∀w,(sizeOf e).run P w=.ok 1 w)(F:Has N a env)(c:ev env x=some (.pointer (some ⟨b,o,none⟩)))(q:ev env i=some (.int k (j:Int)))(m:j<n):(execOp a.eval ⟨some d,.indexAddr t x i,ty,pos,af,g⟩).run P w=.ok (.value (.pointer (some ⟨b,o+j,none⟩))) w:=by
 have h:=rIa (P:=P) (d:=d) (ty:=ty) (pos:=pos) (af:=af) (g:=g) (w:=w) p r F c q m
 simpa only[As,FZ]using h
theorem sIa1{i:Operand}{o:Nat}{k:IntKind}(r:P.underlying t=some (.array n e))(u:∀w,(sizeOf e).run P w=.ok 1 w)(F:Has N a env)(m:V2 l env g=true)(q:Nat.blt d N=true)(c:ev env x=some (.pointer (some ⟨b,o,none⟩)))(s:ev env i=some (.int k (j:Int)))(p:j<n)(K:∀a,Has N a ((d,.pointer (some ⟨b,o+j,none⟩))::env)->wpList P l.toArray Q rest a w):wpList P l.toArray Q (⟨some d,.indexAddr t x i,ty,pos,af,g⟩::rest) a w:=
 UV F m Z q (rIa1 r u F c s p) K
theorem Xp7{s:TypeId}{f o:Nat}{c:Field}(hs:P.underlying s=some (.struct fs))(m:fs[f]?=some c)(n:∀w,(sizeOf c.type).run P w=.ok sz w)(e:Nat.beq sz 0=false)(j:c.offset=0)(F:Has N a env)(i:ev env x=some (.pointer (some ⟨b,o,none⟩))):(execOp a.eval ⟨some d,.fieldAddr s x f,ty,pos,af,g⟩).run P w=.ok (.value (.pointer (some ⟨b,o,none⟩))) w:=
 rFa hs m n e (by rw[j,FF]) F i
theorem XqT{s:TypeId}{f o:Nat}{c:Field}(hs:P.underlying s=some (.struct fs))(p:fs[f]?=some c)(q:∀w,(sizeOf c.type).run P w=.ok sz w)(e:Nat.beq sz 0=false)(n:c.offset=0)(F:Has N a env)(j:V2 l env g=true)(m:Nat.blt d N=true)(i:ev env x=some (.pointer (some ⟨b,o,none⟩)))(K:∀a,Has N a ((d,.pointer (some ⟨b,o,none⟩))::env)->wpList P l.toArray Q rest a w):wpList P l.toArray Q (⟨some d,.fieldAddr s x f,ty,pos,af,g⟩::rest) a w:=
 UV F j Z m (Xp7 hs p q e n F i) K
/-! ### A slice of one element -/
theorem Xbi{zs:List Value}(h:cs.length=zs.length):VZ zs 0 cs=cs:=by
 refine Ar λi=>?_
 rw[Gz _ _ _ _ O,Iw,As]
 split
 ·rfl
 ·rename_i b;rw[AV O,AV O]
theorem EN{b:Nat}(c:z.cells.toList.length=b)(d:v.cells.toList.length=b):JF (λi=>some (i*b,b)) (rep 1 z.cells.toList) [(0,v)]=some v.cells.toList:=by
 have e:rep 1 z.cells.toList=z.cells.toList:=by simp[rep]
 rw[e]
 unfold JF
 simp only[IZ,As]
 have g:(Nat.beq v.cells.toList.length b&&Nat.ble v.cells.toList.length z.cells.toList.length)=true:=by
  rw[d,c,AJ];exact⟨Ii _,FR (AI _)⟩
 rw[g]
 simp only[cond_true,JF]
 rw[Xbi (by rw[d,c])]
theorem XeN(H:Own w0 row w rs)(o:P.underlying t=some (.slice e))(hs:∀w,(sizeOf e).run P w=.ok 1 w)(p:∀w,(zeroValue e).run P w=.ok z w)(c:z.cells.toList.length=1)(F:Has N a env)(m:V2 l env g=true)(n:Nat.blt d N=true)(j:ev env x=some v)(q:v.oneCell'=true)(K:∀b a w,Has N a ((d,.slice (some ⟨b,0,none⟩) 1 1)::env)->Own w0 row w (.blk b [v] e::rs)->wpList P l.toArray Q rest a w):wpList P l.toArray Q (⟨some d,.buildSlice t 1 #[(0,x)],ty,pos,af,g⟩::rest) a w:=by
 have i:v.cells.toList=[v]:=by cases v<;>simp_all[Value.oneCell',Value.cells]
 refine sBs (parts:=[(0,x)]) H o hs p c F m n (ps:=[(0,v)]) (by simp[evP,j]) Z (EN c (by rw[i];rfl)) ?_;rw[i]
 exact K
theorem oBs1(H:Own w0 row w rs)(n:P.underlying t=some (.slice e))(hs:∀w,(sizeOf e).run P w=.ok 1 w)(o:∀w,(zeroValue e).run P w=.ok z w)(c:z.cells.toList.length=1)(F:Has N a env)(m:Nat.blt d N=true)(j:ev env x=some v)(p:v.oneCell'=true)(K:∀b a w,Has N a ((d,.slice (some ⟨b,0,none⟩) 1 1)::env)->Own w0 row w (.blk b [v] e::rs)->Kt a w):(Oper.mk (some d) (.buildSlice t 1 #[(0,x)]) ty pos af g).wp P a w Kt Q:=by
 have i:v.cells.toList=[v]:=by cases v<;>simp_all[Value.oneCell',Value.cells]
 refine oBs (parts:=[(0,x)]) H n hs o c F m (ps:=[(0,v)]) (by simp[evP,j]) Z (EN c (by rw[i];rfl)) ?_;rw[i]
 exact K
theorem XeM(H:Own w0 row w rs)(o:P.underlying t=some (.slice e))(hs:∀w,(sizeOf e).run P w=.ok sz w)(p:∀w,(zeroValue e).run P w=.ok z w)(c:z.cells.toList.length=sz)(F:Has N a env)(j:V2 l env g=true)(n:Nat.blt d N=true)(i:ev env x=some (.agg cs.toArray))(q:cs.length=sz)(m:Nat.ble (1*sz) 16777216=true)(K:∀b a w,Has N a ((d,.slice (some ⟨b,0,none⟩) 1 1)::env)->Own w0 row w (.blk b cs e::rs)->wpList P l.toArray Q rest a w):wpList P l.toArray Q (⟨some d,.buildSlice t 1 #[(0,x)],ty,pos,af,g⟩::rest) a w:=by
 have r:(Value.agg cs.toArray).cells.toList=cs:=rfl
 refine sBs (parts:=[(0,x)]) H o hs p c F j n (ps:=[(0,.agg cs.toArray)]) (by simp[evP,i]) m (EN c (by rw[r,q])) ?_
 exact K
theorem oBsA(H:Own w0 row w rs)(n:P.underlying t=some (.slice e))(hs:∀w,(sizeOf e).run P w=.ok sz w)(o:∀w,(zeroValue e).run P w=.ok z w)(c:z.cells.toList.length=sz)(F:Has N a env)(m:Nat.blt d N=true)(i:ev env x=some (.agg cs.toArray))(p:cs.length=sz)(j:Nat.ble (1*sz) 16777216=true)(K:∀b a w,Has N a ((d,.slice (some ⟨b,0,none⟩) 1 1)::env)->Own w0 row w (.blk b cs e::rs)->Kt a w):(Oper.mk (some d) (.buildSlice t 1 #[(0,x)]) ty pos af g).wp P a w Kt Q:=by
 have q:(Value.agg cs.toArray).cells.toList=cs:=rfl
 refine oBs (parts:=[(0,x)]) H n hs o c F m (ps:=[(0,.agg cs.toArray)]) (by simp[evP,i]) j (EN c (by rw[q,p])) ?_
 exact K
/-! ### Maps from bytes, by their entries -/
def Res.mpB(b:Nat)(m:List (UInt8×Value)):Res where
 foot:=(· = b)
 pred:=λw=>∃g d,w.heap[b]?=some (.map g d)/\g.toList.map (λe=>(e.key,e.val))=m.map λp=>(b8 p.1,p.2)
 loc:=λ_ _ h hp=>by
  obtain⟨g,c,j,i⟩:=hp
  exact⟨g,c,(h b rfl).trans j,i⟩
def XdS(k:UInt8)(b:List (UInt8×Value)):Option (UInt8×Value):=b.find? λp=>k==p.1
theorem Xb5(k:UInt8){q:IntKind}:∀(c:List MapEntry) (b:List (UInt8×Value)) (i:Nat),c.map (λe=>(e.key,e.val))=b.map (λp=>(b8 p.1,p.2)) ->
 ∃j,Instr.findNow (.int q) (b8 k) c i=some ((XdS k b).map λp=>(j,p.2))
 | [],[],i,_=>⟨0,Z⟩
 |e::c,p::b,i,h=>by
  simp only[FH,List.cons.injEq,Prod.mk.injEq]at h
  obtain⟨⟨r,o⟩,m⟩:=h
  unfold Instr.findNow
  have n:Instr.sameNow (.int q) (b8 k) e.key=some (k==p.1):=by
   rw[r];unfold b8 Instr.sameNow;simp only[if_true];rw[Nh]
  rw[n]
  cases d:k==p.1 with
  |true=>exact⟨i,by simp[XdS,d,o]⟩
  |false=>
   obtain⟨j,g⟩:=Xb5 k c b (i+1) m
   refine⟨j,?_⟩
   simp only[XdS,List.find?_cons,d]
   exact g
 | [],_::_,_,h=>by simp at h
 |_::_,[],_,h=>by simp at h
theorem Cm(b:P.underlying t=some (.int q))(e:Bool)(n:Nat)(v:Value)(w:World):(Instr.checkKey e (n+1) t v).run P w=.ok () w:=by
 unfold Instr.checkKey
 simp[run_underlying b]
theorem Xb7(g:P.underlying t=some (.int q)){k:UInt8}{b:List MapEntry}{c:List (UInt8×Value)}(h:b.map (λe=>(e.key,e.val))=c.map (λp=>(b8 p.1,p.2)))(w:World):
 ∃j,(Instr.findKey t (b8 k) b).run P w=.ok ((XdS k c).map λp=>(j,p.2)) w:=by
 obtain⟨j,d⟩:=Xb5 (q:=q) k b c 0 h
 exact⟨j,by unfold Instr.findKey;simp[run_underlying g,d]⟩
theorem sMkM(H:Own w0 row w rs)(F:Has N a env)(e:V2 l env g=true)(i:Nat.blt d N=true)(K:∀b a w,Has N a ((d,.map (some b))::env)->Own w0 row w (.mpB b []::rs)->wpList P l.toArray Q rest a w):wpList P l.toArray Q (⟨some d,.makeMap t none,ty,pos,af,g⟩::rest) a w:=
 UV F e Z i (v:=.map (some w.heap.size)) (w':=w.alloc (.map #[] 0)) (by simp[execOp,run_makeMap]) (λm c=>K _ _ _ c (H.add (.mpB w.heap.size []) ((Below.refl _ _).alloc (AI _) _)
  ⟨#[],0,heap_alloc_new w _,Z⟩ (λb j=>by cases j;exact⟨AI _,by simp⟩)))
theorem XqQ{C L:TypeId}{m:Operand}{k:UInt8}{z:List (UInt8×Value)}(H:Own w0 row w rs)(i:Nat)(R:P.underlying t=some (.map C L))(E:P.underlying C=some (.int q))(F:Has N a env)(J:V2 l env g=true)(hm:ev env m=some (.map (some b)))(I:ev env x=some (b8 k))(M:ev env y=some v)(s:rs[i]?=some (.mpB b z))(S:XdS k z=none)(K:∀w,Own w0 row w (rs.set i (.mpB b (z++[(k,v)])))->wpList P l.toArray Q rest a w):wpList P l.toArray Q (⟨none,.insert t m x y,ty,pos,af,g⟩::rest) a w:=by
 obtain⟨A,d,p,G⟩:=H.pred i _ s
 obtain⟨j,B⟩:=Xb7 (P:=P) E (k:=k) G w
 rw[S]at B
 have n:b<w.heap.size:=by
  rcases AN b w.heap.size with h|h
  ·exact h
  ·rw[HA h]at p;cases p
 refine Xdb F J Z (w':={w with heap:=w.heap.setIfInBounds b (.map (A.push {key:=b8 k,val:=v,born:=d}) (d+1))}) ?_ (K _ ?_)
 ·simp only[execOp,F.eval hm,F.eval I,F.eval M,Instr.mapUpdate,Sem.run_bind,run_underlying R,Result.andThen_ok]
  have u:(getObj b).run P w=.ok (.map A d) w:=MapKept.run_getObj_map p
  simp only[u,Result.andThen_ok,Sem.run_bind,Cm E,B,IU]
  simp only[MapKept.run_setObj_map _ p,Result.andThen_ok,Sem.run_pure]
 ·refine H.turn i s _ ?_ (by simp) (λc o e=>by simp[Ne.symm e]) ⟨A.push {key:=b8 k,val:=v,born:=d},d+1,by simp[n],by simp[G]⟩ (λc o=>⟨.inl o,by cases o;simpa using n⟩)
  refine⟨H.grown.os,H.grown.tape,H.grown.output,by simpa using H.grown.size,λc o e=>?_⟩
  have r:c≠b:=by
   rintro rfl
   rcases(H.foot i _ s c rfl).1 with h|h
   ·omega
   ·exact e h
  rw[<-H.grown.block c o e]
  simp[Ne.symm r]
theorem rLkB{o y:TypeId}{m:Operand}{k z:UInt8}{p:List (UInt8×Value)}(H:Own w0 row w rs)(i:Nat)(A:P.underlying t=some (.map o y))(r:P.underlying o=some (.int q))(F:Has N a env)(hm:ev env m=some (.map (some b)))(s:ev env x=some (b8 k))(u:rs[i]?=some (.mpB b p))(E:XdS k p=some (z,v)):
 (execOp a.eval ⟨some d,.lookup t m x true,ty,pos,af,g⟩).run P w=.ok (.value (.tuple #[v,.bool true])) w:=by
 obtain⟨C,c,D,B⟩:=H.pred i _ u
 obtain⟨j,n⟩:=Xb7 (P:=P) r (k:=k) B w
 rw[E]at n
 have e:(getObj b).run P w=.ok (.map C c) w:=MapKept.run_getObj_map D
 simp only[execOp,F.eval hm,F.eval s,Instr.lookup,Sem.run_bind,run_underlying A,Result.andThen_ok,e,Sem.run_pure,Cm r,n,H7,if_true]
end
section
variable{P:Program}{l:List Oper}{Q:Exit->Act->World->Prop}{S:World->Prop}{N:Nat}{a:Act}{env:List (Nat×Value)}{w:World}
def XiC(l:List Oper)(m:List Bool)(k:Nat)(b:List Nat):Bool:=Nat.blt k l.length&&(Region.ready .any l.toArray m.toArray==b)
theorem XrZ{n:List Nat}(r:XiC l m k n=true)(h:∀i∈n,∃o,EB l i=some o/\V2 l env o.guard=true/\o.wp P a w (Ke P l Q S k m i) Q)(c:n.isEmpty=false)(F:Has N a env):wpR P l Q S k m a w:=by
 intro y B
 simp only[XiC,AJ,beq_iff_eq]at r
 obtain⟨b,q⟩:=r
 have b:=IQ.mp b
 have e:l.length-k=(l.length-(k+1))+1:=O
 rw[e]
 refine⟨λs=>(by rw[q]at s;rw[s]at c;cases c),λj g=>?_⟩
 have d:=y.list g
 rw[NY]at d;rw[q]at g
 obtain⟨o,p,t,z⟩:=h j g
 have v:l.toArray[j]?=some o:=by simpa using No p
 unfold wpOp
 simp only[v,UB F t,if_true]
 refine .inl (Oper.wp_mono (λA w' u=>?_) z)
 rw[NY]
 exact u d b
theorem XcR{b:Oper}(n:XiC l m k [i,j]=true)(F:Has N a env)(p:EB l i=some oi)(g:EB l j=some b)(d:V2 l env oi.guard=true)(c:V2 l env b.guard=true)(r:oi.wp P a w (Ke P l Q S k m i) Q)(o:b.wp P a w (Ke P l Q S k m j) Q):wpR P l Q S k m a w:=
 XrZ n (λq e=>by
  simp only[Ap,IE,or_false]at e
  rcases e with rfl|rfl
  ·exact⟨oi,p,d,r⟩
  ·exact⟨b,g,c,o⟩) Z F
theorem V6(b:S w)(h:wpR P l Q S (k+1) (m.set i true) a w):Ke P l Q S k m i a w:=λd c=>.inr ⟨b,h d c⟩
theorem eUp{w0:World}{row:Option Nat}{rs:List Res}(_H:Own w0 row w rs)(b:∀w,Own w0 row w rs->S w)(h:wpR P l Q (λw=>Own w0 row w rs) k m a w):wpR P l Q S k m a w:=λd c=>Xep b _ _ _ _ (h d c)
theorem DU{w0:World}{row:Option Nat}{rs:List Res}(_F:Has N a env)(_H:Own w0 row w rs)(i:List Nat)(c:Nat)(d:List Bool)(J:List Res->List (Nat×Value)->World->Prop){e:List (Nat×Value)}(_hs:SubR env i e)(g:∀b a w,J rs b w->Has N a (b++e)->wpR P l Q S c d a w)(h:(∀b a w,J rs b w->Has N a (b++e)->wpR P l Q S c d a w)->wpR P l Q S k m a w):wpR P l Q S k m a w:=h g
theorem eGo{c:List Bool}{J:List (Nat×Value)->World->Prop}{e:List (Nat×Value)}(d:∀b a w,J b w->Has N a (b++e)->wpR P l Q S k c a w)(hm:m=c)(b:List (Nat×Value))(h:J b w)(F:Has N a (b++e)):wpR P l Q S k m a w:=by
 subst hm;exact d b a w h F
end
theorem eT8:EqT prog 1 5 [.u8] false:=Br Xq (.inl Z)
theorem eT59:EqT prog 2 59 (List.replicate 8 .u8) true:=by
 have h:=Xcd (P:=prog) (ks:=List.replicate 1 .u8) XI Xr XD (λ_=>rfl) (Br (P:=prog) Xq (.inl Z))
 rw[NZ]at h
 exact h
theorem eT60:EqT prog 3 60 (List.replicate 32 .u8) true:=by
 have h:=Xcd (P:=prog) (ks:=List.replicate 8 .u8) underlying60 XF isAgg59 (λh=>(by cases h)) eT59
 rw[NZ]at h
 exact h
theorem eT61:EqT prog 2 61 (List.replicate 6 .u8) true:=by
 have h:=Xcd (P:=prog) (ks:=List.replicate 1 .u8) XC Xr XD (λ_=>rfl) (Br (P:=prog) Xq (.inl Z))
 rw[NZ]at h
 exact h
theorem gT61:prog.eqGuardType prog.depth 61=false:=by kernel_rfl
theorem zB61:∀w,(zeroValue 61).run prog w=.ok (.agg (bs 6 zb).toArray) w:=λw=>(zeroValue61 w).trans (congrArg (λc=>Result.ok (Value.agg c) w) Y)
theorem eT63:EqT prog 4 63 (List.replicate 38 .u8) true:=by
 have h:=QE (P:=prog) (D:=3) (kss:=[(List.replicate 32 .u8,true),(List.replicate 6 .u8,true)]) XN Y ⟨Z,by decide,sizeOf60,isAgg60,λh=>(by cases h),(eT60).up 0,Z,by decide,XB,isAgg61,λh=>(by cases h),(eT61).up 1,trivial⟩
 exact h
theorem gT63:prog.eqGuardType prog.depth 63=false:=by kernel_rfl
theorem zB63:∀w,(zeroValue 63).run prog w=.ok (.agg (bs 38 zb).toArray) w:=λw=>(zeroValue63 w).trans (congrArg (λc=>Result.ok (Value.agg c) w) Y)
theorem eT77:EqT prog 3 77 (List.replicate 9 .u8) true:=by
 have h:=QE (P:=prog) (D:=2) (kss:=[(List.replicate 1 .u8,false),(List.replicate 8 .u8,true)]) Xn Y ⟨Z,by decide,Xr,XD,λ_=>rfl,((Br (P:=prog) Xq (.inl Z))).up 1,Z,by decide,XF,isAgg59,λh=>(by cases h),(eT59).up 0,trivial⟩
 exact h
theorem gT77:prog.eqGuardType prog.depth 77=false:=by kernel_rfl
theorem Xof:∀w,(zeroValue 77).run prog w=.ok (.agg (bs 9 zb).toArray) w:=λw=>(zeroValue77 w).trans (congrArg (λc=>Result.ok (Value.agg c) w) Y)
theorem eT78:EqT prog 4 78 (List.replicate 36 .u8) true:=by
 have h:=Xcd (P:=prog) (ks:=List.replicate 9 .u8) Xs Xo isAgg77 (λh=>(by cases h)) eT77
 rw[NZ]at h
 exact h
theorem eT80:EqT prog 2 80 (List.replicate 2 .u8) true:=by
 have h:=QE (P:=prog) (D:=1) (kss:=[(List.replicate 1 .u8,false),(List.replicate 1 .u8,false)]) Xx Y ⟨Z,by decide,Xr,XD,λ_=>rfl,((Br (P:=prog) Xq (.inl Z))).up 0,Z,by decide,Xr,XD,λ_=>rfl,((Br (P:=prog) Xq (.inl Z))).up 0,trivial⟩
 exact h
theorem gT80:prog.eqGuardType prog.depth 80=false:=by kernel_rfl
theorem Xhk:∀w,(zeroValue 80).run prog w=.ok (.agg (bs 2 zb).toArray) w:=λw=>(zeroValue80 w).trans (congrArg (λc=>Result.ok (Value.agg c) w) Y)
theorem eT81:EqT prog 3 81 (List.replicate 24 .u8) true:=by
 have h:=Xcd (P:=prog) (ks:=List.replicate 2 .u8) Xw Xv isAgg80 (λh=>(by cases h)) eT80
 rw[NZ]at h
 exact h
theorem eT82:EqT prog 4 82 (List.replicate 96 .u8) true:=by
 have h:=Xcd (P:=prog) (ks:=List.replicate 24 .u8) underlying82 sizeOf81 isAgg81 (λh=>(by cases h)) eT81
 rw[NZ]at h
 exact h
theorem gT82:prog.eqGuardType prog.depth 82=false:=by kernel_rfl
theorem eT83:EqT prog 2 83 (List.replicate 4 .u8) true:=by
 have h:=Xcd (P:=prog) (ks:=List.replicate 1 .u8) underlying83 Xr XD (λ_=>rfl) (Br (P:=prog) Xq (.inl Z))
 rw[NZ]at h
 exact h
theorem gT83:prog.eqGuardType prog.depth 83=false:=by kernel_rfl
theorem eT85:EqT prog 5 85 (List.replicate 142 .u8) true:=by
 have h:=QE (P:=prog) (D:=4) (kss:=[(List.replicate 36 .u8,true),(List.replicate 6 .u8,true),(List.replicate 96 .u8,true),(List.replicate 4 .u8,true)]) Xm Y ⟨Z,by decide,sizeOf78,isAgg78,λh=>(by cases h),(eT78).up 0,Z,by decide,XB,isAgg61,λh=>(by cases h),(eT61).up 2,Z,by decide,sizeOf82,isAgg82,λh=>(by cases h),(eT82).up 0,Z,by decide,sizeOf83,isAgg83,λh=>(by cases h),(eT83).up 2,trivial⟩
 exact h
theorem Lf:∀w,(zeroValue 85).run prog w=.ok (.agg (bs 142 zb).toArray) w:=λw=>(zeroValue85 w).trans (congrArg (λc=>Result.ok (Value.agg c) w) Y)
theorem Xqo:∀w,(zeroValue 281).run prog w=.ok (.agg (bs 2 zb).toArray) w:=λw=>(zeroValue281 w).trans (congrArg (λc=>Result.ok (Value.agg c) w) Y)
end Go.Proofs.YtajfpcgbnflceaaGreatDoor
