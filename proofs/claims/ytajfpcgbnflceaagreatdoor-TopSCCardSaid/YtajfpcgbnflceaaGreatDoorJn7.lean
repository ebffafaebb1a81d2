/- A range over a function whatever it yields: a law by parts of memory. Conditions: those of the law. -/
import Derived.Test.YtajfpcgbnflceaaGreatDoorJn6
set_option linter.unusedSimpArgs false
set_option linter.unusedVariables false
namespace Go.Proofs.YtajfpcgbnflceaaGreatDoor
open Go.Proofs.Tryz
open Go.RowKit
set_option maxRecDepth 100000
set_option maxHeartbeats 1000000
variable{N a b gf n:Nat}{P:Program}{Q:Exit->Act->World->Prop}{body:Code}{ds:List Deferred}{env:List (Nat×Value)}{lb:Array Value}{pl:List Tmp}{rs ts:List Res}{s:UInt64}{vs:List Value}{w w0:World}
variable{α:Type}
def IterR(P:Program)(gf:Nat)(lb:Array Value)(b:α->List Value->List Res->Prop)(i:List α)(w0:World)(row:Option Nat)(ts:List Res):Prop:=
 ∀(p:Nat)(J q:List α->List Res->Prop)(w:World)(r:List Res),Own w0 row w (r++ts)->J [] r ->
  (∀(c:List α)(x:α)(d:List Value)(n:List Res)(s:World)(m o:List Res),J c m->c++[x] <+: i->b x d n->Own w0 row s (n++(m++o)) ->
   YieldAt Fence.wide 0 P p d.toArray s λe t=>∃j,Own w0 row t (n++(j++o))/\((e=.returned (.bool true)/\J (c++[x]) j)\/(e=.returned (.bool false)/\q (c++[x]) j))) ->
  CallsIn Fence.wide 0 P gf (#[.func (.yield p) #[] #[]]++lb) w λe u=>(∃v,e=.returned v)/\∃g,Own w0 row u (g++ts)/\(J i g\/∃c,c <+: i/\q c g)
def XkT(P:Program)(gf:Nat)(lb:Array Value)(b:α->List Value->List Res->List Res->Prop)(i:List α)(w0:World)(row:Option Nat)(ts:List Res):Prop:=
 ∀(p:Nat)(J q:List α->List Res->Prop)(w:World)(r:List Res),Own w0 row w (r++ts)->J [] r ->
  (∀(c:List α)(x:α)(d:List Value)(t o:List Res)(s:World)(m n:List Res),J c m->c++[x] <+: i->b x d t o->Own w0 row s (t++(m++n)) ->
   YieldAt Fence.wide 0 P p d.toArray s λe u=>∃j,Own w0 row u (o++(j++n))/\((e=.returned (.bool true)/\J (c++[x]) j)\/(e=.returned (.bool false)/\q (c++[x]) j))) ->
  CallsIn Fence.wide 0 P gf (#[.func (.yield p) #[] #[]]++lb) w λe y=>(∃v,e=.returned v)/\∃g,Own w0 row y (g++ts)/\(J i g\/∃c,c <+: i/\q c g)
theorem IterR.g{b:α->List Value->List Res->Prop}{d:List α}{row:Option Nat}(h:IterR P gf lb b d w0 row ts):XkT P gf lb (λx c e n=>b x c e/\n=e) d w0 row ts:=
 λs J u w v H q o=>h s J u w v H q λj x c e y i m z t p r=>o j x c e e y i m z t ⟨p,Z⟩ r
abbrev Xp2(P:Program)(gf:Nat)(lb:Array Value)(b:α->List Value->List Res->Prop)(c:List α)(w0:World)(ts:List Res):Prop:=IterR P gf lb b c w0 none ts
theorem Own.putR{row:Option Nat}(H:Own w0 row w rs)(i:Nat){o:Obj}(hb:w0.heap.size<=b)(p:rs[i]?=some (.obj b o))(m:Obj):Own w0 row (w.putObj b m) (rs.set i (.obj b m)):=by
 have n:=H.foot i _ p b Z
 refine H.turn i p (.obj b m) ⟨H.grown.os,H.grown.tape,H.grown.output,by simpa using H.grown.size,λk q j=>?_⟩ (by simp) (λc d g=>?_) (World.putObj_heap_same n.2) (λc d=>?_)
 ·exact(World.putObj_heap_other O).trans (H.grown.block k q j)
 ·exact World.putObj_heap_other (λe=>g e)
 ·have d:c=b:=d
  subst d
  exact⟨.inl Z,by simpa using n.2⟩
theorem Has.puts{N:Nat}{ds:List Deferred}:∀(l:List (Tmp×Value)) (a:Act) (env:List (Nat×Value)),Has N a env->(∀p∈l,p.1<N)->Has N ({tmps:=l.foldl (λb (t,v)=>b.setIfInBounds t v) a.tmps,defers:=[]}:Act) (l.reverse++env)
 | [],a,env,F,_=>⟨F.size,Z,F.get⟩
 |(t,v)::r,a,env,F,h=>by
  have c:=F.put (d:=t) (v:=v) (FR (h (t,v) (by simp)))
  have e:a.put (some t) v=({tmps:=a.tmps.setIfInBounds t v,defers:=[]}:Act):=by simp only[Act.put,F.nod]
  rw[e]at c
  have:=Has.puts (ds:=ds) r _ _ c (λp g=>h p (by simp[g]))
  simpa using this
theorem Xnr{g:Operand}{assign:Code}{a:Act}{row:Option Nat}{us:List Res}{d:α->List Value->List Res->List Res->Prop}{V:List α}(F:Has N a env)(aL:∀p∈pl,p<N)(aM:∀x j z J,d x j z J->j.length=pl.length)(hg:ev env g=some (.func (.func gf) #[] lb))(eg:∀j w,(callFunc gf j).run P w=.ok (.enter gf j) w)(H:Own w0 row w (us++ts))(aI:XkT P gf lb d V w0 row ts)(I:List α->List Res->Prop)(Ix:Code->List α->List Res->Prop)(h0:I [] us)(aB:List Value->List Res->List (Nat×Value)->Prop)(R:∀(l:Nat)(a1:Act)(W:World)(vs:List Value)(xs:List Res)(K:Act->World->Prop),vs.length=pl.length->(∃x z J,d x vs z J)->Has N a1 ((pl.zip vs).reverse++env)->Own w0 row W xs->(∀a2 W2 B ad,aB vs B ad->Has N a2 (ad++((pl.zip vs).reverse++env))->Own w0 row W2 (B++xs)->K (wD a2 []) W2)->assign.wpIn (Fence.wide.inRound l) 0 P (Exit.then K (λ_ _ _=>False)) (wD a1 []) W)(a8:∀(l:Nat)(r:List α)(x:α)(j:List Value)(z J B:List Res) (ad:List (Nat×Value)) (W:World) (a9 G:List Res) (a2:Act),I r a9->r++[x] <+: V->d x j z J->aB j B ad->Own w0 row W (B++(z++(a9++G)))->Has N a2 (ad++((pl.zip j).reverse++env)) ->
     body.wpIn (Fence.wide.inRound l) 0 P (Xbs I Ix (r++[x]) (λn w2=>Own w0 row w2 (J++(n++G)))) (wD a2 []) W)(a6:∀(D:Nat)(W:World)(i:List Res),I V i->Own w0 row W (.obj D (.deferred (some []))::(i++ts))->Q .normal (wD a (NG D::ds)) W)(a7:∀(D:Nat)(c:Code)(r:List α)(W:World)(i:List Res),r <+: V->Ix c r i->Own w0 row W (.obj D (.deferred (some []))::(i++ts))->c.wpIn Fence.wide 0 P Q (wD a (NG D::ds)) W):
   (Code.rangeFunc g pl.toArray assign body).wpIn Fence.wide 0 P Q (wD a ds) w:=by
 refine wpIn_rangeFunc ?_
 intro fn aK
 obtain⟨D,hD⟩:∃D,D=w.heap.size:=⟨_,Z⟩
 have a4:w0.heap.size<=D+1:=by have:=H.grown.size;omega
 obtain⟨rec,u⟩:∃rec:LoopState->Option Code->Loop,rec=λst pe=>{state:=st,pending:=pe,fn,tmps:=a.tmps,params:=pl.toArray,assign,body,defers:=D}:=⟨_,Z⟩
 have HD:Own w0 row (w.alloc (.deferred (some []))) (.obj D (.deferred (some []))::(us++ts)):=by rw[hD];exact H.newObj _
 have HL:Own w0 row ((w.alloc (.deferred (some []))).alloc (.loop (rec .ready none))) (.obj (D+1) (.loop (rec .ready none)):: .obj D (.deferred (some []))::(us++ts)):=by
   have:=HD.newObj (.loop (rec .ready none))
   rw[World.size_alloc,<-hD]at this
   exact this
 obtain⟨W1,aA⟩:∃W1,(w.alloc (.deferred (some []))).alloc (.loop (rec .ready none))=W1:=⟨_,Z⟩
 rw[aA]at HL
 refine⟨D+1,[NG D],W1,{target:=.fn (.func gf) lb,args:=#[.func (.yield (D+1)) #[] #[]]},W1,gf,#[.func (.yield (D+1)) #[] #[]]++lb,W1,?_,?_,λ_ _=>trivial,?_,λh=>(by cases h),?_⟩
 ·rw[<-aA,u,hD];exact run_enterLoop_outer _ _ _ _ _
 ·have aG:(wD a ds).eval g=.func (.func gf) #[] lb:=by rw[Jk];exact F.eval hg
  simp only[resolve,aG]
  simp[go_sem]
 ·simp[invoke,go_sem,eg]
 ·refine(aI (D+1)
    (λr ps=>∃i,ps=.obj (D+1) (.loop (rec .ready none)):: .obj D (.deferred (some []))::i/\I r i)
    (λr ps=>∃c i,ps=.obj (D+1) (.loop (rec .done (some c))):: .obj D (.deferred (some []))::i/\Ix c r i)
    W1 (.obj (D+1) (.loop (rec .ready none)):: .obj D (.deferred (some []))::us) HL ⟨us,Z,h0⟩ ?_).mono ?_
  ·rintro r x j z J w1 _ G ⟨aF,rfl,hi⟩ aH hY H1
   have hl:w1.heap[D+1]?=some (.loop (rec .ready none)):=by
     have:=H1.pred z.length (.obj (D+1) (.loop (rec .ready none))) (by simp)
     exact this
   have aD:=aM _ _ _ _ hY
   have hy:=run_yield (P:=P) (args:=j.toArray) hl (by rw[u];simp[aD])
   rw[u]at hy
   have F1:=Has.puts (ds:=ds) (pl.zip j) a env F (λq hq=>aL _ (List.of_mem_zip hq).1)
   have ez:(pl.toArray.zip j.toArray).foldl (λA (t,v)=>A.setIfInBounds t v) a.tmps=(pl.zip j).foldl (λA (t,v)=>A.setIfInBounds t v) a.tmps:=by simp
   replace hy:(Instr.yield (D+1) j.toArray).run P w1=.ok (.round (D+1) fn ((pl.zip j).foldl (λA (t,v)=>A.setIfInBounds t v) a.tmps) assign body) w1:=by rw[<-ez];exact hy
   have aC:=R (D+1) _ w1 j _ (λa₁ w₁=>∃w₂,(Instr.beginRound (D+1)).run P w₁=.ok () w₂/\body.wpIn (Fence.wide.inRound (D+1)) 0 P (roundPost P (D+1) (λe w2=>∃n,Own w0 row w2 (J++(n++G))/\((e=.returned (.bool true)/\∃i,n=.obj (D+1) (.loop (rec .ready none)):: .obj D (.deferred (some []))::i/\I (r++[x]) i)\/(e=.returned (.bool false)/\∃c i,n=.obj (D+1) (.loop (rec .done (some c))):: .obj D (.deferred (some []))::i/\Ix c (r++[x]) i)))) a₁ w₂) aD ⟨x,z,J,hY⟩ F1 H1 (λa2 W2 B ad hA F2 H1=>?_)
   ·refine⟨fn,_,assign,body,hy,roundIn_of_wpIn aK ?_⟩
    exact aC
   ·rw[<-AO]at H1
    have hl:W2.heap[D+1]?=some (.loop (rec .ready none)):=by
      have:=H1.pred (B++z).length (.obj (D+1) (.loop (rec .ready none))) (by simp)
      exact this
    refine⟨_,run_beginRound hl (by rw[u]),?_⟩
    have H2:=H1.putR (B++z).length (b:=D+1) (hb:=a4) (o:=.loop (rec .ready none)) (by simp) (.loop {rec .ready none with state:=.busy})
    have a5:∀(z:List Res)(o o':Obj)(i:List Res),(z++((.obj (D+1) o:: .obj D (.deferred (some []))::i)++G)).set z.length (.obj (D+1) o')=z++((.obj (D+1) o':: .obj D (.deferred (some []))::i)++G):=λz o o' i=>by
      rw[HM _ _ (AI _)];simp
    have L:∀(z:List Res)(o:Obj)(i:List Res),(z++((.obj (D+1) o:: .obj D (.deferred (some []))::i)++G)).Perm (z++(i++(.obj (D+1) o:: .obj D (.deferred (some []))::G))):=λz o i=>by
      refine List.Perm.append_left _ ?_
      have X:(i++(Res.obj (D+1) o::Res.obj D (.deferred (some []))::G)).Perm (Res.obj (D+1) o::(i++(Res.obj D (.deferred (some []))::G))):=FS
      have U:(i++(Res.obj D (.deferred (some []))::G)).Perm (Res.obj D (.deferred (some []))::(i++G)):=FS
      exact(X.trans (U.cons _)).symm
    rw[a5]at H2;refine wpIn_mono (a8 (D+1) r x j z J B ad _ aF _ a2 hi aH hY hA (by rw[<-AO];exact H2.perm (L _ _ aF)) F2) ?_
    have S:∀(m:Option Code)(M:World)(T:List Res),Own w0 row M (J++(T++(.obj (D+1) (.loop {rec .ready none with state:=.busy}):: .obj D (.deferred (some []))::G))) ->
        (Instr.endRound (D+1) m).run P M=.ok (.bool m.isNone) (M.putObj (D+1) (.loop (rec (if m.isNone then .ready else .done) m))) /\
        Own w0 row (M.putObj (D+1) (.loop (rec (if m.isNone then .ready else .done) m))) (J++((.obj (D+1) (.loop (rec (if m.isNone then .ready else .done) m)):: .obj D (.deferred (some []))::T)++G)):=λm M T E=>by
      have H4:=E.perm (L _ _ T).symm
      have aJ:M.heap[D+1]?=some (.loop {rec .ready none with state:=.busy}):=by
        have:=H4.pred J.length (.obj (D+1) (.loop {rec .ready none with state:=.busy})) (by simp)
        exact this
      have y:=run_endRound (P:=P) m aJ
      have H5:=H4.putR J.length (b:=D+1) (hb:=a4) (o:=.loop {rec .ready none with state:=.busy}) (by simp) (.loop (rec (if m.isNone then .ready else .done) m))
      rw[a5]at H5;rw[u]at y H5⊢
      exact⟨y,H5⟩
    rintro e a3 M hp
    cases e with
    |normal=>
     obtain⟨n,C,E⟩:=hp
     obtain⟨X,U⟩:=S none M n E
     exact⟨_,_,X,_,U,.inl ⟨Z,n,Z,C⟩⟩
    |ret=>
     obtain⟨n,C,E⟩:=hp
     obtain⟨X,U⟩:=S (some .ret) M n E
     exact⟨_,_,X,_,U,.inr ⟨Z,_,n,Z,C⟩⟩
    |exit id=>
     obtain⟨n,C,E⟩:=hp
     obtain⟨X,U⟩:=S (some (.exit id)) M n E
     exact⟨_,_,X,_,U,.inr ⟨Z,_,n,Z,C⟩⟩
    |goto t=>
     obtain⟨n,C,E⟩:=hp
     obtain⟨X,U⟩:=S (some (.goto t)) M n E
     exact⟨_,_,X,_,U,.inr ⟨Z,_,n,Z,C⟩⟩
    |panic ch=>exact hp.elim
    |outgrown=>exact hp.elim
  ·rintro e W2 ⟨⟨v,rfl⟩,aN,H',(⟨i,rfl,hi⟩|⟨r,aE,c,i,rfl,hi⟩)⟩
   ·have hl:W2.heap[D+1]?=some (.loop (rec .ready none)):=H'.pred 0 _ Z
    have y:=run_endLoop (P:=P) hl (by rw[u];simp)
    have E:=(H'.putR 0 (b:=D+1) a4 Z (.loop {rec .ready none with state:=.exhausted})).tail
    rw[u]at y E
    exact⟨none,_,y,a6 D _ i hi E⟩
   ·have hl:W2.heap[D+1]?=some (.loop (rec .done (some c))):=H'.pred 0 _ Z
    have y:=run_endLoop (P:=P) hl (by rw[u];simp)
    have E:=(H'.putR 0 (b:=D+1) a4 Z (.loop {rec .done (some c)with state:=.exhausted})).tail
    rw[u]at y E
    exact⟨some c,_,y,a7 D c r _ i aE hi E⟩
theorem Xiy{g:Operand}{assign:Code}{a:Act}{row:Option Nat}{us:List Res}{b:α->List Value->List Res->Prop}{o:List α}(F:Has N a env)(M:∀p∈pl,p<N)(R:∀x d q,b x d q->d.length=pl.length)(hg:ev env g=some (.func (.func gf) #[] lb))(eg:∀d w,(callFunc gf d).run P w=.ok (.enter gf d) w)(H:Own w0 row w (us++ts))(G:IterR P gf lb b o w0 row ts)(I:List α->List Res->Prop)(C:Code->List α->List Res->Prop)(X:I [] us)(s:List Value->List (Nat×Value))(j:∀(l:Nat)(A:Act)(W:World)(vs:List Value)(K:Act->World->Prop),vs.length=pl.length->Has N A ((pl.zip vs).reverse++env)->(∀n,Has N n (s vs++((pl.zip vs).reverse++env))->K (wD n []) W)->assign.wpIn (Fence.wide.inRound l) 0 P (Exit.then K (λ_ _ _=>False)) (wD A []) W)(u:∀(l:Nat)(e:List α)(x:α)(d:List Value)(q:List Res)(W:World)(m z:List Res)(n:Act),I e m->e++[x] <+: o->b x d q->Own w0 row W (q++(m++z))->Has N n (s d++((pl.zip d).reverse++env)) ->
  body.wpIn (Fence.wide.inRound l) 0 P (Xbs I C (e++[x]) (λS w2=>Own w0 row w2 (q++(S++z)))) (wD n []) W)(r:∀(D:Nat)(W:World)(i:List Res),I o i->Own w0 row W (.obj D (.deferred (some []))::(i++ts))->Q .normal (wD a (NG D::ds)) W)(t:∀(D:Nat)(c:Code)(e:List α)(W:World)(i:List Res),e <+: o->C c e i->Own w0 row W (.obj D (.deferred (some []))::(i++ts))->c.wpIn Fence.wide 0 P Q (wD a (NG D::ds)) W):
 (Code.rangeFunc g pl.toArray assign body).wpIn Fence.wide 0 P Q (wD a ds) w:=
 Xnr F M (λx d q T h=>R x d q h.1) hg eg H G.g I C X (λvs y U=>y=[]/\U=s vs) (λl A W vs xs K L _ E v B=>j l A W vs K L E λn J=>B n W [] _ ⟨Z,Z⟩ J v)
  (λl e x d q T y U W m z n L E v B J V=>by obtain⟨v,rfl⟩:=v;obtain⟨rfl,rfl⟩:=B;exact u l e x d T W m z n L E v J V) r t
theorem Xdm{g:Operand}{assign:Code}{a:Act}{row:Option Nat}{b:α->List Value->List Res->Prop}{m:List α}(k:Nat)(F:Has N a env)(z:∀p∈pl,p<N)(A:∀x d t,b x d t->d.length=pl.length)(L:ev env g=some (.func (.func gf) #[] lb))(M:∀d w,(callFunc gf d).run P w=.ok (.enter gf d) w)(H:Own w0 row w rs)(y:IterR P gf lb b m w0 row (rs.drop k))(I:List α->List Res->Prop)(v:Code->List α->List Res->Prop)(G:I [] (rs.take k))(o:List Value->List (Nat×Value))(j:∀(l:Nat)(E:Act)(W:World)(vs:List Value)(K:Act->World->Prop),vs.length=pl.length->Has N E ((pl.zip vs).reverse++env)->(∀u,Has N u (o vs++((pl.zip vs).reverse++env))->K (wD u []) W)->assign.wpIn (Fence.wide.inRound l) 0 P (Exit.then K (λ_ _ _=>False)) (wD E []) W)(r:∀(l:Nat)(e:List α)(x:α)(d:List Value)(t:List Res)(W:World)(s C:List Res)(u:Act),I e s->e++[x] <+: m->b x d t->Own w0 row W (t++(s++C))->Has N u (o d++((pl.zip d).reverse++env)) ->
  body.wpIn (Fence.wide.inRound l) 0 P (Xbs I v (e++[x]) (λB J=>Own w0 row J (t++(B++C)))) (wD u []) W)(n:∀(D:Nat)(W:World)(i:List Res),I m i->Own w0 row W (.obj D (.deferred (some []))::(i++rs.drop k))->Q .normal (wD a (NG D::ds)) W)(q:∀(D:Nat)(c:Code)(e:List α)(W:World)(i:List Res),e <+: m->v c e i->Own w0 row W (.obj D (.deferred (some []))::(i++rs.drop k))->c.wpIn Fence.wide 0 P Q (wD a (NG D::ds)) W):
 (Code.rangeFunc g pl.toArray assign body).wpIn Fence.wide 0 P Q (wD a ds) w:=
 Xiy (us:=rs.take k) (ts:=rs.drop k) F z A L M (by rw[FL];exact H) y I v G o j r n q
theorem XoN{g:Operand}{assign:Code}{a:Act}{row:Option Nat}{b:α->List Value->List Res->List Res->Prop}{n:List α}(k:Nat)(F:Has N a env)(C:∀p∈pl,p<N)(E:∀x d u t,b x d u t->d.length=pl.length)(U:ev env g=some (.func (.func gf) #[] lb))(V:∀d w,(callFunc gf d).run P w=.ok (.enter gf d) w)(H:Own w0 row w rs)(B:XkT P gf lb b n w0 row (rs.drop k))(I:List α->List Res->Prop)(A:Code->List α->List Res->Prop)(S:I [] (rs.take k))(r:List Value->List Res->List (Nat×Value)->Prop)(m:∀(l:Nat)(L:Act)(W:World)(vs:List Value)(M:List Res)(K:Act->World->Prop),vs.length=pl.length->(∃x u t,b x vs u t)->Has N L ((pl.zip vs).reverse++env)->Own w0 row W M->(∀z R j y,r vs j y->Has N z (y++((pl.zip vs).reverse++env))->Own w0 row R (j++M)->K (wD z []) R)->assign.wpIn (Fence.wide.inRound l) 0 P (Exit.then K (λ_ _ _=>False)) (wD L []) W)(s:∀(l:Nat)(e:List α)(x:α)(d:List Value)(u t j:List Res) (y:List (Nat×Value)) (W:World) (v J:List Res) (z:Act),I e v->e++[x] <+: n->b x d u t->r d j y->Own w0 row W (j++(u++(v++J)))->Has N z (y++((pl.zip d).reverse++env)) ->
  body.wpIn (Fence.wide.inRound l) 0 P (Xbs I A (e++[x]) (λG T=>Own w0 row T (t++(G++J)))) (wD z []) W)(o:∀(D:Nat)(W:World)(i:List Res),I n i->Own w0 row W (.obj D (.deferred (some []))::(i++rs.drop k))->Q .normal (wD a (NG D::ds)) W)(q:∀(D:Nat)(c:Code)(e:List α)(W:World)(i:List Res),e <+: n->A c e i->Own w0 row W (.obj D (.deferred (some []))::(i++rs.drop k))->c.wpIn Fence.wide 0 P Q (wD a (NG D::ds)) W):
 (Code.rangeFunc g pl.toArray assign body).wpIn Fence.wide 0 P Q (wD a ds) w:=
 Xnr (us:=rs.take k) (ts:=rs.drop k) F C E U V (by rw[FL];exact H) B I A S r m s o q
theorem XgI{p:Tmp}(h:vs.length=[p].length):∃v,vs=[v]:=by
 cases vs with
 |nil=>simp at h
 |cons v r=>cases r with
  |nil=>exact⟨v,Z⟩
  |cons _ _=>simp at h
theorem len2Y{p q:Tmp}(h:vs.length=[p,q].length):∃u v,vs=[u,v]:=by
 cases vs with
 |nil=>simp at h
 |cons u r=>
  obtain⟨v,rfl⟩:=XgI (p:=p) (vs:=r) (by simpa using h)
  exact⟨u,v,Z⟩
namespace Md
variable{P:Program}{l:List Oper}{Q:Exit->Act->World->Prop}{N:Nat}{a:Act}{env:List (Nat×Value)}{w w0:World}{ds:List Deferred}{G:Fence}{n:Nat}{rest:List Oper}{d:Tmp}{ty:TypeId}{pos:String}{af:Array Edge}{g:Option (Nat×Bool)}
theorem iCall{f:FuncId}{j:List Operand}{ts:Array TypeId}{R:Ending->World->Prop}(i:∀(b:Array Value)(w:World),(callFunc f b).run P w=.ok (.enter f b) w)(F:Has N a env)(p:V2 l env g=true)(r:Nat.blt d N=true)(y:evL env j=some vs)(t:Calls P f vs.toArray w R)(K:∀e w,R e w->∃v,e=.returned v/\∀a,Has N a ((d,v)::env)->wpListIn G n P l.toArray Q rest (wD a ds) w)(m:Calm G:=by first|exact M6|exact Nv _):wpListIn G n P l.toArray Q (⟨some d,.call ⟨.value (.func f),j.toArray,ts⟩,ty,pos,af,g⟩::rest) (wD a ds) w:=by
 unfold wpListIn
 rw[if_pos (UB (o:=⟨some d,.call ⟨.value (.func f),j.toArray,ts⟩,ty,pos,af,g⟩) F p)]
 refine⟨λf _=>m.fn f,?_⟩
 have s:(execOp a.eval ⟨some d,.call ⟨.value (.func f),j.toArray,ts⟩,ty,pos,af,g⟩).run P w=.ok (.enter f vs.toArray) w:=by
  simp only[execOp,resolve,FK,F.evals y,Act.eval]
  simp[Deferred.ofValue,invoke,i,go_sem]
 rw[Oper.semAt_eq _ _ _ (λc h=>by cases h),Jk,s]
 refine⟨λh=>(by rw[m.dep]at h;cases h),m.calls (t.mono λe z q=>?_)⟩
 obtain⟨v,rfl,u⟩:=K e z q
 show wpListIn _ _ _ _ _ _ ((wD a ds).put _ _) _
 rw[QY]
 exact u _ (F.put r)
theorem bEndR{c:Func}{R:Ending->World->Prop}(b:c.results=#[])(F:Has N a env)(h:R (.returned (.tuple #[])) w):XbE (bodyPost P c R) .ret (wD a []) w:=by
 show bodyPost P c R .ret (wD a []) w
 rw[Xeu F];exact YtajfpcgbnflceaaGreatDoor.bEndR b F h
end Md
def tab6L:List Nat:=[0,1,56,2,57,49,28,3,61,58,42,50,38,29,17,4,62,47,59,36,45,43,51,22,53,39,33,30,24,18,12,5,63,55,48,27,60,41,37,16,46,35,44,21,52,32,23,11,54,26,40,15,34,20,31,10,25,14,19,9,13,8,7,6]
def Xov(i:Nat):UInt8:=UInt8.ofNat (tab6L.getD i 0)
theorem Xou:∀k,k<64->(Xov (2^k*285870213051353865%18446744073709551616/288230376151711744)).toNat=k:=by decide +kernel
def Tab6At(w:World):Prop:=∀i,i<64->w.cell? ⟨2,i,none⟩=some (b8 (Xov i))
theorem Tab6At.own(c:Tab6At w0)(H:Own w0 none w rs):Tab6At w:=λi b=>H.arg (c i b)
theorem Tab6At.at(h:Tab6At w)(i:Nat)(b:i<64):w.cell? ⟨2,0+i*1,none⟩=some (b8 (Xov i)):=by
 rw[As,FZ];exact h i b
theorem XhK(s:UInt64)(w0:World)(b:s≠0)(p:Tab6At w0):
 Calls prog 225 #[d8 s] w0 λe o=>e=.returned (Ve (tzW s:Int))/\Below w0.heap.size w0 o:=by
 have H:=Own.start w0 none
 have g:=Xoq b
 have m:=Xni b
 have j:=Xou _ m
 have i:(shr ((s&&&(0-s))*285870213051353865) 58).toNat=2^tzW s*285870213051353865%18446744073709551616/288230376151711744:=by
  rw[Ms,UInt64.toNat_mul,g];rfl
 have c:(shr ((s&&&(0-s))*285870213051353865) 58).toNat<64:=by
  rw[Ms]
  have:=((s&&&(0-s))*285870213051353865).toNat_lt
  show _/288230376151711744<64
  omega
 refine VU func225 Z ntmps225 Z (λa F=>?_)
 refine gg 8 λa F=>?_
 refine Xh F Z Z (XaS (y:=0)) λa F=>?_
 refine gg 2 λa F=>zi (λd=>?_) λd=>?_
 ·
  exact absurd d b
 refine gg 5 λa F=>?_
 refine sNegD F Z Z Z (Ei Z Z Z Z (NI) (Ei Z Z Z Z (bMulD (y:=285870213051353865)) λa F=>?_))
 refine Xh F Z Z (Xm6 (n:=58) ?_) ?_
 focus omega
 clear F a;intro a F
 refine sIa underlying335 sizeOf5 F Z Z Z Z ?_ ?_
 focus exact c
 clear F a;intro a F
 refine zLd F (H.arg (p.at _ c)) λa F=>?_
 refine gg 5 λa F=>?_
 rw[i,j]
 exact⟨Z,H.below⟩
def QN(n:Int):UInt64:=if n<1 then 0 else if 64<=n then 18446744073709551615 else bit n.toNat-1
theorem LU(n:Int)(w0:World):Va 120 #[Ve n] w0 (d8 (QN n)):=by
 refine Vb func120 ntmps120 λH a F=>?_
 refine gg 11 λa F=>zi (λb=>?_) λb=>?_
 ·
  refine gg 6 λa F=>?_
  refine⟨?_,H.below⟩
  unfold QN
  (rw[if_pos b];rfl)
 refine gg 8 λa F=>zi (λd=>?_) λd=>?_
 ·
  refine gg 6 λa F=>?_
  refine⟨?_,H.below⟩
  unfold QN
  (rw[if_neg O,if_pos O];rfl)
 obtain⟨m,rfl⟩:∃m:Nat,n=(m:Int):=⟨n.toNat,O⟩
 refine gg 4 λa F=>?_
 refine Xh F Z Z (Xef ?_) ?_
 focus omega
 clear F a;intro a F;refine Xh F Z Z (XcD (y:=1)) λa F=>?_
 refine gg 4 λa F=>?_
 refine⟨?_,H.below⟩
 unfold QN
 (rw[if_neg O,if_neg O];rfl)
theorem Ee(s:UInt64)(w0:World):
 Calls prog 177 #[d8 s] w0 λe c=>∃b,e=.returned (.func (.func 224) #[] #[Vc b 0])/\Own w0 none c [.blk b [d8 s] 55]:=by
 refine Vb func177 ntmps177 λH a F=>?_
 refine gg 2 λa F=>?_
 refine zBx H F λb a w F H=>?_
 refine gg 9 λa F=>?_
 exact⟨_,Z,H⟩
def ElsY(i:Nat)(b:List Value)(c:List Res):Prop:=b=[.int .i64 (i:Int)]/\c=[]
namespace Md
theorem els_iter(s:UInt64)(w0:World)(P:Tab6At w0)(ts:List Res)(D:Nat)(hb:∀w,Own w0 none w ts->w.cell? ⟨D,0,none⟩=some (d8 s)):
 Xp2 prog 224 #[Vc D 0] ElsY (els s) w0 ts:=by
 intro N J G L K H I M
 refine callsIn_wide.2 ?_
 show Calls prog 224 #[.func (.yield N) #[] #[],Vc D 0] L _
 refine VU func224 Z ntmps224 Z (λa F=>?_);refine Xp4 F ?_
 refine gg 2 λa F=>?_
 refine zLd F (hb _ H.suf) λa F=>?_
 refine gg 3 λa F=>?_
 refine cLoopS [0] (λm v w=>∃(r:UInt64)(b:List Nat)(j:List Res),m=(els r).length/\v=[(3,d8 r)]/\b++els r=els s/\J b j/\Own w0 none w (j++ts)) F ((els s).length) [(3,d8 s)] ?_ ?_
 ·exact⟨s,[],K,Z,Z,Z,I,H⟩
 clear F H;intro m v a w R F
 obtain⟨r,b,j,rfl,rfl,g,u,H⟩:=R
 refine gg 4 λa F=>?_
 refine Xh F Z Z (Be (y:=0)) λa F=>?_
 refine gg 2 λa F=>zi (λC=>?_) λC=>?_
 ·
  have z:r≠0:=C
  have B:=JJ z
  have q:b++[tzW r] <+: els s:=by rw[<-g,B];exact⟨els (rst r),by simp⟩
  refine gg 4 λa F=>?_
  refine wpIn_region_lit ?_;refine iV F Z Z Z (λc h=>by cases h) (rMv F Z) λa F=>?_;refine iV F Z Z Z (λc h=>by cases h) (rMv F Z) λa F=>?_;refine iCall call225 F Z Z Z (XhK r _ z (P.own H)) ?_;rintro e w ⟨rfl,t⟩
  replace H:=H.grow t;clear t
  refine zq λa F=>?_
  refine iY F Z Z Z Z (M b (tzW r) [Ve (tzW r:Int)] [] _ j ts u q ⟨Z,Z⟩ H) ?_;rintro e w ⟨d,E,Q⟩
  obtain⟨A,rfl,i⟩:∃A:Bool,e=.returned (.bool A)/\((A=true/\J (b++[tzW r]) d)\/(A=false/\G (b++[tzW r]) d)):=by
   rcases Q with⟨p,o⟩|⟨p,o⟩
   ·exact⟨_,p,.inl ⟨Z,o⟩⟩
   ·exact⟨_,p,.inr ⟨Z,o⟩⟩
  refine⟨_,Z,?_⟩
  replace H:Own w0 none w (d++ts):=E
  clear E
  clear F a;intro a F;refine iV F Z Z Z (λc h=>by cases h) (Xp6 F Z) λa F=>?_;refine iNil ?_
  refine gg 0 λa F=>?_
  refine cIf F Z (λn=>?_) (λn=>?_)
  ·
   replace i:G (b++[tzW r]) d:=by
    rcases i with⟨p,_⟩|⟨_,o⟩
    ·rw[p]at n;cases n
    ·exact o
   refine gg 1 λa F=>?_
   refine bEndR results224 F ?_
   refine⟨⟨_,Z⟩,?_⟩
   exact⟨d,H,.inr ⟨_,q,i⟩⟩
  replace i:J (b++[tzW r]) d:=by
   rcases i with⟨_,o⟩|⟨p,_⟩
   ·exact o
   ·rw[p]at n;cases n
  refine gg 4 λa F=>?_
  refine Xh F Z Z (XcD (y:=1)) (Ei Z Z Z Z (NI) λa F=>?_)
  refine gg 2 λa F=>?_
  exact⟨_,by rw[B];exact Fc _,_,⟨rst r,b++[tzW r],d,Z,Z,by rw[<-g,B];simp,i,H⟩,F.toD (by repeat(first|exact trivial|refine Le.cons rfl ?_))⟩
 have z:r=0:=C
 refine gg 1 λa F=>?_
 refine bEnd results224 F ?_
 refine⟨⟨_,Z⟩,?_⟩
 (rw[z,Jr,Ak]at g
  exact⟨j,H,.inl (g▸u)⟩)
end Md
structure Rl where
 n:Nat
 to:Nat->UInt64
def Rl.cells(r:Rl):List Value:=.int .i64 (r.n:Int)::(List.range 48).map λa=>d8 (r.to a)
def Rl.put(r:Rl)(a:Nat)(s:UInt64):Rl:=⟨r.n,λi=>if i=a then s else r.to i⟩
def zR(n:Nat):Rl:=⟨n,λ_=>0⟩
def Rl.has(r:Rl)(a b:Nat):Bool:=YtajfpcgbnflceaaGreatDoor.has (r.to a) b
structure OkR (r:Rl):Prop where
 n48:r.n<=48
 lt:∀a b,r.has a b=true->a<r.n/\b<r.n
theorem Rl.len(r:Rl):r.cells.length=49:=by simp[Rl.cells]
theorem Qw{r:Rl}(h:a<48):r.cells[1+a]?=some (d8 (r.to a)):=by
 rw[Ij 1 a]
 simp[Rl.cells,h]
theorem Xbp{r:Rl}:r.cells.set (1+a) (d8 s)=(r.put a s).cells:=by
 rw[Ij 1 a]
 refine Ar λi=>?_
 rw[Am]
 cases i with
 |zero=>simp[Rl.cells,Rl.put]
 |succ i=>
  simp only[Rl.cells,Rl.put,IN,AY,AH,Aq,Nat.add_right_cancel_iff]
  rcases AN i 48 with h|h
  ·by_cases e:a=i
   ·subst e;simp[h]
   ·rw[if_neg e];simp[h,Ne.symm e]
  ·simp[h,show ¬i<48 by omega]
   intro e;omega
theorem Xq1{r:Rl}(h:a<48):((r.cells.drop 1).take 48)[a]?=some (d8 (r.to a)):=by
 simp[Rl.cells,h]
theorem Jp{i:Nat}(h:n<=48):has (QN (n:Int)) i=decide (i<n):=by
 unfold QN
 rcases Aw n with h0|h0
 ·subst h0;rw[if_pos O,V8];simp
 ·rw[if_neg O,if_neg O,FU]
  unfold has
  rw[UInt64.toNat_sub,Bc O]
  have e:(2^64-(1:UInt64).toNat+2^n)%2^64=2^n-1:=by
   have b:(1:UInt64).toNat=1:=rfl
   have d:2^n<2^64:=IX (by decide) O
   have c:0<2^n:=Nat.two_pow_pos n
   rw[b];generalize 2^n=q at *;omega
  rw[e,Nat.testBit_two_pow_sub_one]
theorem OkR.all{r:Rl}(h:OkR r)(a:Nat):r.to a &&& ~~~ QN (r.n:Int)=0:=GZ λi=>by
 rw[Dx,Jp h.n48]
 cases e:has (r.to a) i with
 |false=>rfl
 |true=>rw[decide_eq_true (h.lt a i e).2];rfl
theorem OkR.out{r:Rl}(h:OkR r)(b:r.n<=a):r.to a=0:=GZ λi=>by
 cases e:has (r.to a) i with
 |false=>rfl
 |true=>have:=(h.lt a i e).1;omega
theorem G8(r:Rl)(w0:World)(h:OkR r):Calls prog 67 #[.agg r.cells.toArray] w0 λe t=>e=.returned (.bool true)/\Below w0.heap.size w0 t:=by
 have H:=Own.start w0 none
 have p:=h.n48
 refine VU func67 Z ntmps67 Z (λa F=>?_)
 refine gg 2 λa F=>?_
 refine zBx H F λs a w F H=>?_
 refine gg 9 λa F=>?_
 refine zSp 9 F (λv F=>?_) λv F=>?_
 ·
  omega
 refine gg 6 λa F=>zi (λn=>?_) λn=>?_
 ·
  omega
 refine gg 5 λa F=>?_
 refine zCa F (LU _ _) H λa w F H=>?_
 refine gg 6 λa F=>?_
 refine zLr F (H.range 0 Z _ 48) λa F=>?_
 refine gg 3 λa F=>?_
 refine cLoopS [1,3,18] (λm c w=>∃j:Nat,m=48-j/\c=[(19,Ve ((j:Nat):Int))]/\j<=48/\Own w0 none w [.blk s r.cells 58]) F (48) [(19,Ve ((0:Nat):Int))] ?_ ?_
 ·exact⟨0,Z,Z,O,H⟩
 clear F H;intro m c a w q F
 obtain⟨j,rfl,rfl,u,H⟩:=q
 refine gg 6 λa F=>zi (λg=>?_) λg=>?_
 ·
  have b:j<48:=O
  refine gg 6 λa F=>?_
  refine sIdG underlying56 sizeOf55 isAgg55 F Z Z Z Z O ((Xq1 b)) λa F=>?_
  refine gg 7 λa F=>?_
  refine Xh F Z Z (Xhc) (Ei Z Z Z Z (Be (y:=0)) λa F=>?_)
  refine gg 1 λa F=>?_
  refine zSp 27 F (λi F=>?_) λi F=>?_
  ·
   exact(i (h.all j)).elim
  refine gg 5 λa F=>?_
  refine zSp 32 F (λo F=>?_) λo F=>?_
  ·
   refine gg 1 λa F=>?_
   refine Xh F Z Z (Be (y:=0)) λa F=>?_
   refine gg 4 λa F=>zi (λd=>?_) λd=>?_
   ·
    exact(d (h.out O)).elim
   refine gg 5 λa F=>?_
   exact⟨_,O,_,⟨j+1,Z,Z,O,H⟩,F.tt⟩
  refine gg 5 λa F=>?_
  refine cIfF F Z ?_
  refine gg 5 λa F=>?_
  exact⟨_,O,_,⟨j+1,Z,Z,O,H⟩,F.tt⟩
 refine gg 7 λa F=>?_
 exact⟨Z,H.below⟩
def JM(s:UInt64):Nat:=if s=0 then 0 else tzW s
theorem Xpz(h:els s=[]):s=0:=Classical.byContradiction λb=>by rw[JJ b]at h;cases h
namespace Md
theorem first_any(s:UInt64)(w0:World)(G:Tab6At w0):Calls prog 123 #[d8 s] w0 λe I=>e=.returned (.tuple #[Ve (JM s:Int),.bool (s != 0)])/\Below w0.heap.size w0 I:=by
 have H:=Own.start w0 none
 refine Ec func123 Z ntmps123 Z (λa F=>?_)
 refine gg 2 λa F=>?_
 refine zAl zeroValue3 H F λr a w F H=>?_
 refine zAl zeroValue4 H F λv a w F H=>?_
 refine gg 5 λa F=>?_
 refine Xi call177 F Z (Ee s _) ?_;rintro e w ⟨A,rfl,t⟩;replace H:=H.join t;clear t
 refine zq λa F=>?_
 refine gg 2 λa F=>?_
 have o:=(H.sel [1,2,0] Z Z)
 refine Xdm (pl:=[7]) 2 F (by decide) (λ_ _ _ h=>by rw[h.1];rfl) Z (enters_of func224 Y Z) o (els_iter s w0 G _ A (λw H=>H.cell 0 Z Z)) (λb g=>b=[]/\g=[.blk v [.bool false] 4,.blk r [Ve 0] 3]) (λc b g=>c=.ret/\∃x:Nat,b=[x]/\g=[.blk v [.bool true] 4,.blk r [Ve (x:Int)] 3]) (⟨rfl,rfl⟩) (λvs=>[(4,vs.headD undef)]) ?_ ?_ ?_ ?_
 ·
  clear o H F a;intro q a w vs K p m E
  obtain⟨M,rfl⟩:=XgI p
  refine Md.cReg ?_;refine sAs m Z Z Z λa m=>?_
  refine Md.sNil ?_ m
  exact E _ m
 ·
  clear o H F a;intro q b x u L w y J a j d n H F
  obtain⟨rfl,rfl⟩:=j
  obtain⟨rfl,rfl⟩:=n
  refine gg 4 λa F=>?_
  refine zSt H 1 F λw H=>?_
  refine zSt H 0 F λw H=>?_
  refine gg 2 λa F=>?_
  exact Xq7 _ ⟨Z,x,Z,Z⟩ H
 ·
  intro D w g j H
  obtain⟨z,rfl⟩:=j
  refine gg 2 λa F=>?_
  refine zSt H 2 F λw H=>?_
  refine zSt H 1 F λw H=>?_
  refine gg 2 λa F=>?_
  refine XcN ?_;refine LD H 0 Z λw H=>?_;refine Mz results123 F Z Z isAgg3 isAgg4 H 2 1 Z Z ?_
  refine⟨?_,H.below⟩
  (have i:=Xpz z
   subst i
   rfl)
 ·
  intro D c b w g d j H
  obtain⟨rfl,x,rfl,rfl⟩:=j
  refine gg 1 λa F=>?_
  refine XcN ?_;refine LD H 0 Z λw H=>?_;refine Mz results123 F Z Z isAgg3 isAgg4 H 2 1 Z Z ?_
  refine⟨?_,H.below⟩
  (have i:s≠0:=λe=>by subst e;rw[Jr]at d;have:=d.length_le;simp at this
   rw[JJ i]at d
   have C:x=tzW s:=by simpa using d
   have B:(s != 0)=true:=by simpa using i
   rw[JM,if_neg i,B,C])
end Md
def rlF(n:Nat)(f:Nat->UInt64):Rl:=⟨n,λa=>if a<n then f a else 0⟩
theorem XoM{j:Nat}{f:Nat->UInt64}:(Rl.put ⟨n,(rlF j f).to⟩ j (f j))=⟨n,(rlF (j+1) f).to⟩:=by
 unfold Rl.put rlF
 congr 1
 funext i
 by_cases h:i=j
 ·subst h;simp
 ·rw[if_neg h]
  show(if i<j then f i else 0)=if i<j+1 then f i else 0
  by_cases b:i<j
  ·rw[if_pos b,if_pos O]
  ·rw[if_neg b,if_neg O]
theorem Us{c:List Value}{r:Rl}(h:c.length=49):VZ c 0 r.cells=r.cells:=Ju (by rw[h,Rl.len])
theorem Gr(r:Rl):r.cells.all (·.oneCell')=true:=Ah.2 λv b=>by
 unfold Rl.cells at b
 rcases Ap.1 b with rfl|h
 ·rfl
 ·obtain⟨a,_,rfl⟩:=AT.1 h;rfl
def RowF(v:Value)(n:Nat)(f:Nat->UInt64)(w0:World):Prop:=∀a w,a<n->Below w0.heap.size w0 w->JL prog v [.int .i64 (a:Int)] w λe b=>e=.returned (d8 (f a))/\Below w.heap.size w b
theorem D9(n:Nat)(v:Value)(f:Nat->UInt64)(w0:World)(s:n<=48)(q:RowF v n f w0):
 Va 174 #[Ve (n:Int),v] w0 (.agg (rlF n f).cells.toArray):=by
 refine Vb func174 ntmps174 λH a F=>?_
 refine gg 2 λa F=>?_
 refine zAl zeroValue58 H F λc a w F H=>?_
 refine gg 4 λa F=>?_
 refine sBd (cs:=(zR n).cells) (places:=[(0,1),(1,48)]) zeroValue58 underlying58 Y F Z Z Z Z λa F=>?_
 refine zAl zeroValue58 H F λd a w F H=>?_
 refine sSr H 0 ?si F Z Z Z ?s1 Z Z ?_
 case si=>exact VT sizeOf58
 case s1=>rfl
 clear H;intro w H
 refine gg 1 λa F=>?_
 replace H:Own w0 none w [.blk d (VZ (zR 0).cells 0 (zR n).cells) 58,.blk c (zR 0).cells 58]:=H
 rw[Us (Rl.len _)]at H
 refine gg 7 λa F=>?_
 refine cLoopS [1,4,5,9] (λm b w=>∃j:Nat,m=n-j/\b=[(10,Ve ((j:Nat):Int))]/\j<=n/\Own w0 none w [.blk d (Rl.cells ⟨n,(rlF j f).to⟩) 58,.blk c (zR 0).cells 58]) F (n) [(10,Ve ((0:Nat):Int))] ?_ ?_
 ·exact⟨0,Z,Z,O,H⟩
 clear F H;intro m b a w o F
 obtain⟨j,rfl,rfl,r,H⟩:=o
 refine gg 6 λa F=>zi (λg=>?_) λg=>?_
 ·
  refine gg 12 λa F=>?_
  refine NL F Z Z Z Z (q j _ O H.below) ?_;rintro e w ⟨rfl,i⟩;replace H:=H.grow i;clear i
  refine zq λa F=>?_
  refine gg 2 λa F=>?_
  refine sSt H 0 sizeOf55 F Z Z Z Z Z (Qw (a:=j) O) λw H=>?_
  replace H:Own w0 none w [.blk d ((Rl.cells ⟨n,(rlF j f).to⟩).set (1+j) (d8 (f j))) 58,.blk c (zR 0).cells 58]:=H
  rw[Xbp,XoM]at H
  refine gg 5 λa F=>?_
  exact⟨_,O,_,⟨j+1,Z,Z,O,H⟩,F.tt⟩
 obtain rfl:j=n:=O
 refine gg 4 λa F=>?_
 refine sSr H 1 ?si F Z Z Z ?s1 Z Z ?_
 case si=>exact VT sizeOf58
 case s1=>rfl
 clear H;intro w H
 refine gg 1 λa F=>?_
 replace H:Own w0 none w [.blk d (rlF j f).cells 58,.blk c (VZ (zR 0).cells 0 (rlF j f).cells) 58]:=H
 rw[Us (Rl.len _)]at H
 refine gg 1 λa F=>?_
 refine Nf results174 F Z underlying58 Z H 1 Z sizeOf58 Z ?_
 exact⟨Z,H.below⟩
def RelAt(w:World)(b:Nat)(r:Rl):Prop:=w.rangeAt b 0 r.cells
theorem RelAt.row{w:World}{b a:Nat}{r:Rl}(h:RelAt w b r)(c:a<48):w.cell? ⟨b,1+a,none⟩=some (d8 (r.to a)):=by
 have:=h (1+a) _ (Qw c)
 rwa [As]at this
theorem RelAt.num{r:Rl}(h:RelAt w b r):w.cell? ⟨b,0,none⟩=some (Ve (r.n:Int)):=h 0 _ Z
theorem RelAt.own{r:Rl}(h:RelAt w0 b r)(H:Own w0 none w rs):RelAt w b r:=H.argR h
def Qp(r:Rl)(s:UInt64):UInt64:=(els s).foldl (λb a=>b|||r.to a) 0
theorem Xb0{r:Rl}{b:Nat}:∀(l:List Nat)(z:UInt64),has (l.foldl (λc a=>c|||r.to a) z) b=(has z b||l.any λa=>r.has a b)
 | [],z=>by simp
 |a::l,z=>by rw[Fa,Xb0 l,GR,List.any_cons,Bool.or_assoc];rfl
theorem Xpl{r:Rl}:has (Qp r s) b=true↔∃a,has s a=true/\r.has a b=true:=by
 unfold Qp
 rw[Xb0,V8,Ho,HN]
 exact⟨λ⟨a,c,d⟩=>⟨a,mem_els.1 c,d⟩,λ⟨a,c,d⟩=>⟨a,mem_els.2 c,d⟩⟩
theorem N7(h:s≠0):has s (JM s)=true:=by unfold JM;rw[if_neg h];exact Cv h
theorem XjG(b:Nat)(r:Rl)(s:UInt64)(w0:World)(u:RelAt w0 b r)(hs:∀a,has s a=true->a<48)(o:Tab6At w0):
 Va 133 #[Vc b 0,d8 s] w0 (d8 (Qp r s)):=by
 refine Vb func133 ntmps133 λH a F=>?_
 refine gg 12 λa F=>?_
 refine zCa F (Md.first_any s _ (o.own H)) H λa w F H=>?_
 refine gg 7 λa F=>?_
 refine cLoopS [0] (λm g w=>∃q z:UInt64,m=(els q).length/\g=[(1,d8 q),(5,d8 z),(6,Ve (JM q:Int)),(7,.bool (q != 0))]/\(∀a,has q a=true->has s a=true)/\(els q).foldl (λn a=>n|||r.to a) z=Qp r s/\Own w0 none w []) F ((els s).length) [(1,d8 s),(5,d8 0),(6,Ve (JM s:Int)),(7,.bool (s != 0))] ?_ ?_
 ·exact⟨s,0,Z,Z,λ_ h=>h,Z,H⟩
 clear F H;intro m g a w t F
 obtain⟨q,z,rfl,rfl,p,i,H⟩:=t
 refine gg 5 λa F=>?_
 refine cIf F Z (λd=>?_) (λd=>?_)
 ·
  have c:q≠0:=by simpa using d
  have v:=hs _ (p _ (N7 c))
  refine gg 11 λa F=>?_
  refine zLd F (H.arg (u.row v)) λa F=>?_
  refine Xh F Z Z (XcF) λa F=>?_
  refine gg 5 λa F=>?_
  refine Xh F Z Z (XcD (y:=1)) (Ei Z Z Z Z (NI) λa F=>?_)
  refine gg 4 λa F=>?_
  refine zCa F (Md.first_any _ _ (o.own H)) H λa w F H=>?_
  refine gg 6 λa F=>?_
  refine⟨_,by rw[JJ c];exact Fc _,_,⟨rst q,z|||r.to (JM q),rfl,rfl,λa j=>p a ?_,?_,H⟩,F.tt⟩
  ·rw[Q7 c]at j;simp only[AJ]at j;exact j.1
  ·rw[JJ c,Fa]at i
   rw[<-i,JM,if_neg c]
 have c:q=0:=by simpa using d
 refine gg 8 λa F=>?_
 subst c;rw[Jr]at i
 exact⟨by rw[<-i];rfl,H.below⟩
theorem XhG(a c g:Nat)(b r2:Rl)(w0:World)(m:RelAt w0 c b)(i:RelAt w0 g r2)(d:a<48):
 Va 182 #[Ve (a:Int),Vc c 0,Vc g 0] w0 (d8 (b.to a|||r2.to a)):=by
 refine Vb func182 ntmps182 λH a F=>?_
 refine gg 5 λa F=>?_
 refine zRO H λH=>?_
 refine gg 3 λa F=>?_
 refine Xe 3 Z F Z Z (λw H=>rLd isAgg55 F Z (H.arg (m.row d))) H qq0 λa F=>?_
 refine gg 3 λa F=>?_
 refine Xe 7 Z F Z Z (λw H=>rLd isAgg55 F Z (H.arg (i.row d))) H qq0 (Xg 8 Z Z (λa F w=>Gt F Z Z (XcF)) H qq0 λa F=>?_)
 refine gg 4 λa F=>?_
 exact⟨Z,H.below⟩
theorem Xm1(a d i:Nat)(c b:Rl)(w0:World)(n:RelAt w0 d c)(j:RelAt w0 i b)(g:a<48):
 Va 134 #[Ve (a:Int),Vc d 0,Vc i 0] w0 (d8 (c.to a&&&b.to a)):=by
 refine Vb func134 ntmps134 λH a F=>?_
 refine gg 5 λa F=>?_
 refine zRO H λH=>?_
 refine gg 3 λa F=>?_
 refine Xe 3 Z F Z Z (λw H=>rLd isAgg55 F Z (H.arg (n.row g))) H qq0 λa F=>?_
 refine gg 3 λa F=>?_
 refine Xe 7 Z F Z Z (λw H=>rLd isAgg55 F Z (H.arg (j.row g))) H qq0 (Xg 8 Z Z (λa F w=>Gt F Z Z (NI)) H qq0 λa F=>?_)
 refine gg 4 λa F=>?_
 exact⟨Z,H.below⟩
theorem Xk6(a g c:Nat)(d b:Rl)(w0:World)(p:RelAt w0 g d)(n:RelAt w0 c b)(j:a<48)(hs:∀i,d.has a i=true->i<48)(m:Tab6At w0):
 Va 132 #[Ve (a:Int),Vc c 0,Vc g 0] w0 (d8 (Qp b (d.to a))):=by
 refine Vb func132 ntmps132 λH a F=>?_
 refine gg 9 λa F=>?_
 refine zLd F (H.arg (p.row j)) λa F=>?_
 refine zCa F (XjG c b _ _ (n.own H) hs (m.own H)) H λa w F H=>?_
 refine gg 4 λa F=>?_
 exact⟨Z,H.below⟩
theorem Me(q o n:Nat)(b d:Rl)(v:Value)(f:Nat->UInt64)(w0:World)(m:RelAt w0 q b)(r:RelAt w0 o d)(p:OkR b)(y:OkR d)(s:b.n=n)(B:d.n=n)(A:RowF v n f w0):
 Calls prog 131 #[Vc q 0,Vc o 0,v] w0 λe z=>e=.returned (.tuple #[.agg (rlF n f).cells.toArray,Ve 0])/\Below w0.heap.size w0 z:=by
 have H:=Own.start w0 none
 have D:=p.n48
 refine VU func131 Z ntmps131 Z (λa F=>?_)
 refine gg 2 λa F=>?_
 refine zAl zeroValue58 H F λt a w F H=>?_
 refine gg 4 λa F=>?_
 refine zRO H λH=>?_
 refine gg 3 λa F=>?_
 refine Xe 3 Z F Z Z (λw H=>rLd isAgg3 F Z (H.arg m.num)) H qq0 λa F=>?_
 refine gg 3 λa F=>?_
 refine Xe 7 Z F Z Z (λw H=>rLd isAgg3 F Z (H.arg r.num)) H qq0 λa F=>?_
 refine gg 2 λa F=>?_
 refine zSp 17 F (λj F=>?_) λj F=>?_
 ·
  exact absurd (by rw[s,B]) j
 refine gg 2 λa F=>?_
 refine Xa (k:=12) (i:=12) Z F Z Z (λw H=>rLr underlying58 Z ?si F Z (H.argR m)) H (λ_ _ _ h=>h) ?_
 case si=>exact VT sizeOf58
 clear F a;intro a F
 refine zEc 13 F (G8 b _ p) H λa w F H=>?_
 refine gg 4 λa F=>?_
 refine zSp 24 F (λg F=>?_) λg F=>?_
 ·
  cases g
 refine gg 2 λa F=>?_
 refine Xa (k:=19) (i:=19) Z F Z Z (λw H=>rLr underlying58 Z ?si F Z (H.argR r)) H (λ_ _ _ h=>h) ?_
 case si=>exact VT sizeOf58
 clear F a;intro a F
 refine zEc 20 F (G8 d _ y) H λa w F H=>?_
 refine gg 5 λa F=>zi (λc=>?_) λc=>?_
 ·
  cases c
 refine gg 6 λa F=>?_
 refine zLd F (H.arg m.num) λa F=>?_
 refine gg 1 λa F=>?_
 refine zCa F (D9 b.n v f _ O (λa w C u=>A a w O (H.grow u).below)) H λa w F H=>?_
 refine sSr H 0 ?si F Z Z Z ?s1 Z Z ?_
 case si=>exact VT sizeOf58
 case s1=>rfl
 clear H;intro w H
 refine gg 2 λa F=>?_
 replace H:Own w0 none w [.blk t (VZ (zR 0).cells 0 (rlF b.n f).cells) 58]:=H
 rw[Us (Rl.len _)]at H
 refine gg 1 λa F=>?_
 refine Cq results131 F Z Z underlying58 Z H 0 Z sizeOf58 Z ?_
 exact⟨by rw[s],H.below⟩
theorem XhH(b r2:Rl)(n:Nat)(w0:World)(i:OkR b)(m:OkR r2)(o:b.n=n)(q:r2.n=n):
 Calls prog 130 #[.agg b.cells.toArray,.agg r2.cells.toArray] w0 λe p=>e=.returned (.tuple #[.agg (rlF n λa=>b.to a|||r2.to a).cells.toArray,Ve 0])/\Below w0.heap.size w0 p:=by
 have H:=Own.start w0 none
 have s:=i.n48
 refine VU func130 Z ntmps130 Z (λa F=>?_)
 refine gg 2 λa F=>?_
 refine zBx H F λc a w F H=>?_
 refine zBx H F λd a w F H=>?_
 refine zAl zeroValue58 H F λj a w F H=>?_
 refine gg 2 λa F=>?_
 replace H:Own w0 none w [.blk j (zR 0).cells 58,.blk d r2.cells 58,.blk c b.cells 58]:=H
 refine gg 3 λa F=>?_
 refine zCa F (Me c d n b r2 _ (λa=>b.to a|||r2.to a) _ (H.whole 2 rfl) (H.whole 1 rfl) i m o q (λa w r g=>⟨182,[],[Vc c 0,Vc d 0],Z,call182,XhG a c d b r2 w ((H.grow g).whole 2 Z) ((H.grow g).whole 1 Z) O⟩)) H λa w F H=>?_
 refine gg 2 λa F=>?_
 refine sSr H 0 ?si F Z Z Z ?s1 Z Z ?_
 case si=>exact VT sizeOf58
 case s1=>rfl
 clear H;intro w H
 refine gg 2 λa F=>?_
 replace H:Own w0 none w [.blk j (VZ (zR 0).cells 0 (rlF n λa=>b.to a|||r2.to a).cells) 58,.blk d r2.cells 58,.blk c b.cells 58]:=H
 rw[Us (Rl.len _)]at H
 refine gg 1 λa F=>?_
 refine Cq results130 F Z Z underlying58 Z H 0 Z sizeOf58 Z ?_
 exact⟨Z,H.below⟩
theorem XfL(c b:Rl)(n:Nat)(w0:World)(j:OkR c)(o:OkR b)(p:c.n=n)(r:b.n=n):
 Calls prog 80 #[.agg c.cells.toArray,.agg b.cells.toArray] w0 λe q=>e=.returned (.tuple #[.agg (rlF n λa=>c.to a&&&b.to a).cells.toArray,Ve 0])/\Below w0.heap.size w0 q:=by
 have H:=Own.start w0 none
 have t:=j.n48
 refine VU func80 Z ntmps80 Z (λa F=>?_)
 refine gg 2 λa F=>?_
 refine zBx H F λd a w F H=>?_
 refine zBx H F λg a w F H=>?_
 refine zAl zeroValue58 H F λm a w F H=>?_
 refine gg 2 λa F=>?_
 replace H:Own w0 none w [.blk m (zR 0).cells 58,.blk g b.cells 58,.blk d c.cells 58]:=H
 refine gg 3 λa F=>?_
 refine zCa F (Me d g n c b _ (λa=>c.to a&&&b.to a) _ (H.whole 2 Z) (H.whole 1 Z) j o p r (λa w s i=>⟨134,[],[Vc d 0,Vc g 0],Z,call134,Xm1 a d g c b w ((H.grow i).whole 2 Z) ((H.grow i).whole 1 Z) O⟩)) H λa w F H=>?_
 refine gg 2 λa F=>?_
 refine sSr H 0 ?si F Z Z Z ?s1 Z Z ?_
 case si=>exact VT sizeOf58
 case s1=>rfl
 clear H;intro w H
 refine gg 2 λa F=>?_
 replace H:Own w0 none w [.blk m (VZ (zR 0).cells 0 (rlF n λa=>c.to a&&&b.to a).cells) 58,.blk g b.cells 58,.blk d c.cells 58]:=H
 rw[Us (Rl.len _)]at H
 refine gg 1 λa F=>?_
 refine Cq results80 F Z Z underlying58 Z H 0 Z sizeOf58 Z ?_
 exact⟨Z,H.below⟩
theorem G4(c b:Rl)(n:Nat)(w0:World)(m:OkR c)(r:OkR b)(s:c.n=n)(u:b.n=n)(q:Tab6At w0):
 Calls prog 79 #[.agg c.cells.toArray,.agg b.cells.toArray] w0 λe t=>e=.returned (.tuple #[.agg (rlF n λa=>Qp b (c.to a)).cells.toArray,Ve 0])/\Below w0.heap.size w0 t:=by
 have H:=Own.start w0 none
 have y:=m.n48
 refine VU func79 Z ntmps79 Z (λa F=>?_)
 refine gg 2 λa F=>?_
 refine zBx H F λd a w F H=>?_
 refine zBx H F λg a w F H=>?_
 refine zAl zeroValue58 H F λo a w F H=>?_
 refine gg 2 λa F=>?_
 replace H:Own w0 none w [.blk o (zR 0).cells 58,.blk g b.cells 58,.blk d c.cells 58]:=H
 refine gg 3 λa F=>?_
 refine zCa F (Me d g n c b _ (λa=>Qp b (c.to a)) _ (H.whole 2 Z) (H.whole 1 Z) m r s u (λa w v j=>⟨132,[],[Vc g 0,Vc d 0],Z,call132,Xk6 a d g c b w ((H.grow j).whole 2 Z) ((H.grow j).whole 1 Z) O (λi p=>by have:=(m.lt a i p).2;omega) (q.own (H.grow j))⟩)) H λa w F H=>?_
 refine gg 2 λa F=>?_
 refine sSr H 0 ?si F Z Z Z ?s1 Z Z ?_
 case si=>exact VT sizeOf58
 case s1=>rfl
 clear H;intro w H
 refine gg 2 λa F=>?_
 replace H:Own w0 none w [.blk o (VZ (zR 0).cells 0 (rlF n λa=>Qp b (c.to a)).cells) 58,.blk g b.cells 58,.blk d c.cells 58]:=H
 rw[Us (Rl.len _)]at H
 refine gg 1 λa F=>?_
 refine Cq results79 F Z Z underlying58 Z H 0 Z sizeOf58 Z ?_
 exact⟨Z,H.below⟩
structure IsBack (r q:Rl):Prop where
 n:q.n=r.n
 has:∀a b,q.has b a=r.has a b
theorem IsBack.ok{r q:Rl}(h:IsBack r q)(o:OkR r):OkR q:=⟨by rw[h.n];exact o.n48,λa b c=>by
 rw[h.has]at c;rw[h.n]
 exact⟨(o.lt b a c).2,(o.lt b a c).1⟩⟩
theorem Xan{r:Rl}{c:Nat}:(r.put a s).has b c=if b=a then has s c else r.has b c:=by
 unfold Rl.put Rl.has
 by_cases h:b=a
 ·rw[if_pos h];simp[h]
 ·rw[if_neg h];simp[h]
theorem Xhj:(zR n).has a b=false:=V8
theorem M9(r:Rl)(w0:World)(o:OkR r)(N:Tab6At w0):Calls prog 122 #[.agg r.cells.toArray] w0 λe R=>∃q:Rl,IsBack r q/\e=.returned (.agg q.cells.toArray)/\Below w0.heap.size w0 R:=by
 have H:=Own.start w0 none
 have U:=o.n48
 refine VU func122 Z ntmps122 Z (λa F=>?_)
 refine gg 2 λa F=>?_
 refine zBx H F λz a w F H=>?_
 refine zAl zeroValue58 H F λv a w F H=>?_
 refine gg 1 λa F=>?_
 replace H:Own w0 none w [.blk v (zR 0).cells 58,.blk z r.cells 58]:=H
 refine gg 4 λa F=>?_
 refine zCa F (G8 r _ o) H λa w F H=>?_
 refine gg 3 λa F=>zi (λD=>?_) λD=>?_
 ·
  cases D
 refine gg 5 λa F=>?_
 refine sBd (cs:=(zR r.n).cells) (places:=[(0,1),(1,48)]) zeroValue58 underlying58 Y F Z Z Z Z λa F=>?_
 refine zAl zeroValue58 H F λE a w F H=>?_
 refine sSr H 0 ?si F Z Z Z ?s1 Z Z ?_
 case si=>exact VT sizeOf58
 case s1=>rfl
 clear H;intro w H
 refine gg 1 λa F=>?_
 replace H:Own w0 none w [.blk E (VZ (zR 0).cells 0 (zR r.n).cells) 58,.blk v (zR 0).cells 58,.blk z r.cells 58]:=H
 rw[Us (Rl.len _)]at H
 refine gg 8 λa F=>?_
 refine cLoopS [1,2,3,16] (λm g w=>∃(j:Nat)(q:Rl),m=r.n-j/\g=[(17,Ve ((j:Nat):Int))]/\j<=r.n/\q.n=r.n/\(∀a b,q.has b a=(r.has a b&&decide (a<j)))/\Own w0 none w [.blk E q.cells 58,.blk v (zR 0).cells 58,.blk z r.cells 58]) F (r.n) [(17,Ve ((0:Nat):Int))] ?_ ?_
 ·exact⟨0,zR r.n,Z,Z,O,Z,λa b=>by rw[Xhj];simp,H⟩
 clear F H;intro m g a w L F
 obtain⟨j,q,rfl,rfl,S,B,M,H⟩:=L
 refine gg 6 λa F=>zi (λJ=>?_) λJ=>?_
 ·
  have K:j<r.n:=O
  refine gg 13 λa F=>?_
  refine sLd isAgg55 F Z Z Z (H.cell 2 Z (Qw O)) λa F=>?_
  refine gg 5 λa F=>?_
  refine zCa F (Md.first_any _ _ (N.own H)) H λa w F H=>?_
  refine gg 7 λa F=>?_
  refine cLoopS [1,2,3,4,16,17] (λm g w=>∃(s:UInt64)(d:Rl),m=(els s).length/\g=[(5,d8 s),(6,Ve (JM s:Int)),(7,.bool (s != 0))]/\(∀b,has s b=true->r.has j b=true)/\d.n=r.n/\(∀a b,d.has b a=(r.has a b&&(decide (a<j)||(decide (a=j) && !has s b))))/\Own w0 none w [.blk E d.cells 58,.blk v (zR 0).cells 58,.blk z r.cells 58]) F ((els (r.to j)).length) [(5,d8 (r.to j)),(6,Ve (JM (r.to j):Int)),(7,.bool (r.to j != 0))] ?_ ?_
  ·refine⟨r.to j,q,Z,Z,λ_ h=>h,B,λa b=>?_,H⟩
   rw[M]
   by_cases e:a=j
   ·subst e
    show(has (r.to a) b&&_)=(has (r.to a) b&&_)
    cases has (r.to a) b<;>simp
   ·simp[e]
  clear F H;intro m g a w L F
  obtain⟨s,d,rfl,rfl,G,p,u,H⟩:=L
  refine gg 5 λa F=>?_
  refine cIf F Z (λt=>?_) (λt=>?_)
  ·
   have c:s≠0:=by simpa using t
   have T:=(o.lt _ _ (G _ (N7 c))).2
   refine gg 4 λa F=>?_
   refine zRO H λH=>?_
   refine gg 3 λa F=>?_
   refine Xe 3 Z F Z Z (λw H=>rLd isAgg55 F Z (H.cell 0 Z (Qw O))) H qq0 λa F=>?_
   refine gg 1 λa F=>?_
   refine Xf (k:=5) (i:=5) Z F Z (λw=>Gt F Z Z (Xef ?_)) H (λ_ _ _ h=>h) ?_
   focus omega
   clear F a;intro a F;refine Xb 6 Z F Z (λw=>Gt F Z Z (XcF)) H qq0 λa F=>?_
   refine gg 2 λa F=>?_
   refine Xd (k:=9) (i:=9) Z F (oSt H 0 sizeOf55 F Z Z Z Z (Qw (a:=JM s) O) λw H=>?_)
   refine gg 2 λa F=>?_
   replace H:Own w0 none w [.blk E (d.cells.set (1+JM s) (d8 (d.to (JM s)|||bit j))) 58,.blk v (zR 0).cells 58,.blk z r.cells 58]:=H
   rw[Xbp]at H
   refine gg 3 λa F=>?_
   refine Xh F Z Z (XcD (y:=1)) (Ei Z Z Z Z (NI) λa F=>?_)
   refine gg 4 λa F=>?_
   refine zCa F (Md.first_any _ _ (N.own H)) H λa w F H=>?_
   refine gg 6 λa F=>?_
   refine⟨_,by rw[JJ c];exact Fc _,_,⟨rst s,d.put (JM s) (d.to (JM s)|||bit j),rfl,rfl,λb I=>G b ?_,p,λa b=>?_,H⟩,F.tt⟩
   ·rw[Q7 c]at I;simp only[AJ]at I;exact I.1
   ·rw[Xan,Q7 c]
    have C:JM s=tzW s:=if_neg c
    by_cases e:b=JM s
    ·subst e
     rw[if_pos Z,GR,Gx O]
     have P:=u a (JM s)
     rw[show has (d.to (JM s)) a=d.has (JM s) a from Z,P]
     by_cases A:a=j
     ·subst A
      rw[G _ (N7 c)]
      simp[C]
     ·simp[A,Ne.symm A]
    ·rw[if_neg e,u]
     have Q:¬b=tzW s:=by rw[<-C];exact e
     simp[Q]
  have c:s=0:=by simpa using t
  refine gg 5 λa F=>?_
  refine⟨_,O,_,⟨j+1,d,Z,Z,O,p,λa b=>?_,H⟩,F.tt⟩
  rw[u,c,V8]
  by_cases A:a=j
  ·subst A;simp
  ·have:(a<j+1)↔(a<j):=O
   simp[A,this]
 have K:j=r.n:=O
 refine gg 4 λa F=>?_
 refine sSr H 1 ?si F Z Z Z ?s1 Z Z ?_
 case si=>exact VT sizeOf58
 case s1=>rfl
 clear H;intro w H
 refine gg 1 λa F=>?_
 replace H:Own w0 none w [.blk E q.cells 58,.blk v (VZ (zR 0).cells 0 q.cells) 58,.blk z r.cells 58]:=H
 rw[Us (Rl.len _)]at H
 refine gg 1 λa F=>?_
 refine Nf results122 F Z underlying58 Z H 1 Z sizeOf58 Z ?_
 refine⟨q,⟨B,λa b=>?_⟩,Z,H.below⟩
 rw[M]
 cases e:r.has a b with
 |false=>rfl
 |true=>have:=(o.lt a b e).1;simp;omega
theorem DK{α:Type}{p q:α->Bool}(h:∀x,q x=true->p x=true):∀{l:List α},(∃x∈l,p x=true/\q x=false)->(l.filter q).length<(l.filter p).length
 | [],⟨x,hx,_⟩=>by cases hx
 |y::l,⟨x,hx,d,c⟩=>by
  have b:∀l:List α,(l.filter q).length<=(l.filter p).length:=λl=>by
   rw[<-IP,<-IP]
   exact List.countP_mono_left λx _ hx=>h x hx
  rcases Ap.1 hx with rfl|hx
  ·rw[Hi,Hi,d,c]
   have:=b l
   simp;omega
  ·have e:=DK h ⟨x,hx,d,c⟩
   rw[Hi,Hi]
   cases g:q y with
   |true=>rw[h y g];simpa using e
   |false=>cases p y<;>simp<;>omega
def del(s:UInt64)(a:Nat):UInt64:=s &&& ~~~bit a
theorem JD{i:Nat}(b:a<64):has (del s a) i=(has s i&&decide (a≠i)):=by
 unfold del;rw[Dx,Gx b];simp
theorem Xj5(h:has s a=true):(els (del s a)).length<(els s).length:=by
 have b:=Ca h
 refine DK (λx c=>?_) ⟨a,Ab.2 b,h,?_⟩
 ·rw[JD b,AJ]at c;exact c.1
 ·rw[JD b];simp
def Xsm(q:Rl)(s:UInt64)(x:Nat)(c:Bool):Prop:=(c=true->has s x=true/\q.to x&&&s=0)/\(c=false->∀i,has s i=true->q.to i&&&s≠0)
theorem Xmn(b:Nat)(q:Rl)(s:UInt64)(w0:World)(C:RelAt w0 b q)(hs:∀a,has s a=true->a<48)(A:Tab6At w0):
 Calls prog 181 #[Vc b 0,d8 s] w0 λe E=>∃(x:Nat)(c:Bool),e=.returned (.tuple #[Ve (x:Int),.bool c])/\Xsm q s x c/\Below w0.heap.size w0 E:=by
 refine Vb func181 ntmps181 λH a F=>?_
 refine gg 14 λa F=>?_
 refine zCa F (Md.first_any s _ (A.own H)) H λa w F H=>?_
 refine gg 7 λa F=>?_
 refine cLoopS [0,1] (λm p w=>∃z:UInt64,m=(els z).length/\p=[(6,d8 z),(7,Ve (JM z:Int)),(8,.bool (z != 0))]/\(∀i,has z i=true->has s i=true)/\(∀i,has s i=true->has z i=false->q.to i&&&s≠0)/\Own w0 none w []) F ((els s).length) [(6,d8 s),(7,Ve (JM s:Int)),(8,.bool (s != 0))] ?_ ?_
 ·exact⟨s,Z,Z,λ_ h=>h,λi v r=>(by rw[v]at r;cases r),H⟩
 clear F H;intro m p a w G F
 obtain⟨z,rfl,rfl,B,t,H⟩:=G
 refine gg 5 λa F=>?_
 refine cIf F Z (λj=>?_) (λj=>?_)
 ·
  have d:z≠0:=by simpa using j
  have n:=B _ (N7 d)
  have D:=hs _ n
  refine gg 11 λa F=>?_
  refine zLd F (H.arg (C.row D)) λa F=>?_
  refine gg 1 λa F=>?_
  refine Xh F Z Z (NI) (Ei Z Z Z Z (XaS (y:=0)) λa F=>?_)
  refine gg 2 λa F=>zi (λg=>?_) λg=>?_
  ·
   refine gg 7 λa F=>?_
   refine Gy results181 F Z Z ?_
   (refine⟨JM z,true,Z,⟨λ_=>⟨n,g⟩,λh=>(by cases h)⟩,H.below⟩)
  refine gg 4 λa F=>?_
  refine Xh F Z Z (XcD (y:=1)) (Ei Z Z Z Z (NI) λa F=>?_)
  refine gg 4 λa F=>?_
  refine zCa F (Md.first_any _ _ (A.own H)) H λa w F H=>?_
  refine gg 6 λa F=>?_
  have u:JM z=tzW z:=if_neg d
  refine⟨_,by rw[JJ d];exact Fc _,_,⟨rst z,Z,Z,λi o=>B i ?_,λi v r=>?_,H⟩,F.tt⟩
  ·rw[Q7 d]at o;simp only[AJ]at o;exact o.1
  ·rw[Q7 d]at r
   by_cases e:i=tzW z
   ·subst e;rw[<-u];exact g
   ·refine t i v ?_
    simpa[e]using r
 have d:z=0:=by simpa using j
 refine gg 7 λa F=>?_
 refine Gy results181 F Z Z ?_
 (refine⟨0,false,Z,⟨λh=>(by cases h),λ_ i o=>?_⟩,H.below⟩
  subst d
  exact t i o V8)
def Acy(r:Rl):Prop:=∃ρ:Nat->Nat,∀a b,r.has a b=true->ρ a<ρ b
theorem Xo0{r q:Rl}(n:IsBack r q)(hs:s≠0)(h:∀i,has s i=true->q.to i&&&s≠0):¬Acy r:=λ⟨ρ,g⟩=>by
 have d:∀m x,ρ x=m->has s x=true->False:=by
  intro m
  induction m using Nat.strongRecOn with
  |_ m j=>
   intro x e b
   obtain⟨y,c⟩:=LJ (h x b)
   rw[JE,AJ]at c
   have o:r.has y x=true:=by rw[<-n.has];exact c.1
   exact j (ρ y) (by rw[<-e];exact g _ _ o) y Z c.2
 obtain⟨x,b⟩:=LJ hs
 exact d _ x Z b
structure Taken (r:Rl) (s:UInt64) (k:Nat) (ρ:Nat->Nat):Prop where
 sub:∀i,has s i=true->i<r.n
 lt:∀i,has s i=false->ρ i<k+1
 ord:∀a b,r.has a b=true->has s b=false->has s a=false/\ρ a<ρ b
theorem Taken.step{r q:Rl}(o:OkR r)(z:IsBack r q){s:UInt64}{k x:Nat}{ρ:Nat->Nat}(h:Taken r s k ρ)(p:has s x=true)(y:q.to x&&&s=0):Taken r (del s x) (k+1) (λi=>if i=x then k+1 else ρ i):=by
 have c:=Ca p
 refine⟨λi j=>?_,λi j=>?_,λa b m w=>?_⟩
 ·rw[JD c,AJ]at j;exact h.sub i j.1
 ·rw[JD c]at j
  by_cases e:i=x
  ·rw[if_pos e];omega
  ·rw[if_neg e]
   have:=h.lt i (by simpa[Ne.symm e]using j)
   omega
 ·have v:has s a=false\/a=x->has (del s x) a=false:=λh=>by
    rw[JD c]
    rcases h with h|h
    ·rw[h];rfl
    ·subst h;simp
  by_cases u:b=x
  ·subst u
   have d:has s a=false:=by
     cases e:has s a with
     |false=>rfl
     |true=>
      have n:has (q.to b&&&s) a=true:=by rw[JE,AJ];exact⟨(z.has a b).trans m,e⟩
      rw[y,V8]at n;cases n
   have g:a≠b:=λe=>by subst e;rw[p]at d;cases d
   exact⟨v (.inl d),by rw[if_neg g,if_pos Z];exact h.lt a d⟩
  ·have t:has s b=false:=by rw[JD c]at w;simpa[Ne.symm u]using w
   obtain⟨d,n⟩:=h.ord a b m t
   have g:a≠x:=λe=>by subst e;rw[p]at d;cases d
   exact⟨v (.inl d),by rw[if_neg g,if_neg u];exact n⟩
end Go.Proofs.YtajfpcgbnflceaaGreatDoor
