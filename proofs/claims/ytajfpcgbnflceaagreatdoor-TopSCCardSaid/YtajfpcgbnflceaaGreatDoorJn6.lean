/- WALK2. make([]T, 0, n); append of a slice of the caller's that may be nil. Conditions: sizes. -/
import Derived.Test.YtajfpcgbnflceaaGreatDoorJn5
set_option linter.unusedSimpArgs false
set_option linter.unusedVariables false
namespace Go.Proofs.YtajfpcgbnflceaaGreatDoor
open Go.Proofs.Tryz
open Go.RowKit
set_option maxRecDepth 100000
set_option maxHeartbeats 4000000
variable{c i j k m n sz:Nat}{dom:List UInt8}{e t:TypeId}{most:Int}{r z:RunP}{ti:TypeInfo}{v:Value}{x:Ins}
variable{P:Program}{l:List Oper}{Q:Exit->Act->World->Prop}{N:Nat}{a:Act}{env:List (Nat×Value)}{rest:List Oper}{d:Tmp}{ty:TypeId}{pos:String}{af:Array Edge}{g:Option (Nat×Bool)}{w0 w:World}{row:Option Nat}{rs:List Res}{Kt:Act->World->Prop}
theorem sMkC{x y:Operand}{z:Value}{bytes:Nat}{k p:IntKind}(H:Own w0 row w rs)(D:P.underlying t=some (.slice e))(A:∀w,(typeInfo e).run P w=.ok ti w)(E:ti.zero=some z)(i:ti.size=sz)(o:ti.bytes=bytes)(F:Has N a env)(s:V2 l env g=true)(u:Nat.blt d N=true)(r:ev env x=some (.int k 0))(C:ev env y=some (.int p (c:Int)))(hb:bytes*c<=281474976710656)(j:c<=maxLen)(K:∀b a w,Has N a ((d,Vd b 0 0 c)::env)->Own w0 row w (.rws e sz (Vd b 0 0 c) []::rs)->wpList P l.toArray Q rest a w):wpList P l.toArray Q (⟨some d,.makeSlice t x y,ty,pos,af,g⟩::rest) a w:=by
 have m:(c:Int)<=9223372036854775807:=by
  have h:=j
  simp[maxLen]at h
  omega
 have n:(ti.bytes:Int)*(c:Int)<=281474976710656:=by
  have h:((ti.bytes*c:Nat):Int)<=281474976710656:=by rw[o];omega
  rwa [Iu]at h
 have q:=run_make (P:=P) w t e ti z D (LG A) E k p 0 c (I4 _) O n m
 simp only[Int.toNat_zero,FU]at q
 have v:(execOp a.eval ⟨some d,.makeSlice t x y,ty,pos,af,g⟩).run P w=.ok (.value (Vd w.heap.size 0 0 c)) (w.alloc (.cells (madeCells z.cells (c*ti.size)) e)):=by
  simp only[execOp,F.eval r,F.eval C,Sem.run_bind,q]
  rfl
 subst i
 exact UV F s Z u v (λ_ B=>K _ _ _ B ((H.alloc (madeCells z.cells (c*ti.size)) e).seen _ (World.ownsRow_made w _ c (AU _) j (size_madeCells _ _)) (λb hb=>by
  have:w.heap.size=b:=by simpa[Res.rws,Res.arr,Value.ownBlock]using hb
  exact this.symm)))
theorem Xm8{ty:TypeId}{i:TypeInfo}{b:Nat}{xs:List Value}(m:P.underlying t=some (.slice e))(o:P.info? e=some i)(p:w.ownsRow 0 e b v n xs):
 (Builtin.append_ #[t,t] ty #[v,.slice none 0 c]).run P w=.ok v w:=by
 rcases p.2 with⟨j,s⟩|⟨g,q,r,j,_,_,d,_⟩
 ·subst j
  simp[Builtin.append_,run_underlying m,sizeOf,typeInfo,o,Builtin.lenOf,Builtin.firstCells]
 ·subst j
  simp[Builtin.append_,run_underlying m,sizeOf,typeInfo,o,Builtin.lenOf,Builtin.firstCells,d,storeCells]
theorem Xm9{j d:List (List Value)}{C:Option Addr}{z:Value}{n:Nat}(H:Own w0 row w rs)(i:Nat)(L:P.underlying t=some (.slice e))(Q:∀w,(typeInfo e).run P w=.ok ti w)(W:ti.zero=some z)(q:ti.size=sz)(B:ti.bytes=n)(G:z.cells.size=sz)(E:Nat.blt 0 sz=true)(K:Nat.blt 0 n=true)(I:rs[i]?=some (.rws e sz v j))(hm:d.length=m)(p:RowsAt w C sz d)(M:∀r∈d,r.length=sz)(U:∀r∈d,r.all (·.oneCell')=true)(hb:(j.length+m)*n<=140737488355328)(ty:TypeId):
 ∃A s R,(Builtin.append_ #[t,t] ty #[v,.slice C m c]).run P w=.ok (.slice A (j++d).length s) R/\Own w0 row R (rs.set i (.rws e sz (.slice A (j++d).length s) (j++d))):=by
 cases C with
 |some X=>exact XfO H i L Q W q B G E K I hm (p.flat M) M U hb ty
 |none=>
  obtain rfl:d=[]:=by
   cases d with
   |nil=>rfl
   |cons r rs=>
    obtain⟨b,o,y,_⟩:=p 0 r Z
    cases y
  obtain rfl:0=m:=hm
  have N:=H.arr i I
  have u:=Xm8 (ty:=ty) (c:=c) L (LG Q) N
  obtain⟨A,s,rfl⟩:∃A s,v=.slice A j.length s:=by
   rcases N.2 with⟨u,S⟩|⟨g,J,T,u,_⟩
   ·exact⟨none,0,by rw[S];exact u⟩
   ·exact⟨_,J,u⟩
  have V:rs.set i (.rws e sz (.slice A j.length s) j)=rs:=by
   obtain⟨D,y⟩:=AB.1 I
   rw[<-y]
   exact List.set_getElem_self D
  refine⟨A,s,w,?_,?_⟩
  ·rw[Ak];exact u
  ·rw[Ak,V];exact H
theorem XqV{s x:Operand}{j b:List (List Value)}{B:Option Addr}{z:Value}{bytes:Nat}(H:Own w0 row w rs)(i:Nat)(D:P.underlying t=some (.slice e))(S:∀w,(typeInfo e).run P w=.ok ti w)(V:ti.zero=some z)(n:ti.size=sz)(p:ti.bytes=bytes)(u:z.cells.size=sz)(q:Nat.blt 0 sz=true)(y:Nat.blt 0 bytes=true)(F:Has N a env)(J:V2 l env g=true)(M:Nat.blt d N=true)(hs:ev env s=some v)(I:ev env x=some (.slice B m c))(T:rs[i]?=some (.rws e sz v j))(hm:b.length=m)(o:RowsAt w B sz b)(L:∀r∈b,r.length=sz)(G:∀r∈b,r.all (·.oneCell')=true)(hb:(j.length+m)*bytes<=140737488355328)(K:∀A c a w,Has N a ((d,.slice A (j++b).length c)::env)->Own w0 row w (rs.set i (.rws e sz (.slice A (j++b).length c) (j++b)))->wpList P l.toArray Q rest a w):
 wpList P l.toArray Q (⟨some d,.call ⟨.builtin .append,#[s,x],#[t,t]⟩,ty,pos,af,g⟩::rest) a w:=by
 obtain⟨A,R,W,E,C⟩:=Xm9 (P:=P) (c:=c) H i D S V n p u q y T hm o L G hb ty
 exact UV F J Z M (Lc (ty':=ty) F hs I E) (λa U=>K A R a W U C)
section
variable{w0 w:World}{row:Option Nat}{rs xs ys zs:List Res}
theorem Own.front(H:Own w0 row w (xs++ys)):Own w0 row w xs:=(H.perm Fe).suf
theorem Own.swapN(H:Own w0 row w rs)(i j:Nat):Own w0 row w ((rs.drop i).take j++(rs.take i++rs.drop (i+j))):=by
 refine H.perm ?_
 have e:rs=rs.take i++((rs.drop i).take j++rs.drop (i+j)):=by
  rw[<-Hw,FL,FL]
 have h:(rs.take i++((rs.drop i).take j++rs.drop (i+j))).Perm ((rs.drop i).take j++(rs.take i++rs.drop (i+j))):=by
  rw[<-AO,<-AO]
  exact List.Perm.append_right _ Fe
 exact(List.Perm.of_eq e).trans h
theorem Xiz{P:Program}{g:Operand}{p:Tmp}{assign body:Code}{Q:Exit->Act->World->Prop}{N:Nat}{a:Act}{env:List (Nat×Value)}{B:List Deferred}{α:Type}{y:Nat}{M:Array Value}{T:TypeId}{d:α->List Value}{L:α->Prop}{m:List α}(k:Nat)(F:Has N a env)(C:Nat.blt p N=true)(U:ev env g=some (.func (.func y) #[] M))(V:∀n w,(callFunc y n).run P w=.ok (.enter y n) w)(H:Own w0 none w rs)(A:Iter P y M T d L m w0 (rs.drop k))(I:List α->List Res->Prop)(z:Code->List α->List Res->Prop)(R:I [] (rs.take k))(q:Value->List (Nat×Value))(j:∀(l:Nat)(J:Act)(W:World)(v:Value)(K:Act->World->Prop),Has N J ((p,v)::env)->(∀u,Has N u (q v++(p,v)::env)->K (wD u []) W)->assign.wpIn (Fence.wide.inRound l) 0 P (Exit.then K (λ_ _ _=>False)) (wD J []) W)(s:∀(l:Nat)(e:List α)(x:α)(b:Nat)(W:World)(t G:List Res)(u:Act),I e t->e++[x] <+: m->L x->Own w0 none W (.blk b (d x) T::(t++G))->Has N u (q (Vc b 0)++(p,Vc b 0)::env) ->
  body.wpIn (Fence.wide.inRound l) 0 P (Xbs I z (e++[x]) (λE S=>Own w0 none S (.blk b (d x) T::(E++G)))) (wD u []) W)(o:∀(D:Nat)(W:World)(i:List Res),I m i->Own w0 none W (.obj D (.deferred (some []))::(i++rs.drop k))->Q .normal (wD a (NG D::B)) W)(r:∀(D:Nat)(c:Code)(e:List α)(W:World)(i:List Res),e <+: m->z c e i->Own w0 none W (.obj D (.deferred (some []))::(i++rs.drop k))->c.wpIn Fence.wide 0 P Q (wD a (NG D::B)) W):
 (Code.rangeFunc g #[p] assign body).wpIn Fence.wide 0 P Q (wD a B) w:=
 rfOwn (us:=rs.take k) (ts:=rs.drop k) F C U V (by rw[FL];exact H) A I z R q j s o r
end
structure PlP where
 path:PathP
 A1:Option Addr
 c1:Nat
 A2:Option Addr
 c2:Nat
 A3:Option Addr
 c3:Nat
 A4:Option Addr
 c4:Nat
def PlP.cells(q:PlP):List Value:=q.path.cells q.A1 q.c1 q.A2 q.c2 q.A3 q.c3 q.A4 q.c4
def PlP.res(q:PlP):List Res:=q.path.res q.A1 q.c1 q.A2 q.c2 q.A3 q.c3 q.A4 q.c4
theorem XoW(b:Nat)(r:RunP)(w0:World)(t:Qm w0 b r)(m:TabAt w0)(hm:r.many<=24)(hs:SetsOk r):
 Calls prog 112 #[Vc b 0] w0 λe c=>∃q:PlP,q.path=Ul r/\e=.returned (.agg q.cells.toArray)/\Own w0 none c q.res:=by
 refine(XlH b r w0 t m hm hs).mono ?_;rintro e c ⟨i,n,p,s,j,g,d,o,rfl,H⟩
 have h:=UA r
 refine⟨⟨Ul r,i,n,p,s,j,g,d,o⟩,Z,?_,?_⟩
 ·simp only[PlP.cells,PathP.cells,Df,Ul,h]
 ·simp only[PlP.res,PathP.res,XiO,Ul,h]at H⊢
  exact H
theorem Own.addP{w0 w:World}{row:Option Nat}{q:PlP}{b:List PlP}{c hd:List Res}(H:Own w0 row w (q.res++(hd++(b.flatMap PlP.res++c)))):Own w0 row w (hd++((b++[q]).flatMap PlP.res++c)):=by
 refine H.perm ?_
 have e:(b++[q]).flatMap PlP.res=b.flatMap PlP.res++q.res:=by simp
 rw[e]
 have d:(q.res++(hd++(b.flatMap PlP.res++c))).Perm (hd++(q.res++(b.flatMap PlP.res++c))):=by
  have:=List.Perm.append_right (b.flatMap PlP.res++c) (Fe (l₁:=q.res) (l₂:=hd))
  simpa only[AO]using this
 refine d.trans (List.Perm.append_left _ ?_);rw[<-AO]
 exact List.Perm.append_right _ Fe
theorem Xkf(l:List UInt8):(Um l).length<=256:=by
 unfold Um
 refine AW (Fy _ _) ?_
 simp
def UI(l:List Ins)(dom:List UInt8)(most:Int):List PathP×Nat:=
 if most<0\/4096<most\/Ua 6 l=false then([],2)
 else if most<((JH l (Um dom)).length:Int)then([],5)
 else((JH l (Um dom)).map Ul,0)
def XcK(q:List PathP×Nat)(w0:World)(e:Ending)(c:World):Prop:=
 ∃(b:List PlP)(A:Option Addr)(C:Nat),b.map PlP.path=q.1/\e=.returned (.tuple #[.slice A b.length C,.int .i64 (q.2:Int)])/\Own w0 none c (.rws 148 12 (.slice A b.length C) (b.map PlP.cells)::b.flatMap PlP.res)
theorem De{l:List Ins}(h:most<0\/4096<most\/Ua 6 l=false):UI l dom most=([],2):=by unfold UI;rw[if_pos h]
theorem Xgn{l:List Ins}(c:¬most<0)(b:¬4096<most)(d:Ua 6 l=true)(h:most<((JH l (Um dom)).length:Int)):UI l dom most=([],5):=by
 unfold UI
 rw[if_neg (by rintro(h|h|h);exact c h;exact b h;rw[d]at h;cases h),if_pos h]
theorem XlG{l:List Ins}(c:¬most<0)(b:¬4096<most)(d:Ua 6 l=true)(h:((JH l (Um dom)).length:Int)<=most):UI l dom most=((JH l (Um dom)).map Ul,0):=by
 unfold UI
 rw[if_neg (by rintro(h|h|h);exact c h;exact b h;rw[d]at h;cases h),if_neg O]
theorem EG{w0 w:World}{rs:List Res}(H:Own w0 none w rs)(b:Nat):XcK ([],b) w0 (.returned (.tuple #[.slice none 0 0,Ve (b:Int)])) w:=
 ⟨[],none,0,Z,Z,(H.nilRws 148 12).sel [0] Z Z⟩
theorem XkI{r:List Value}{l:List UInt8}(b:r∈l.map λx=>[b8 x]):r.length=1:=by
 obtain⟨x,_,rfl⟩:=AT.1 b;rfl
namespace Md
theorem Paths_any(A:Option Addr)(C:Nat)(l:List Ins)(P:Option Addr)(DC:Nat)(dom:List UInt8)(most:Int)(w0:World)(Q:RowsAt w0 A 10 (l.map Ins.cells))(hn:l.length<=9223372036854775807)(hD:BytesAt w0 P dom)(X:dom.length<=1000000)(hN:NeedsAt w0)(hT:TabAt w0):
 Calls prog 58 #[.slice A l.length C,.slice P dom.length DC,Ve most] w0 (XcK (UI l dom most) w0):=by
 have H:=Own.start w0 none
 refine Ec func58 Z ntmps58 Z (λa F=>?_)
 refine gg 2 λa F=>?_
 refine zBx H F λb5 a w F H=>?_
 refine zAl zeroValue140 H F λS a w F H=>?_
 refine zAl zeroValue34 H F λN a w F H=>?_
 refine gg 7 λa F=>?_
 refine zSp 13 F (λa1 F=>?_) λa1 F=>?_
 ·
  refine gg 9 λa F=>?_
  refine cIfT F Z ?_
  refine gg 2 λa F=>?_
  refine zSt H 1 F λw H=>?_
  refine zSt H 0 F λw H=>?_
  refine gg 2 λa F=>?_
  refine XcN ?_;refine Mz results58 F Z Z isAgg140 isAgg34 H 1 0 Z Z ?_
  (rw[De (.inl a1)];exact EG H 2)
 refine gg 4 λa F=>?_
 refine zSp 17 F (λV F=>?_) λV F=>?_
 ·
  refine gg 5 λa F=>?_
  refine cIfT F Z ?_
  refine gg 2 λa F=>?_
  refine zSt H 1 F λw H=>?_
  refine zSt H 0 F λw H=>?_
  refine gg 2 λa F=>?_
  refine XcN ?_;refine Mz results58 F Z Z isAgg140 isAgg34 H 1 0 Z Z ?_
  (rw[De (.inr (.inl V))];exact EG H 2)
 refine gg 1 λa F=>?_
 refine zCa F (XfZ A C l _ (Q.own H) (hN.own H) hn) H λa w F H=>?_
 refine gg 4 λa F=>zi (λz=>?_) λz=>?_
 ·
  refine gg 2 λa F=>?_
  refine zSt H 1 F λw H=>?_
  refine zSt H 0 F λw H=>?_
  refine gg 2 λa F=>?_
  refine XcN ?_;refine Mz results58 F Z Z isAgg140 isAgg34 H 1 0 Z Z ?_
  (rw[De (.inr (.inr z))];exact EG H 2)
 have G:Ua 6 l=true:=by exact z
 refine gg 4 λa F=>?_
 refine Xi call55 F Z (Nb P DC dom _ (hD.own H) X) ?_;rintro e w ⟨I,J,rfl,m⟩;replace H:=H.join m;clear m
 refine zq λa F=>?_
 refine gg 4 λa F=>?_
 refine zAl zeroValue3 H F λb8 a w F H=>?_
 refine zSt H 0 F λw H=>?_
 refine gg 6 λa F=>?_
 refine Xi call110 F Z (Xax A l.length C I (Um dom).length J _) ?_;rintro e w ⟨b2,b3,rfl,m⟩;replace H:=H.join m;clear m
 refine zq λa F=>?_
 refine gg 2 λa F=>?_
 have t:=(H.sel [2,5,4,6,1,0,3] Z Z)
 refine Xiz 4 F Z Z (enters_of func167 Y Z) t (DS l (Um dom) G A C I J w0 Q (AW (Xkf dom) O) _ b2 b3 (λw H=>H.cell 0 Z Z) (λw H=>H.cell 1 Z Z) (λw H=>H.rowsAt 2 Z (λr U=>XkI U) O)) (λb d=>d=[.blk b8 [Ve (b.length:Int)] 3,.blk S [.slice none 0 0] 140,.blk N [Ve 0] 34,.blk b5 [Ve most] 3]/\(b.length:Int)<=most) (λc b d=>c=.ret/\d=[.blk b8 [Ve ((b.length-1:Nat):Int)] 3,.blk S [.slice none 0 0] 140,.blk N [Ve 5] 34,.blk b5 [Ve most] 3]/\most<(b.length:Int)) (⟨Z,by simp;omega⟩) (λ_=>[]) ?_ ?_ ?_ ?_
 ·
  clear t H F a;intro u a w v K y R
  exact Md.wp_skip (R _ y)
 ·
  clear t H F a;intro u b x bx w L qs a n j o H F
  obtain⟨rfl,s⟩:=n
  refine gg 9 λa F=>zi (λT=>?_) λT=>?_
  ·
   refine gg 2 λa F=>?_
   refine zSt H 2 F λw H=>?_
   refine zSt H 3 F λw H=>?_
   refine gg 2 λa F=>?_
   exact Xq7 _ ⟨Z,Z,by rw[AK,FQ];omega⟩ (by rw[AK,FQ];exact H)
  refine gg 3 λa F=>?_
  refine Xh F Z Z (JN ?_) ?_
  focus omega
  clear F a;intro a F
  refine zSt H 1 F λw H=>?_
  refine gg 1 λa F=>?_
  repeat(first|rw[if_pos rfl]|rw[if_neg (by decide)])
  exact Xbt _ ⟨Z,by rw[AK,FQ];omega⟩ (by rw[AK,FQ];exact H)
 ·
  intro D w d n H
  obtain⟨rfl,s⟩:=n
  refine gg 3 λa F=>?_
  refine sMkC (bytes:=104) (sz:=12) H underlying140 typeInfo148 Z Z Z F Z Z Z Z O (by(simp only[maxLen];omega)) λa5 a w F H=>?_
  refine zAl zeroValue140 H F λb9 a w F H=>?_
  refine zSt H 0 F λw H=>?_
  refine gg 6 λa F=>?_
  refine Xi call110 F Z (Xax A l.length C I (Um dom).length J _) ?_;rintro e w ⟨M,W,rfl,m⟩;replace H:=H.join m;clear m
  refine zq λa F=>?_
  refine gg 2 λa F=>?_
  have t:=(H.sel [2,3,6,7,4,1,0,11] Z Z)
  refine Xiz 5 F Z Z (enters_of func167 Y Z) t (DS l (Um dom) G A C I J w0 Q (AW (Xkf dom) O) _ M W (λw H=>H.cell 0 Z Z) (λw H=>H.cell 1 Z Z) (λw H=>H.rowsAt 2 Z (λr U=>XkI U) O)) (λb d=>∃(g:List PlP)(E:Option Addr)(B:Nat),g.map PlP.path=b.map Ul/\d=.blk b9 [.slice E g.length B] 140:: .rws 148 12 (.slice E g.length B) (g.map PlP.cells):: .blk S [.slice none 0 0] 140:: .blk N [Ve 0] 34:: .obj D (.deferred (some []))::g.flatMap PlP.res) (λ_ _ _=>False) (⟨[],_,_,Z,Z⟩) (λv=>[(10,v)]) ?_ ?_ ?_ ?_
  ·
   clear t H F a;intro u a w v K y R;refine Md.cReg ?_;refine sAs y Z Z Z λa y=>?_
   refine Md.sNil ?_ y
   exact R _ y
  ·
   clear t H F a;intro u b x bx w L qs a n j o H F
   obtain⟨g,E,B,p,rfl⟩:=n
   have a4:g.length=b.length:=by have:=congrArg List.length p;simpa using this
   have a8:b.length<(JH l (Um dom)).length:=by have:=j.length_le;simp at this;omega
   refine gg 1 λa F=>?_
   refine cRegRO Y (H.sel [1] Z Z) ?_;replace H:=H.drew;refine Xe 0 Z F Z Z (λw H=>rLd isAgg140 F Z (H.cell 0 Z Z)) (H.sel [1] Z Z) qq0 (Xg 1 Z Z (λa F w=>rMv F Z) (H.sel [1] Z Z) qq0 λa F=>?_);refine Xd (k:=2) (i:=2) Z F (UK call112 F Z Z (XoW bx x _ (H.blk 0 Z) (hT.own H) (by have:=o.many;have:=o.pc;have:=NW G;omega) o.sets) ?_);rintro e w ⟨q,hq,rfl,m⟩;replace H:=H.join m;clear m
   refine zq λa F=>?_
   refine V6 (H.sel [5] Z Z) ?_;refine Xd (k:=3) (i:=3) Z F (oBsA H underlying140 sizeOf148 zeroValue148 Z F Z Z Z Z λa7 a w F H=>?_);refine V6 (H.sel [6] Z Z) ?_
   refine Xd (k:=4) (i:=4) Z F (XlO (bytes:=104) H 7 underlying140 typeInfo148 Z Z Z Z Z Z F Z Z Z Z (H.whole 0 Z) Z ?s1 ?s2 ?_)
   case s1=>rfl
   case s2=>(rw[AH];omega)
   clear F a H;intro a6 a3 a w F H
   refine gg 1 λa F=>?_
   refine Xd (k:=5) (i:=5) Z F (oSt H 6 sizeOf140 F Z Z Z Z Z λw H=>?_)
   refine gg 2 λa F=>?_
   repeat(first|rw[if_pos rfl]|rw[if_neg (by decide)])
   have e9:g.map PlP.cells++[q.cells]=(g++[q]).map PlP.cells:=by simp
   have e8:(g.map PlP.cells++[q.cells]).length=(g++[q]).length:=by simp
   rw[e8,e9]at H
   exact Xbt _ ⟨g++[q],_,_,by rw[Ae,p,Ae];simp[hq],Z⟩ (Own.addP (hd:=[_,_,_,_,_,_]) H.tail)
  ·
   intro D w d n H
   obtain⟨g,E,B,p,rfl⟩:=n
   refine gg 3 λa F=>?_
   refine zSt H 3 F λw H=>?_
   refine zSt H 4 F λw H=>?_
   refine gg 2 λa F=>?_
   refine XcN ?_;refine LD H 0 Z λw H=>?_;refine LD H 5 Z λw H=>?_;refine Mz results58 F Z Z isAgg140 isAgg34 H 3 4 Z Z ?_
   (rw[XlG O O G s]
    refine⟨g,E,B,p,Z,?_⟩
    exact Own.front (xs:=_::g.flatMap PlP.res) (H.tail.tail.swapN 1 3).tail.tail.tail)
  ·
   intro D c b w d j n H
   exact n.elim
 ·
  intro D c b w d j n H
  obtain⟨rfl,rfl,s⟩:=n
  have a2:=j.length_le
  refine gg 1 λa F=>?_
  refine XcN ?_;refine LD H 0 Z λw H=>?_;refine Mz results58 F Z Z isAgg140 isAgg34 H 2 3 Z Z ?_
  (rw[Xgn O O G O];exact EG H 5)
end Md
/-! ### Bits -/
theorem M8(a k:Nat):(2*a).testBit (k+1)=a.testBit k:=by rw[Fo,show 2*a/2=a by omega]
theorem Xcz(a k:Nat):(2*a+1).testBit (k+1)=a.testBit k:=by rw[Fo,show(2*a+1)/2=a by omega]
theorem Bb(a:Nat):(2*a).testBit 0=false:=by rw[I7];exact decide_eq_false O
theorem XkD(a:Nat):(2*a+1).testBit 0=true:=by rw[I7];exact decide_eq_true O
theorem XhI:∀(w n:Nat),0<n->n<2^w->n.testBit (tzF w n)=true/\(∀k,k<tzF w n->n.testBit k=false)/\∀k,(n&&&(n-1)).testBit k=(n.testBit k&&decide (k≠tzF w n))
 |0,n,i,h=>by simp at h;omega
 |w+1,n,i,h=>by
  have c:2^(w+1)=2*2^w:=by rw[Nat.pow_succ,IH]
  rw[c]at h
  unfold tzF
  split
  next d=>
   obtain⟨m,rfl⟩:∃m,n=2*m+1:=⟨n/2,O⟩
   refine⟨XkD m,λk g=>O,λk=>?_⟩
   rw[F0,show 2*m+1-1=2*m by omega]
   cases k with
   |zero=>rw[Bb,Bool.and_false];simp
   |succ k=>rw[Xcz,M8,Bool.and_self];simp
  next d=>
   obtain⟨m,rfl⟩:∃m,n=2*m:=⟨n/2,O⟩
   obtain⟨b,j,o⟩:=XhI w m O O
   rw[show 2*m/2=m by omega]
   refine⟨by rw[M8];exact b,λk g=>?_,λk=>?_⟩
   ·cases k with
    |zero=>exact Bb m
    |succ k=>rw[M8];exact j k O
   ·rw[show 2*m-1=2*(m-1)+1 by omega,F0]
    cases k with
    |zero=>rw[Bb,Hu,Hu]
    |succ k=>
     rw[M8,Xcz,<-F0,o k]
     have e:decide (k≠tzF w m)=decide (k+1≠tzF w m+1):=decide_eq_decide.2 O
     rw[e]
theorem Nw:∀(n:Nat),n<4294967296->(∀k,k∈Em n↔n.testBit k=true)/\(Em n).Pairwise (· < ·):=by
 intro n
 induction n using Nat.strongRecOn with
 |_ n i=>
  intro o
  rcases Aw n with h0|h0
  ·subst h0
   rw[XkC]
   exact⟨λk=>by rw[Ib];simp,.nil⟩
  ·have p:=Ny n
   obtain⟨j,g,c⟩:=XhI 32 n h0 o
   obtain⟨d,m⟩:=i (n&&&(n-1)) O O
   rw[XaN h0]
   refine⟨λk=>?_,Fd.2 ⟨λk b=>?_,m⟩⟩
   ·rw[Ap,d k,c k,AJ,decide_eq_true_eq]
    constructor
    ·rintro(rfl|h)
     ·exact j
     ·exact h.1
    ·intro h
     by_cases e:k=tzN n
     ·exact .inl e
     ·exact .inr ⟨h,e⟩
   ·have b:=(d k).1 b
    rw[c k,AJ,decide_eq_true_eq]at b
    rcases F5 k (tzN n)with h|h|h
    ·rw[g k h]at b;exact absurd b.1 Bool.noConfusion
    ·exact absurd h b.2
    ·exact h
theorem JB{f:Nat->Nat}(c:∀k,f k<4294967296){x:Pr}:∀n,x∈Uv f n↔∃i k,i<n/\(f i).testBit k=true/\x=MD i k
 |0=>by
  constructor
  ·intro h;exact absurd h (IE)
  ·rintro⟨i,k,h,_⟩;omega
 |n+1=>by
  unfold Uv
  rw[A8,JB c n]
  unfold Xgb
  constructor
  ·rintro(⟨i,k,j,b,d⟩|h)
   ·exact⟨i,k,O,b,d⟩
   ·obtain⟨k,g,rfl⟩:=AT.1 h
    exact⟨n,k,O,((Nw (f n) (c n)).1 k).1 g,Z⟩
  ·rintro⟨i,k,j,b,rfl⟩
   by_cases e:i=n
   ·subst e
    exact .inr (AT.2 ⟨k,((Nw (f i) (c i)).1 k).2 b,Z⟩)
   ·exact .inl ⟨i,k,O,b,Z⟩
def PrLt(a b:Pr):Prop:=a.2.toNat<b.2.toNat\/a.2=b.2/\a.1.toNat<b.1.toNat
theorem ofN(h:i<256):(UInt8.ofNat i).toNat=i:=by rw[HZ];omega
theorem Di{f:Nat->Nat}(c:∀k,f k<4294967296)(hb:∀i k,(f i).testBit k=true->k<256):∀n,n<=256->(Uv f n).Pairwise PrLt
 |0,_=>.nil
 |n+1,r=>by
  unfold Uv
  refine List.pairwise_append.2 ⟨Di c hb n O,?_,λa g b d=>?_⟩
  ·unfold Xgb
   rw[Ig]
   refine List.Pairwise.imp_of_mem (λ{a b} g e j=>?_) (Nw (f n) (c n)).2
   have p:=hb n a (((Nw (f n) (c n)).1 a).1 g)
   have o:=hb n b (((Nw (f n) (c n)).1 b).1 e)
   refine .inr ⟨Z,?_⟩
   show(UInt8.ofNat a).toNat<(UInt8.ofNat b).toNat
   rw[ofN p,ofN o];exact j
  ·obtain⟨i,k,m,_,rfl⟩:=(JB c n).1 g
   unfold Xgb at d
   obtain⟨q,_,rfl⟩:=AT.1 d
   refine .inl ?_
   show(UInt8.ofNat i).toNat<(UInt8.ofNat n).toNat
   rw[ofN O,ofN O];exact m
/-! ### What the sets of a run point at -/
def Rd(r:RunP)(k:Nat):Prop:=k<r.many/\(r.ev k).kind=1
structure InvH (r:RunP):Prop where
 pos:∀i,i<r.many->(r.ev i).pos=UInt8.ofNat i
 deps:∀d k,(r.deps d).testBit k=true->Rd r k
 control:∀k,r.control.testBit k=true->Rd r k
 data:∀i,i<r.many->∀k,(r.data i).testBit k=true->k<i/\(r.ev k).kind=1/\(r.ev i).kind=2
 ctrl:∀i,i<r.many->∀k,(r.ctrl i).testBit k=true->k<i/\(r.ev k).kind=1
 att:∀i k,(r.att i).testBit k=true->i<r.many/\k<i/\(r.ev k).kind=1/\(r.ev i).kind=2/\(r.ev k).loc=(r.ev i).loc
theorem QH{α:Type}(f:Nat->α)(j:Nat)(v:α):GB f j v j=v:=by unfold GB;rw[if_pos Z]
theorem Jy{α:Type}{f:Nat->α}{v:α}(h:i≠j):GB f j v i=f i:=by unfold GB;rw[if_neg h]
theorem Q3(h:(0:Nat).testBit k=true):False:=by rw[Ib]at h;cases h
theorem XaO(h:(En m).testBit k=true):k=m:=by
 unfold En at h
 rw[Nat.testBit_two_pow]at h
 exact(of_decide_eq_true h).symm
theorem Xm3(m:Nat):(En m).testBit m=true:=by unfold En;rw[Nat.testBit_two_pow];exact decide_eq_true Z
theorem Cp{a b:Nat}(h:(a|||b).testBit k=true):a.testBit k=true\/b.testBit k=true:=by
 rw[Nat.testBit_or,FM]at h;exact h
theorem XjA:InvH zRun:=⟨λi h=>absurd h (Fx i),λ_ _ h=>(Q3 h).elim,λ_ h=>(Q3 h).elim,λi h=>absurd h (Fx i),λi h=>absurd h (Fx i),λ_ _ h=>(Q3 h).elim⟩
theorem InvH.arg(h:InvH r){b:Bool}{n:UInt8}(c:(G2 b n r).testBit k=true):Rd r k:=by
 unfold G2 at c
 cases b with
 |true=>exact h.deps _ _ c
 |false=>exact(Q3 c).elim
theorem InvH.set(h:InvH r)(d v:UInt8)(g:∀k,n.testBit k=true->Rd r k):InvH (setP d v n r):=
 ⟨h.pos,λe k b=>by
  have b:(GB r.deps d.toNat n e).testBit k=true:=b
  by_cases c:e=d.toNat
  ·rw[c,QH]at b;exact g k b
  ·rw[Jy c]at b;exact h.deps e k b,h.control,h.data,h.ctrl,h.att⟩
theorem InvH.pc(h:InvH r)(n:Nat):InvH (r.wPc n):=⟨h.pos,h.deps,h.control,h.data,h.ctrl,h.att⟩
theorem InvH.ctl(h:InvH r)(b:∀k,n.testBit k=true->Rd r k):InvH (r.wControl n):=⟨h.pos,h.deps,b,h.data,h.ctrl,h.att⟩
theorem InvH.dat(h:InvH r)(d:∀k,n.testBit k=true->k<i/\(r.ev k).kind=1/\(r.ev i).kind=2):InvH (r.wData i n):=
 ⟨h.pos,h.deps,h.control,λj c k b=>by
  have b:(GB r.data i n j).testBit k=true:=b
  by_cases e:j=i
  ·subst e;rw[QH]at b;exact d k b
  ·rw[Jy e]at b;exact h.data j c k b,h.ctrl,h.att⟩
theorem InvH.ctr(h:InvH r)(d:∀k,n.testBit k=true->k<i/\(r.ev k).kind=1):InvH (r.wCtrl i n):=
 ⟨h.pos,h.deps,h.control,h.data,λj c k b=>by
  have b:(GB r.ctrl i n j).testBit k=true:=b
  by_cases e:j=i
  ·subst e;rw[QH]at b;exact d k b
  ·rw[Jy e]at b;exact h.ctrl j c k b,h.att⟩
theorem InvH.emit(h:InvH r)(c p o j:UInt8)(w:∀k,n.testBit k=true->Rd r k/\c=2):InvH (UL c p o j n r):=by
 have g:∀k,k<r.many->(UL c p o j n r).ev k=r.ev k:=λk b=>Jy O
 have t:(UL c p o j n r).ev r.many=⟨c,p,o,j,UInt8.ofNat r.pc,UInt8.ofNat r.many⟩:=QH _ _ _
 have u:∀k,Rd r k->Rd (UL c p o j n r) k:=λk b=>⟨Nat.lt_succ_of_lt b.1,by rw[g k b.1];exact b.2⟩
 refine⟨λi q=>?_,λd k b=>u k (h.deps d k b),λk b=>u k (h.control k b),λi q k b=>?_,λi q k b=>?_,λi k b=>?_⟩
 ·have q:i<r.many+1:=q
  by_cases e:i=r.many
  ·rw[e,t]
  ·rw[g i O];exact h.pos i O
 ·have q:i<r.many+1:=q
  have b:(GB r.data r.many n i).testBit k=true:=b
  by_cases e:i=r.many
  ·subst e
   rw[QH]at b
   obtain⟨m,s⟩:=w k b
   rw[g k m.1,t]
   exact⟨m.1,m.2,s⟩
  ·rw[Jy e]at b
   obtain⟨m,s,v⟩:=h.data i O k b
   rw[g k O,g i O]
   exact⟨m,s,v⟩
 ·have q:i<r.many+1:=q
  have b:(GB r.ctrl r.many r.control i).testBit k=true:=b
  by_cases e:i=r.many
  ·subst e
   rw[QH]at b
   have m:=h.control k b
   rw[g k m.1]
   exact⟨m.1,m.2⟩
  ·rw[Jy e]at b
   obtain⟨m,s⟩:=h.ctrl i O k b
   rw[g k O]
   exact⟨m,s⟩
 ·obtain⟨m,s,v⟩:=h.att i k b
  rw[g k O,g i m]
  exact⟨Nat.lt_succ_of_lt m,s,v⟩
theorem InvH.exch(h:InvH r)(x:Ins)(b c:UInt8)(t:∀k,n.testBit k=true->Rd r k):InvH (GP x b c n r):=by
 have q:=h.emit 1 x.loc b 3 (n:=0) λk d=>(Q3 d).elim
 have p:(UL 1 x.loc b 3 0 r).ev r.many=⟨1,x.loc,b,3,UInt8.ofNat r.pc,UInt8.ofNat r.many⟩:=QH _ _ _
 have j:∀k,Rd r k->Rd (UL 1 x.loc b 3 0 r) k:=λk d=>⟨Nat.lt_succ_of_lt d.1,by rw[show(UL 1 x.loc b 3 0 r).ev k=r.ev k from Jy (by have:=d.1;omega)];exact d.2⟩
 have g:=q.emit 2 x.loc c 3 (n:=n) λk d=>⟨j k (t k d),Z⟩
 have m:(UL 2 x.loc c 3 n (UL 1 x.loc b 3 0 r)).ev r.many=⟨1,x.loc,b,3,UInt8.ofNat r.pc,UInt8.ofNat r.many⟩:=(Jy (show r.many≠r.many+1 by omega)).trans p
 have s:(UL 2 x.loc c 3 n (UL 1 x.loc b 3 0 r)).ev (r.many+1)=⟨2,x.loc,c,3,UInt8.ofNat r.pc,UInt8.ofNat (r.many+1)⟩:=QH _ _ _
 have o:InvH ((UL 2 x.loc c 3 n (UL 1 x.loc b 3 0 r)).wAtt (r.many+1) (En r.many)):=⟨g.pos,g.deps,g.control,g.data,g.ctrl,λi k d=>by
  have d:(GB (UL 2 x.loc c 3 n (UL 1 x.loc b 3 0 r)).att (r.many+1) (En r.many) i).testBit k=true:=d
  show i<r.many+1+1/\_
  by_cases e:i=r.many+1
  ·subst e
   rw[QH]at d
   obtain rfl:=XaO d
   refine⟨O,O,?_⟩
   show((UL 2 x.loc c 3 n (UL 1 x.loc b 3 0 r)).ev r.many).kind=1/\((UL 2 x.loc c 3 n (UL 1 x.loc b 3 0 r)).ev (r.many+1)).kind=2/\((UL 2 x.loc c 3 n (UL 1 x.loc b 3 0 r)).ev r.many).loc=((UL 2 x.loc c 3 n (UL 1 x.loc b 3 0 r)).ev (r.many+1)).loc
   rw[m,s]
   exact⟨Z,Z,Z⟩
  ·rw[Jy e]at d
   exact g.att i k d⟩
 refine o.set _ _ λk d=>?_
 obtain rfl:=XaO d
 refine⟨show r.many<r.many+1+1 by omega,?_⟩
 show((UL 2 x.loc c 3 n (UL 1 x.loc b 3 0 r)).ev r.many).kind=1
 rw[m]
theorem Xmy(x:Ins)(c b:UInt8)(n:Nat)(r:RunP)(h:k<r.many):(GP x c b n r).ev k=r.ev k:=(Jy (show k≠r.many+1 by omega)).trans (Jy (show k≠r.many by omega))
theorem MW{M:RunP->Prop}(x:Ins)(v:UInt8)(r:RunP)(t:x.op=1->M (Xai x v r))(q:x.op=2->M (Mq x r))(n:x.op=3->M (QI x r))(o:x.op=4->M (CA x v r))(s:x.op=5->M (NS x v r))(p:x.op=6->M (XaL x v r))(u:x.op=7->M (MS x r))(m:x.op≠1/\x.op≠2/\x.op≠3/\x.op≠4/\x.op≠5/\x.op≠6/\x.op≠7->M (JY x r)):M (Js x v r):=by
 unfold Js
 by_cases e:x.op=1
 ·rw[if_pos e];exact t e
 rw[if_neg e]
 by_cases i:x.op=2
 ·rw[if_pos i];exact q i
 rw[if_neg i]
 by_cases d:x.op=3
 ·rw[if_pos d];exact n d
 rw[if_neg d]
 by_cases b:x.op=4
 ·rw[if_pos b];exact o b
 rw[if_neg b]
 by_cases g:x.op=5
 ·rw[if_pos g];exact s g
 rw[if_neg g]
 by_cases c:x.op=6
 ·rw[if_pos c];exact p c
 rw[if_neg c]
 by_cases j:x.op=7
 ·rw[if_pos j];exact u j
 rw[if_neg j]
 exact m ⟨e,i,d,b,g,c,j⟩
theorem InvH.load(h:InvH r)(d c v b:UInt8):InvH (setP d v (En r.many) (UL 1 c v b 0 r)):=by
 refine(h.emit 1 c v b (n:=0) λk e=>(Q3 e).elim).set _ _ λk e=>?_
 obtain rfl:=XaO e
 refine⟨Fc _,?_⟩
 rw[show(UL 1 c v b 0 r).ev r.many=⟨1,c,v,b,UInt8.ofNat r.pc,UInt8.ofNat r.many⟩from QH _ _ _]
theorem InvH.exec{r:RunP}(h:InvH r)(x:Ins)(v:UInt8):InvH (Ub x v r):=by
 refine InvH.pc ?_ _
 refine MW x v r (λ_=>?_) (λ_=>?_) (λ_=>?_) (λ_=>?_) (λ_=>?_) (λ_=>?_) (λ_=>?_) (λ_=>?_)
 ·exact h.load _ _ _ _
 ·exact h.emit _ _ _ _ λk hk=>⟨h.arg hk,Z⟩
 ·refine h.set _ _ λk hk=>?_
  rcases Cp hk with hk|hk
  ·exact h.arg hk
  ·exact h.arg hk
 ·exact h.exch _ _ _ λk hk=>h.arg hk
 ·have b:=h.exch x v (v+UX x.aR x.aN r) (n:=G2 x.aR x.aN r) λk hk=>h.arg hk
  refine b.dat λk hk=>?_
  rcases Cp hk with hk|hk
  ·exact b.data _ (show r.many+1<r.many+1+1 by omega) k hk
  ·obtain⟨_,d,e,i,_⟩:=b.att _ _ hk
   exact⟨d,e,i⟩
 ·unfold XaL
  split
  ·exact h.load _ _ _ _
  ·have b:=h.exch x v (UX x.bR x.bN r) (n:=G2 x.bR x.bN r) λk hk=>h.arg hk
   refine b.ctr λk hk=>?_
   rcases Cp hk with hk|hk
   ·exact b.ctrl _ (show r.many+1<r.many+1+1 by omega) k hk
   ·rcases Cp hk with hk|hk
    ·obtain⟨_,d,e,_⟩:=b.att _ _ hk
     exact⟨d,e⟩
    ·have c:=h.arg hk
     rw[Xmy _ _ _ _ _ c.1]
     exact⟨by have:=c.1;omega,c.2⟩
 ·exact h.emit _ _ _ _ λk hk=>(Q3 hk).elim
 ·unfold JY
  have g:InvH (r.wControl (r.control|||(G2 x.aR x.aN r|||G2 x.bR x.bN r))):=h.ctl λk hk=>by
   rcases Cp hk with hk|hk
   ·exact h.control k hk
   ·rcases Cp hk with hk|hk
    ·exact h.arg hk
    ·exact h.arg hk
  split
  ·exact g.pc _
  ·exact g
structure PairOk (j:Nat) (evs:List Ev) (x:Pr):Prop where
 hi:x.2.toNat<evs.length
 lt:x.1.toNat<x.2.toNat
 rd:∀e,evs[x.1.toNat]?=some e->e.kind=1
 wr:j≠1->∀e,evs[x.2.toNat]?=some e->e.kind=2
 lc:j=2->∀e e',evs[x.1.toNat]?=some e->evs[x.2.toNat]?=some e'->e.loc=e'.loc
theorem Cf{e:Ev}(h:(GL r)[i]?=some e):i<r.many/\e=r.ev i:=by
 unfold GL at h
 rw[AD]at h
 rcases AN i r.many with hi|hi
 ·rw[Av hi]at h
  exact⟨hi,(Ac h).symm⟩
 ·rw[AV (by rw[Aq];exact hi)]at h;cases h
structure PairsOk (j:Nat) (evs:List Ev) (l:List Pr):Prop where
 mem:∀x∈l,PairOk j evs x
 ord:l.Pairwise PrLt
theorem CW{f:Nat->Nat}(hm:r.many<=24)(n:∀k,f k<4294967296)(h:∀i,i<r.many->∀k,(f i).testBit k=true->k<i/\(r.ev k).kind=1/\(j≠1->(r.ev i).kind=2)/\(j=2->(r.ev k).loc=(r.ev i).loc)):PairsOk j (GL r) (Uv f r.many):=by
 refine⟨λx q=>?_,Di n (λi k d=>?_) _ O⟩
 ·obtain⟨i,k,p,d,rfl⟩:=(JB n _).1 q
  obtain⟨v,u,s,t⟩:=h i p k d
  have o:(MD i k).1.toNat=k:=ofN O
  have g:(MD i k).2.toNat=i:=ofN O
  refine⟨by rw[g,UA];exact p,by rw[o,g];exact v,λe b=>?_,λm e b=>?_,λm e w b c=>?_⟩
  ·rw[o]at b;rw[(Cf b).2];exact u
  ·rw[g]at b;rw[(Cf b).2];exact s m
  ·rw[o]at b;rw[g]at c;rw[(Cf b).2,(Cf c).2];exact t m
 ·rcases AN k 256 with h|h
  ·exact h
  ·have:(f i).testBit k=false:=I5 (FC (n i) (show 2^32<=2^k from Iq (by decide) O))
   rw[this]at d;cases d
theorem InvH.pairs(h:InvH r)(hm:r.many<=24)(hs:SetsOk r):PairsOk 0 (Ul r).evs (Ul r).data/\PairsOk 1 (Ul r).evs (Ul r).ctrl/\PairsOk 2 (Ul r).evs (Ul r).rmw:=by
 refine⟨CW hm hs.data λi g k b=>?_,CW hm hs.ctrl λi g k b=>?_,CW hm hs.att λi g k b=>?_⟩
 ·obtain⟨d,c,j⟩:=h.data i g k b
  exact⟨d,c,λ_=>j,λe=>by cases e⟩
 ·obtain⟨d,c⟩:=h.ctrl i g k b
  exact⟨d,c,λe=>absurd Z e,λe=>by cases e⟩
 ·obtain⟨_,d,c,j,m⟩:=h.att i k b
  exact⟨d,c,λ_=>j,λ_=>m⟩
theorem PairsOk.at{b:List Ev}{l:List Pr}(h:PairsOk j b l){x:Pr}(c:l[i]?=some x):PairOk j b x:=h.mem x (AF c)
theorem PairsOk.next{c:List Ev}{l:List Pr}(h:PairsOk j c l){a b:Pr}(e:l[i-1]?=some a)(hb:l[i]?=some b)(m:0<i):PrLt a b:=by
 obtain⟨g,rfl⟩:=AB.1 e
 obtain⟨d,rfl⟩:=AB.1 hb
 exact Ao.1 h.ord _ _ g d O
inductive PathD (l:List Ins) (dom:List UInt8):RunP->RunP->Prop where
 |stop {r:RunP}:l[r.pc]?=none->PathD l dom r r
 |read {r z:RunP} {x:Ins} {v:UInt8}:l[r.pc]?=some x->Ug x.op=true->v∈dom->PathD l dom (Ub x v r) z->PathD l dom r z
 |pass {r z:RunP} {x:Ins}:l[r.pc]?=some x->Ug x.op=false->PathD l dom (Ub x 0 r) z->PathD l dom r z
section
variable{l:List Ins}{dom:List UInt8}
theorem PathD.at_none(h:PathD l dom r z)(c:l[r.pc]?=none):z=r:=by
 cases h with
 |stop _=>rfl
 |read b _ _ _=>rw[c]at b;cases b
 |pass b _ _=>rw[c]at b;cases b
theorem PathD.at_pass(h:PathD l dom r z)(c:l[r.pc]?=some x)(g:Ug x.op=false):PathD l dom (Ub x 0 r) z:=by
 cases h with
 |stop b=>rw[c]at b;cases b
 |read b d _ _=>rw[c]at b;cases b;rw[g]at d;cases d
 |pass b _ e=>rw[c]at b;cases b;exact e
theorem PathD.at_read(h:PathD l dom r z)(c:l[r.pc]?=some x)(i:Ug x.op=true):∃v∈dom,PathD l dom (Ub x v r) z:=by
 cases h with
 |stop b=>rw[c]at b;cases b
 |read b _ g e=>rw[c]at b;cases b;exact⟨_,g,e⟩
 |pass b d _=>rw[c]at b;cases b;rw[i]at d;cases d
theorem XeS(b:l[r.pc]?=none)(n:Nat):Uj l n r=r:=U7 (.inr b) n
theorem XeQ(b:l[r.pc]?=some x)(c:Ug x.op=true)(n:Nat):Uj l n r=r:=U7 (.inl (by unfold U2;rw[b];exact c)) n
theorem XeR(b:l[r.pc]?=some x)(c:Ug x.op=false)(n:Nat):Uj l (n+1) r=Uj l n (Ub x 0 r):=by
 rw[Uj,b]
 exact if_neg (by rw[c];decide)
theorem L6{z:RunP}:∀(n:Nat)(r:RunP),PathD l dom (Uj l n r) z↔PathD l dom r z
 |0,r=>Iff.rfl
 |n+1,r=>by
  cases b:l[r.pc]? with
  |none=>rw[XeS b]
  |some x=>
   cases c:Ug x.op with
   |true=>rw[XeQ b c]
   |false=>
    rw[XeR b c]
    exact(L6 n (Ub x 0 r)).trans ⟨λh=>.pass b c h,λh=>h.at_pass b c⟩
theorem Xnt:∀(n:Nat)(r:RunP),r.pc<=(Uj l n r).pc
 |0,r=>AI _
 |n+1,r=>by
  cases b:l[r.pc]? with
  |none=>rw[XeS b];exact AI _
  |some x=>
   cases c:Ug x.op with
   |true=>rw[XeQ b c];exact AI _
   |false=>
    have e:=(JG x 0 r).1
    have d:=Xnt n (Ub x 0 r)
    rw[XeR b c]
    omega
theorem B3{z:RunP}:∀(f:Nat)(r:RunP),l.length-r.pc<f->(z∈U6 l dom f r↔PathD l dom r z)
 |0,r,h=>absurd h (Fx _)
 |f+1,r,h=>by
  have o:PathD l dom (VY l r) z↔PathD l dom r z:=L6 _ r
  have n:r.pc<=(VY l r).pc:=Xnt _ r
  rw[<-o]
  cases d:U2 l (VY l r)with
  |true=>
   rw[Mr d,Hh]
   obtain⟨b,j⟩:=Xa5 d
   have m:=(AB.1 b).1
   have i:=λv=>B3 (z:=z) f (Ub (QB l (VY l r)) v (VY l r)) (by have:=(JG (QB l (VY l r)) v (VY l r)).1;omega)
   constructor
   ·rintro⟨v,g,c⟩
    exact .read b j g ((i v).1 c)
   ·intro c
    obtain⟨v,g,p⟩:=c.at_read b j
    exact⟨v,g,(i v).2 p⟩
  |false=>
   rw[Lo d,Ay]
   have b:l[(VY l r).pc]?=none:=(Dc _ r (AI _)).resolve_left (λe=>by have:=d.symm.trans e;cases this)
   exact⟨λe=>by rw[e];exact .stop b,λc=>c.at_none b⟩
theorem mem_ends:z∈JH l dom↔PathD l dom zRun z:=B3 _ _ (by have:zRun.pc=0:=rfl;omega)
theorem PathD.keep{I:RunP->Prop}(d:∀(r:RunP)(x:Ins)(v:UInt8),l[r.pc]?=some x->I r->I (Ub x v r))(h:PathD l dom r z):I r->I z:=by
 induction h with
 |stop _=>exact id
 |read b _ _ _ c=>exact λh=>c (d _ _ _ b h)
 |pass b _ _ c=>exact λh=>c (d _ _ _ b h)
theorem PathD.fin(h:PathD l dom r z):l[z.pc]?=none:=by
 induction h with
 |stop c=>exact c
 |read _ _ _ _ b=>exact b
 |pass _ _ _ b=>exact b
theorem PathD.invH(h:PathD l dom r z):InvH r->InvH z:=h.keep λ_ x v _ b=>b.exec x v
end
theorem XjF{b:Nat}:∀(l:List Nat)(a:Nat),l.Pairwise (· < ·)->(∀x∈l,a<=x/\x<b)->l.length<=b-a
 | [],a,_,_=>AU _
 |x::l,a,e,c=>by
  obtain⟨i,g⟩:=Fd.1 e
  have j:=c x (by simp)
  have:=XjF l (x+1) g λy d=>⟨i y d,(c y (by simp[d])).2⟩
  rw[AY];omega
theorem Xbz{f:Nat->Nat}(c:∀k,f k<4294967296):∀n,(Uv f n).length<=32*n
 |0=>AI _
 |n+1=>by
  have m:=Xbz c n
  obtain⟨i,g⟩:=Nw (f n) (c n)
  have j:=XjF (b:=32) (Em (f n)) 0 g λx e=>⟨AU _,by
   rcases AN x 32 with h|h
   ·exact h
   ·have d:(f n).testBit x=false:=I5 (FC (c n) (show 2^32<=2^x from Iq (by decide) h))
    rw[(i x).1 e]at d;cases d⟩
  unfold Uv
  rw[AK]
  unfold Xgb
  rw[AH];omega
abbrev d8(x:UInt64):Value:=.int .u64 (x.toNat:Int)
def bit(n:Nat):UInt64:=UInt64.ofNat (2^n)
def shr(s:UInt64)(n:Nat):UInt64:=UInt64.ofNat (s.toNat/2^n)
section
variable{P:Program}{t:TypeId}{x' y':Operand}{x y:UInt64}{k:IntKind}{n:Nat}
theorem Qe(x:UInt64):BitVec.ofInt 64 (x.toNat:Int)=x.toBitVec:=by
 rw[BitVec.ofInt_natCast];apply BitVec.eq_of_toNat_eq;simp
theorem E0(x y:UInt64):((x.toNat:Int)==(y.toNat:Int))=(x==y):=by
 rw[HE];simp only[beq_iff_eq,Int.ofNat_inj];exact UInt64.toNat_inj
theorem XaS:Gu P .eql t x' y' (d8 x) (d8 y) (.bool (x==y)):=λw=>by rw[bEql w,E0]
theorem Be:Gu P .neq t x' y' (d8 x) (d8 y) (.bool (x != y)):=λw=>by rw[bNeq w,bne,E0];rfl
theorem XcD:Gu P .sub t x' y' (d8 x) (d8 y) (d8 (x-y)):=λw=>by
 rw[bSub w,Qr,d8,UInt64.toNat_sub];have:=x.toNat_lt;have:=y.toNat_lt;congr 2;omega
theorem bMulD:Gu P .mul t x' y' (d8 x) (d8 y) (d8 (x*y)):=λw=>by
 have h:(do eqGuard .mul t x' y' (d8 x) (d8 y);binOp .mul t (d8 x) (d8 y):Sem Value).run P w=.ok (.int .u64 (IntKind.u64.wrap ((x.toNat:Int)*(y.toNat:Int)))) w:=by simp[eqGuard,binOp,Op.intArith,go_sem]
 rw[h,Qr,d8,UInt64.toNat_mul];congr 2
theorem NI:Gu P .and t x' y' (d8 x) (d8 y) (d8 (x&&&y)):=λw=>by
 have h:(x&&&y).toNat<18446744073709551616:=(x&&&y).toNat_lt
 simp only[eqGuard,binOp,Op.intBits,go_sem]
 show Result.ok (Value.int .u64 (IntKind.u64.wrap ((BitVec.ofInt 64 (x.toNat:Int)&&&BitVec.ofInt 64 (y.toNat:Int)).toNat:Int))) w=_
 rw[Qe,Qe,Qr]
 have e:(x.toBitVec&&&y.toBitVec).toNat=(x&&&y).toNat:=rfl
 rw[e,d8];congr 2;omega
theorem XcF:Gu P .or t x' y' (d8 x) (d8 y) (d8 (x|||y)):=λw=>by
 have h:(x|||y).toNat<18446744073709551616:=(x|||y).toNat_lt
 simp only[eqGuard,binOp,Op.intBits,go_sem]
 show Result.ok (Value.int .u64 (IntKind.u64.wrap ((BitVec.ofInt 64 (x.toNat:Int)|||BitVec.ofInt 64 (y.toNat:Int)).toNat:Int))) w=_
 rw[Qe,Qe,Qr]
 have e:(x.toBitVec|||y.toBitVec).toNat=(x|||y).toNat:=rfl
 rw[e,d8];congr 2;omega
theorem Xhc:Gu P .andNot t x' y' (d8 x) (d8 y) (d8 (x &&& ~~~y)):=λw=>by
 have h:(x &&& ~~~y).toNat<18446744073709551616:=(x &&& ~~~y).toNat_lt
 simp only[eqGuard,binOp,Op.intBits,go_sem]
 show Result.ok (Value.int .u64 (IntKind.u64.wrap ((BitVec.ofInt 64 (x.toNat:Int) &&& ~~~ BitVec.ofInt 64 (y.toNat:Int)).toNat:Int))) w=_
 rw[Qe,Qe,Qr]
 have e:(x.toBitVec &&& ~~~ y.toBitVec).toNat=(x &&& ~~~y).toNat:=rfl
 rw[e,d8];congr 2;omega
theorem Bc(h:n<64):(bit n).toNat=2^n:=by
 unfold bit
 rw[UInt64.toNat_ofNat']
 exact Fg (IX (by decide) h)
theorem Xef(h:n<64):Gu P .shl t x' y' (.int .u64 1) (.int k (n:Int)) (d8 (bit n)):=λw=>by
 have c:Op.shift .shl .u64 1 k (n:Int)=pure (.int .u64 (IntKind.u64.wrap ((1:Int)*2^(n:Int).toNat))):=shift_shl .u64 k 1 (n:Int) O (by show(n:Int)<=64;omega)
 simp only[eqGuard_shl,binOp_shl,c]
 show Result.ok (Value.int .u64 (IntKind.u64.wrap ((1:Int)*2^n))) w=_
 have b:2^n<18446744073709551616:=IX (a:=2) (m:=n) (n:=64) (by decide) h
 have e:IntKind.u64.wrap ((1:Int)*2^n)=((2^n:Nat):Int):=by
  rw[Qr]
  have:(1:Int)*((2:Int)^n)=((2^n:Nat):Int):=by simp
  rw[this];generalize 2^n=q at b;omega
 rw[e,d8,Bc h]
theorem Ms(s:UInt64)(c:Nat):(shr s c).toNat=s.toNat/2^c:=by
 unfold shr
 rw[UInt64.toNat_ofNat']
 exact Fg (Ic (Nat.div_le_self _ _) s.toNat_lt)
theorem Xm6(h:n<=64):Gu P .shr t x' y' (d8 x) (.int k (n:Int)) (d8 (shr x n)):=λw=>by
 have b:Op.shift .shr .u64 (x.toNat:Int) k (n:Int)=pure (.int .u64 ((x.toNat:Int)/2^(n:Int).toNat)):=shift_shr .u64 k (x.toNat:Int) (n:Int) O (by show(n:Int)<=64;omega)
 simp only[eqGuard_shr,binOp_shr,b]
 show Result.ok (Value.int .u64 ((x.toNat:Int)/2^n)) w=_
 have e:(x.toNat:Int)/2^n=((x.toNat/2^n:Nat):Int):=by
  have:((2:Int)^n)=((2^n:Nat):Int):=by simp
  rw[this];exact(I8 _ _).symm
 rw[e,d8,Ms]
variable{l:List Oper}{Q:Exit->Act->World->Prop}{N:Nat}{a:Act}{env:List (Nat×Value)}{rest:List Oper}{d:Tmp}{ty:TypeId}{pos:String}{af:Array Edge}{g:Option (Nat×Bool)}{w:World}
theorem rNegD{x':Operand}(F:Has N a env)(c:ev env x'=some (d8 x)):(execOp a.eval ⟨some d,.unOp .neg t x',ty,pos,af,g⟩).run P w=.ok (.value (d8 (0-x))) w:=by
 have b:(Op.unary .neg (d8 x)).run P w=.ok (.int .u64 (IntKind.u64.wrap (0-(x.toNat:Int)))) w:=by simp[Op.unary,Op.intArith,go_sem]
 have e:IntKind.u64.wrap (0-(x.toNat:Int))=((0-x).toNat:Int):=by
  rw[Qr,UInt64.toNat_sub];have:=x.toNat_lt
  show _=(((2^64-x.toNat+0)%2^64:Nat):Int)
  omega
 rw[e]at b
 simp only[execOp,F.eval c,Sem.run_bind,b]
 rfl
theorem sNegD{x':Operand}(F:Has N a env)(c:V2 l env g=true)(e:Nat.blt d N=true)(b:ev env x'=some (d8 x))(K:∀a,Has N a ((d,d8 (0-x))::env)->wpList P l.toArray Q rest a w):wpList P l.toArray Q (⟨some d,.unOp .neg t x',ty,pos,af,g⟩::rest) a w:=
 UV F c Z e (rNegD F b) K
end
/-! ### Elements -/
def has(s:UInt64)(i:Nat):Bool:=s.toNat.testBit i
section
variable{x y s:UInt64}{i n:Nat}
theorem Ca(h:has s i=true):i<64:=by
 refine Nat.lt_of_not_le λb=>?_
 unfold has at h
 rw[I5 (FC s.toNat_lt (Iq (by decide) b))]at h
 cases h
theorem XjK(h:64<=i):has s i=false:=by
 cases e:has s i with
 |false=>rfl
 |true=>have:=Ca e;omega
theorem V8:has 0 i=false:=Ib i
theorem JE:has (x&&&y) i=(has x i&&has y i):=by unfold has;rw[UInt64.toNat_and,F0]
theorem GR:has (x|||y) i=(has x i||has y i):=by unfold has;rw[UInt64.toNat_or,Nat.testBit_or]
theorem Gx(h:n<64):has (bit n) i=decide (n=i):=by unfold has;rw[Bc h,Nat.testBit_two_pow]
theorem Dx:has (x &&& ~~~y) i=(has x i && !has y i):=by
 rw[JE]
 rcases AN i 64 with h|h
 ·have:has (~~~y) i = !has y i:=by
    unfold has
    rw[UInt64.toNat_not,show UInt64.size-1-y.toNat=2^64-(y.toNat+1) by have:=y.toNat_lt;show 2^64-1-y.toNat=_;omega,Nat.testBit_two_pow_sub_succ y.toNat_lt,decide_eq_true h,IL]
  rw[this]
 ·rw[XjK h,Hu,Hu]
theorem Q8(h:∀i,i<64->has x i=has y i):x=y:=UInt64.toNat_inj.1 (Ip λi=>by
 rcases AN i 64 with hi|hi
 ·exact h i hi
 ·have b:=XjK (s:=x) hi
  have c:=XjK (s:=y) hi
  unfold has at b c
  rw[b,c])
theorem Xib(s:UInt64)(n:Nat):(shr s n&&&1).toNat=if has s n=true then 1 else 0:=by
 rw[UInt64.toNat_and,Ms]
 show s.toNat/2^n&&&1=_
 unfold has
 rw[Nat.and_one_is_mod,Nat.testBit_eq_decide_div_mod_eq]
 have:=Nat.mod_two_eq_zero_or_one (s.toNat/2^n)
 rcases this with h|h<;>simp[h]
theorem has_shr:(shr s n&&&1==1)=has s n:=by
 rw[HE,beq_iff_eq,<-UInt64.toNat_inj,Xib]
 cases has s n<;>simp
theorem shr_zero:shr s n&&&1=0↔has s n=false:=by
 rw[<-UInt64.toNat_inj,Xib]
 cases has s n<;>simp
end
theorem MK:∀(w n:Nat),0<n->n<2^w->(∀i,(n&&&(n-1)).testBit i=(n.testBit i&&decide (i≠tzF w n)))/\n.testBit (tzF w n)=true/\∀j,j<tzF w n->n.testBit j=false
 |0,n,e,h=>by simp at h;omega
 |w+1,n,e,h=>by
  have d:2^(w+1)=2*2^w:=by rw[Nat.pow_succ,IH]
  rw[d]at h
  unfold tzF
  split
  next o=>
   obtain⟨m,rfl⟩:∃m,n=2*m+1:=⟨n/2,O⟩
   refine⟨λi=>?_,by simp,λj b=>absurd b O⟩
   rw[show 2*m+1-1=2*m by omega,F0]
   cases i with
   |zero=>simp
   |succ i=>simp[Fo,show(2*m+1)/2=m by omega]
  next o=>
   obtain⟨m,rfl⟩:∃m,n=2*m:=⟨n/2,O⟩
   obtain⟨p,g,c⟩:=MK w m O O
   rw[show 2*m/2=m by omega]
   refine⟨λi=>?_,by rw[Fo,show 2*m/2=m by omega];exact g,λj b=>?_⟩
   ·cases i with
    |zero=>simp
    |succ i=>
     have:=p i
     rw[F0]at this;rw[F0,Fo,Fo,show 2*m/2=m by omega,show(2*m-1)/2=m-1 by omega,this]
     congr 1
     simp
   ·cases j with
    |zero=>simp
    |succ j=>rw[Fo,show 2*m/2=m by omega];exact c j O
def tzW(s:UInt64):Nat:=tzF 64 s.toNat
theorem Q1{s:UInt64}(h:s≠0):0<s.toNat:=by
 rcases Aw s.toNat with e|e
 ·exact absurd (UInt64.toNat_inj.1 e) h
 ·exact e
section
variable{s:UInt64}
theorem Xni(h:s≠0):tzW s<64:=(Xag 64 _ (Q1 h) s.toNat_lt).2
theorem Xoq(h:s≠0):(s&&&(0-s)).toNat=2^tzW s:=by
 have c:=Q1 h
 have b:=(Xag 64 _ c s.toNat_lt).1
 rw[UInt64.toNat_and,UInt64.toNat_sub]
 have e:(2^64-s.toNat+(0:UInt64).toNat)%2^64=2^64-s.toNat:=by
  have:(0:UInt64).toNat=0:=rfl
  have:=s.toNat_lt
  omega
 rw[e];exact b
theorem Cv(h:s≠0):has s (tzW s)=true:=(MK 64 _ (Q1 h) s.toNat_lt).2.1
theorem XhJ(h:s≠0)(b:j<tzW s):has s j=false:=(MK 64 _ (Q1 h) s.toNat_lt).2.2 j b
def rst(s:UInt64):UInt64:=s&&&(s-1)
theorem Q7(h:s≠0)(i:Nat):has (rst s) i=(has s i&&decide (i≠tzW s)):=by
 have b:=Q1 h
 have c:=(MK 64 _ b s.toNat_lt).1 i
 unfold has rst
 rw[UInt64.toNat_and,UInt64.toNat_sub]
 have e:(2^64-(1:UInt64).toNat+s.toNat)%2^64=s.toNat-1:=by
  have:(1:UInt64).toNat=1:=rfl
  have:=s.toNat_lt
  omega
 rw[e];exact c
theorem LJ(h:s≠0):∃i,has s i=true:=⟨_,Cv h⟩
theorem GZ(h:∀i,has s i=false):s=0:=Q8 λi _=>by rw[h i,V8]
def els(s:UInt64):List Nat:=(List.range 64).filter (has s)
theorem Jr:els 0=[]:=F3.2 λi _=>by rw[V8];simp
theorem mem_els:i∈els s↔has s i=true:=by
 unfold els
 rw[Az,Ab]
 exact⟨λh=>h.2,λh=>⟨Ca h,h⟩⟩
theorem JJ(h:s≠0):els s=tzW s::els (rst s):=by
 have j:=Xni h
 have e:List.range 64=List.range (tzW s)++(tzW s::List.range' (tzW s+1) (63-tzW s)):=by
  rw[IK,IK,<-Ir,show 63-tzW s+1=64-tzW s by omega]
  have:=@List.range'_append 0 (tzW s) (64-tzW s) 1
  simp only[As,Ht]at this
  rw[show tzW s+(64-tzW s)=64 by omega]at this
  exact this.symm
 have c:(List.range (tzW s)).filter (has s)=[]:=F3.2 λi b=>by
  rw[XhJ h (Ab.1 b)];simp
 have g:(List.range (tzW s)).filter (has (rst s))=[]:=F3.2 λi b=>by
  rw[Q7 h,XhJ h (Ab.1 b)];simp
 have d:(List.range' (tzW s+1) (63-tzW s)).filter (has (rst s))=(List.range' (tzW s+1) (63-tzW s)).filter (has s):=I3 λi b=>by
  obtain⟨q,_,rfl⟩:=List.mem_range'.1 b
  rw[Q7 h,decide_eq_true O,Bool.and_true]
 unfold els
 rw[e,Fz,Fz,c,g,Hi,Hi,Cv h,Q7 h,Cv h,d]
 simp
theorem Cg:(els s).length<=64:=by unfold els;exact AW (Fy _ _) (by simp)
end
end Go.Proofs.YtajfpcgbnflceaaGreatDoor
