/- WALK2. Maps whose keys are structs of bytes. Conditions: none. -/
import Derived.Test.YtajfpcgbnflceaaGreatDoorJn18
set_option linter.unusedSimpArgs false
set_option linter.unusedVariables false
namespace Go.Proofs.YtajfpcgbnflceaaGreatDoor
open Go.Proofs.Tryz
open Go.RowKit
set_option maxRecDepth 100000
set_option maxHeartbeats 4000000
variable{D a b n:Nat}{dom:List UInt8}{et kt t:TypeId}{ks:List By}{m x:Operand}{rs:List Res}{u:By}{w w0:World}
section
variable{P:Program}{l:List Oper}{Q:Exit->Act->World->Prop}{N:Nat}{a:Act}{env:List (Nat×Value)}{rest:List Oper}{d:Tmp}{ty:TypeId}{pos:String}{af:Array Edge}{g:Option (Nat×Bool)}{w0 w:World}{row:Option Nat}{rs:List Res}{Kt:Act->World->Prop}
def CkT(P:Program)(D:Nat)(t:TypeId)(n:Nat)(e:Bool):Prop:=∀(c:Bool)(d:Nat)(w:World)(b:List Value),b.length=n->(Instr.checkKey c (d+D) t (pk e b)).run P w=.ok () w
theorem CkT.up{b:Bool}(h:CkT P D t n b)(m:Nat):CkT P (D+m) t n b:=λc d w e g=>by
 have:=h c (d+m) w e g
 rwa [show d+(D+m)=d+m+D by omega]
theorem Xg6{k:IntKind}(b:P.underlying t=some (.int k)):CkT P 1 t 1 false:=λc d w e _=>by
 unfold Instr.checkKey
 simp[run_underlying b]
theorem Xg7{m:Nat}{e:TypeId}{g:Bool}(z:P.underlying t=some (.array m e))(hs:∀w,(sizeOf e).run P w=.ok n w)(A:∀w,(isAgg e).run P w=.ok g w)(s:g=false->n=1)(h:CkT P D e n g):CkT P (D+1) t (m*n) true:=λp d w c C=>by
 show(Instr.checkKey p (d+D+1) t (.agg c.toArray)).run P w=_
 rw[Instr.checkKey]
 simp only[Sem.run_bind,run_underlying z,Result.andThen_ok]
 simp only[Std.Legacy.Range.forIn_eq_forIn_range',Std.Legacy.Range.size,Iw,Nat.add_one_sub_one,Nat.div_one]
 have b:∀j∈List.range' 0 m,j<m:=λj i=>by simpa using i
 generalize List.range' 0 m=q at b
 induction q with
 |nil=>simp
 |cons j q B=>
  have i:=b j (by simp)
  have o:j*n+n<=c.length:=by
   have:=Ft n (show j+1<=m from i)
   rw[FB]at this
   omega
  have u:=Jz (P:=P) (vs:=c) (off:=j*n) w hs A s o
  have r:=h p d w ((c.drop (j*n)).take n) (by rw[Aj,Fm];omega)
  simp only[List.forIn_cons,Sem.run_bind,hs,Result.andThen_ok,u,r,Sem.run_pure]
  exact B (λy v=>b y (by simp[v]))
def CkF(P:Program)(D n:Nat):List Field->Prop
 | []=>True
 | f :: r => (f.name != "_") = true /\ (∃ m ag, (∀ w, (sizeOf f.type).run P w = .ok m w) /\ (∀ w, (isAgg f.type).run P w = .ok ag w) /\ (ag = false -> m = 1) /\ f.offset + m <= n /\ CkT P D f.type m ag) /\ CkF P D n r
theorem XaJ{fs:Array Field}(hu:P.underlying t=some (.struct fs))(h:CkF P D n fs.toList):CkT P (D+1) t n true:=λem d w vs hl=>by
 show(Instr.checkKey em (d+D+1) t (.agg vs.toArray)).run P w=_
 rw[Instr.checkKey]
 simp only[Sem.run_bind,run_underlying hu,Result.andThen_ok]
 rw[<-Array.forIn_toList]
 generalize fs.toList=L at h
 induction L with
 |nil=>simp
 |cons f L ih=>
  obtain⟨hn,⟨m,ag,hs,ha,h1,hle,hc⟩,hr⟩:=h
  have hn : f.name ≠ "_" := by simpa using hn
  have p1:=Jz (P:=P) (vs:=vs) (off:=f.offset) w hs ha h1 O
  have p2:=hc em d w ((vs.drop f.offset).take m) (by rw[Aj,Fm];omega)
  simp only[List.forIn_cons,Sem.run_bind,hn,ne_eq,not_false_eq_true,if_true,Result.andThen_ok,p1,p2,Sem.run_pure]
  exact ih hr
def Res.mpS(b n:Nat)(ks:List By):Res where
 foot:=(· = b)
 pred:=λw=>∃g d,w.heap[b]?=some (.map g d)/\g.toList.map (λe=>(e.key,e.val))=ks.map λs=>(.agg (bs n s).toArray,.bool true)
 loc:=λ_ _ h hp=>by
  obtain⟨g,c,j,i⟩:=hp
  exact⟨g,c,(h b rfl).trans j,i⟩
structure KeyS (P:Program) (t:TypeId) (n:Nat):Prop where
 wide:∃fs,P.underlying t=some (.struct fs)
 eq:∀(w:World)(u v:By),(Op.equal t (.agg (bs n u).toArray) (.agg (bs n v).toArray)).run P w=.ok (same n u v) w
 ck:∀(em:Bool)(w:World)(u:By),(Instr.checkKey em 10000 t (.agg (bs n u).toArray)).run P w=.ok () w
theorem keyS{b:Nat}{e:Array Field}(i:P.underlying t=some (.struct e))(h:EqT P D t (List.replicate n .u8) true)(d:Nat.ble D 10000=true)(j:CkT P b t n true)(c:Nat.ble b 10000=true):KeyS P t n where
 wide:=⟨e,i⟩
 eq:=λw u v=>by
  have d:=FG d
  have:=h (10000-D) w (bs n u) (bs n v) (by rw[QK];have:=GY ((List.range n).map u);simpa using this) (by rw[QK];have:=GY ((List.range n).map v);simpa using this)
  rw[show 10000-D+D=10000 by omega,QK,QK,M2]at this;rw[QK,QK]
  exact this
 ck:=λg w u=>by
  have d:=FG c
  have:=j g (10000-b) w (bs n u) (bs_length _ _)
  rwa [show 10000-b+b=10000 by omega]at this
theorem Xb8{t:TypeId}{n:Nat}(p:KeyS P t n)(u:By):∀(g:List MapEntry)(ks:List By)(i:Nat),g.map (λe=>(e.key,e.val))=ks.map (λs=>(.agg (bs n s).toArray,.bool true)) ->
 ∃r,(Instr.findAsking t (.agg (bs n u).toArray) g i).run P w=.ok r w/\(ks.any (λy=>same n u y)=true->∃j,r=some (j,.bool true))/\(ks.any (λy=>same n u y)=false->r=none)
 | [],[],i,_=>⟨none,by simp[Instr.findAsking],λh=>by simp at h,λ_=>rfl⟩
 |e::g,y::ks,i,h=>by
  simp only[FH,List.cons.injEq,Prod.mk.injEq]at h
  obtain⟨⟨A,q⟩,z⟩:=h
  have d:=p.eq w u y
  rw[<-A]at d
  cases c:same n u y with
  |true=>
   rw[c]at d
   refine⟨some (i,.bool true),by simp[Instr.findAsking,d,q],λ_=>⟨i,Z⟩,λb=>by simp[c]at b⟩
  |false=>
   rw[c]at d
   obtain⟨r,v,o,m⟩:=Xb8 p u g ks (i+1) z
   refine⟨r,by simp[Instr.findAsking,d,v],λb=>o (by simpa[c]using b),λb=>m (by simpa[c]using b)⟩
 | [],_::_,_,h=>by simp at h
 |_::_,[],_,h=>by simp at h
theorem Xb6(i:KeyS P t n)(u:By){b:List MapEntry}(h:b.map (λe=>(e.key,e.val))=ks.map (λs=>(.agg (bs n s).toArray,.bool true)))(w:World):
 ∃r,(Instr.findKey t (.agg (bs n u).toArray) b).run P w=.ok r w/\(ks.any (λy=>same n u y)=true->∃j,r=some (j,.bool true))/\(ks.any (λy=>same n u y)=false->r=none):=by
 obtain⟨p,g⟩:=i.wide
 obtain⟨r,o,d,c⟩:=Xb8 (w:=w) i u b ks 0 h
 cases b with
 |nil=>
  refine⟨none,by simp[Instr.findKey,run_underlying g,Instr.findNow],λm=>?_,λ_=>rfl⟩
  cases ks with
  |nil=>simp at m
  |cons _ _=>simp at h
 |cons e b=>
  refine⟨r,?_,d,c⟩
  unfold Instr.findKey
  simp only[Sem.run_bind,run_underlying g,Result.andThen_ok,Instr.findNow,Instr.sameNow]
  exact o
theorem sMkS(n:Nat)(H:Own w0 row w rs)(F:Has N a env)(e:V2 l env g=true)(j:Nat.blt d N=true)(K:∀b a w,Has N a ((d,.map (some b))::env)->Own w0 row w (.mpS b n []::rs)->wpList P l.toArray Q rest a w):wpList P l.toArray Q (⟨some d,.makeMap t none,ty,pos,af,g⟩::rest) a w:=
 UV F e Z j (v:=.map (some w.heap.size)) (w':=w.alloc (.map #[] 0)) (by simp[execOp,run_makeMap]) (λm c=>K _ _ _ c (H.add (.mpS w.heap.size n []) ((Below.refl _ _).alloc (AI _) _)
  ⟨#[],0,heap_alloc_new w _,Z⟩ (λb i=>by cases i;exact⟨AI _,by simp⟩)))
theorem XjB(H:Own w0 row w rs)(i:Nat)(E:P.underlying t=some (.map kt et))(B:KeyS P kt n)(v:rs[i]?=some (.mpS b n ks))(G:ks.any (λy=>same n u y)=false):
 ∃z,(Instr.mapUpdate t (.map (some b)) (.agg (bs n u).toArray) (.bool true)).run P w=.ok () z/\Own w0 row z (rs.set i (.mpS b n (ks++[u]))):=by
 obtain⟨q,d,o,A⟩:=H.pred i _ v
 obtain⟨r,D,_,g⟩:=Xb6 (P:=P) B u A w
 have g:=g G
 subst g
 have j:b<w.heap.size:=by
  rcases AN b w.heap.size with h|h
  ·exact h
  ·rw[HA h]at o;cases o
 refine⟨{w with heap:=w.heap.setIfInBounds b (.map (q.push {key:=.agg (bs n u).toArray,val:=.bool true,born:=d}) (d+1))},?_,?_⟩
 ·simp only[Instr.mapUpdate,Sem.run_bind,run_underlying E,Result.andThen_ok]
  have s:(getObj b).run P w=.ok (.map q d) w:=MapKept.run_getObj_map o
  simp only[s,Result.andThen_ok,Sem.run_bind,B.ck,D]
  simp only[MapKept.run_setObj_map _ o]
 ·refine H.turn i v _ ?_ (by simp) (λc m e=>by simp[Ne.symm e]) ⟨q.push {key:=.agg (bs n u).toArray,val:=.bool true,born:=d},d+1,by simp[j],by simp[A]⟩ (λc m=>⟨.inl m,by cases m;simpa using j⟩)
  refine⟨H.grown.os,H.grown.tape,H.grown.output,by simpa using H.grown.size,λc m e=>?_⟩
  have p:c≠b:=by
   rintro rfl
   rcases(H.foot i _ v c rfl).1 with h|h
   ·omega
   ·exact e h
  have:=H.grown.block c m e
  simpa[Array.getElem?_setIfInBounds,Ne.symm p]using this
theorem sInsS{y:Operand}(H:Own w0 row w rs)(i:Nat)(p:P.underlying t=some (.map kt et))(d:KeyS P kt n)(F:Has N a env)(q:V2 l env g=true)(hm:ev env m=some (.map (some b)))(s:ev env x=some (.agg (bs n u).toArray))(e:ev env y=some (.bool true))(r:rs[i]?=some (.mpS b n ks))(v:ks.any (λy=>same n u y)=false)(K:∀w,Own w0 row w (rs.set i (.mpS b n (ks++[u])))->wpList P l.toArray Q rest a w):wpList P l.toArray Q (⟨none,.insert t m x y,ty,pos,af,g⟩::rest) a w:=by
 obtain⟨c,o,j⟩:=XjB (P:=P) H i p d r v
 exact Xdb F q Z (w':=c) (by simp only[execOp,F.eval hm,F.eval s,F.eval e,Sem.run_bind,o,Result.andThen_ok,Sem.run_pure]) (K _ j)
theorem sUpdS{y:Operand}(H:Own w0 row w rs)(i:Nat)(p:P.underlying t=some (.map kt et))(d:KeyS P kt n)(F:Has N a env)(q:V2 l env g=true)(hm:ev env m=some (.map (some b)))(s:ev env x=some (.agg (bs n u).toArray))(e:ev env y=some (.bool true))(r:rs[i]?=some (.mpS b n ks))(v:ks.any (λy=>same n u y)=false)(K:∀w,Own w0 row w (rs.set i (.mpS b n (ks++[u])))->wpList P l.toArray Q rest a w):wpList P l.toArray Q (⟨none,.mapUpdate t m x y,ty,pos,af,g⟩::rest) a w:=by
 obtain⟨c,o,j⟩:=XjB (P:=P) H i p d r v
 exact Xdb F q Z (w':=c) (by simp only[execOp,F.eval hm,F.eval s,F.eval e,Sem.run_bind,o,Result.andThen_ok,Sem.run_pure]) (K _ j)
theorem sLkS(H:Own w0 row w rs)(i:Nat)(v:P.underlying t=some (.map kt et))(q:KeyS P kt n)(J:∀w,(zeroValue et).run P w=.ok (.bool false) w)(F:Has N a env)(D:V2 l env g=true)(I:Nat.blt d N=true)(hm:ev env m=some (.map (some b)))(A:ev env x=some (.agg (bs n u).toArray))(E:rs[i]?=some (.mpS b n ks))(K:∀a,Has N a ((d,.bool (ks.any λy=>same n u y))::env)->wpList P l.toArray Q rest a w):wpList P l.toArray Q (⟨some d,.lookup t m x false,ty,pos,af,g⟩::rest) a w:=
 UV F D Z I (by
  obtain⟨C,c,G,B⟩:=H.pred i _ E
  obtain⟨r,s,p,o⟩:=Xb6 (P:=P) q u B w
  have e:(getObj b).run P w=.ok (.map C c) w:=MapKept.run_getObj_map G
  cases z:ks.any (λy=>same n u y)with
  |true=>
   obtain⟨j,rfl⟩:=p z
   simp only[execOp,F.eval hm,F.eval A,Instr.lookup,Sem.run_bind,run_underlying v,Result.andThen_ok,e,Sem.run_pure,q.ck,s]
   rfl
  |false=>
   have:=o z
   subst this
   simp only[execOp,F.eval hm,F.eval A,Instr.lookup,Sem.run_bind,run_underlying v,Result.andThen_ok,e,Sem.run_pure,q.ck,s,J]
   rfl) K
theorem La{j:Func}{R:Ending->World->Prop}{t u:Tmp}{e:TypeId}{g:List Value}{v:TypeId}{m:TypeDesc}{y:Value}(c:j.results=#[.cell t e,.tmp u])(F:Has N a env)(s:lk env t=some (.pointer (some ⟨b,0,.none⟩)))(o:lk env u=some y)(p:P.underlying e=some m)(d:m.isRow=true)(H:Own w0 row w rs)(i:Nat)(q:rs[i]?=some (.blk b g v))(z:∀w,(sizeOf e).run P w=.ok n w)(r:Nat.beq g.length n=true)(h:R (.returned (.tuple #[.agg g.toArray,y])) w):bodyPost P j R .ret a w:=
 bodyPost_ret (QW c F s o p d (by rw[FP r];exact VT z) (H.blk i q)) F.nod h
end
theorem kT59:CkT prog 2 59 8 true:=Xg7 (D:=1) (n:=1) (m:=8) XI Xr XD (λ_=>rfl) (Xg6 (P:=prog) Xq)
theorem kT77:CkT prog 3 77 9 true:=XaJ (D:=2) Xn ⟨Y,⟨1,false,Xr,XD,λ_=>rfl,by decide,((Xg6 (P:=prog) Xq)).up 1⟩,Y,⟨8,true,XF,isAgg59,λh=>(by cases h),by decide,(kT59).up 0⟩,trivial⟩
theorem kT78:CkT prog 4 78 36 true:=Xg7 (D:=3) (n:=9) (m:=4) Xs Xo isAgg77 (λh=>(by cases h)) kT77
theorem kT61:CkT prog 2 61 6 true:=Xg7 (D:=1) (n:=1) (m:=6) XC Xr XD (λ_=>rfl) (Xg6 (P:=prog) Xq)
theorem kT80:CkT prog 2 80 2 true:=XaJ (D:=1) Xx ⟨Y,⟨1,false,Xr,XD,λ_=>rfl,by decide,((Xg6 (P:=prog) Xq)).up 0⟩,Y,⟨1,false,Xr,XD,λ_=>rfl,by decide,((Xg6 (P:=prog) Xq)).up 0⟩,trivial⟩
theorem kT81:CkT prog 3 81 24 true:=Xg7 (D:=2) (n:=2) (m:=12) Xw Xv isAgg80 (λh=>(by cases h)) kT80
theorem kT82:CkT prog 4 82 96 true:=Xg7 (D:=3) (n:=24) (m:=4) underlying82 sizeOf81 isAgg81 (λh=>(by cases h)) kT81
theorem kT83:CkT prog 2 83 4 true:=Xg7 (D:=1) (n:=1) (m:=4) underlying83 Xr XD (λ_=>rfl) (Xg6 (P:=prog) Xq)
theorem kT85:CkT prog 5 85 142 true:=XaJ (D:=4) Xm ⟨Y,⟨36,true,sizeOf78,isAgg78,λh=>(by cases h),by decide,(kT78).up 0⟩,Y,⟨6,true,XB,isAgg61,λh=>(by cases h),by decide,(kT61).up 2⟩,Y,⟨96,true,sizeOf82,isAgg82,λh=>(by cases h),by decide,(kT82).up 0⟩,Y,⟨4,true,sizeOf83,isAgg83,λh=>(by cases h),by decide,(kT83).up 2⟩,trivial⟩
theorem kyS:KeyS prog 85 142:=keyS Xm eT85 Z kT85 Z
def lkC(q:Int×Pss):List Value:=[.int .i64 q.1,b8 q.2.t,.bool q.2.d,b8 q.2.l]
def enC(k:Nat):List Value:=[.int .i64 (k:Int)]
theorem Own.blkRws{row:Option Nat}(H:Own w0 row w rs)(i:Nat){sz:Nat}{d:List Value}{e:TypeId}(rows:List (List Value))(j:rs[i]?=some (.blk b d e))(m:rows.flatten=d)(q:rows.length=n)(g:d.length=n*sz)(hm:n<=maxLen):
 Own w0 row w (rs.set i (.rws e sz (.slice (some ⟨b,0,.none⟩) n n) rows)):=by
 have o:=H.blk i j
 refine H.turn i j _ H.grown (AI _) (λ_ _ _=>rfl) ?_ (λc p=>?_)
 ·show w.ownsRow 0 e sz _ rows.length rows.flatten
  rw[m,q]
  refine⟨g,.inr ⟨b,n,d.toArray,Z,AU _,o,AI _,hm,by simpa using g,?_⟩⟩
  rw[<-g];simp
 ·have:b=c:=by simpa[Res.rws,Res.arr,Value.ownBlock]using p
  subst this
  exact⟨.inl Z,(H.foot i _ j b Z).2⟩
def XrT(b d c:Option Addr)(c1 c2 e:Nat)(a:Fnd):List Res:=[.rws 85 142 (.slice b a.list.length c1) (a.list.map (bs 142)),.rws 183 4 (.slice d a.links.length c2) (a.links.map lkC),.rws 3 1 (.slice c a.ends.length e) (a.ends.map enC)]
def fo(o:Option Fnd):Fnd:=o.getD ⟨[],[],[]⟩
def XfT(o:Option Fnd)(v:Value)(w0:World)(e:Ending)(m:World):Prop:=∃c j g b d i,e=.returned (.tuple #[.agg #[.slice c (fo o).list.length j,.slice g (fo o).links.length b,.slice d (fo o).ends.length i],v])/\Own w0 none m (XrT c g d j b i (fo o))
theorem Xas{v:Value}(H:Own w0 none w rs):XfT none v w0 (.returned (.tuple #[.agg #[.slice none 0 0,.slice none 0 0,.slice none 0 0],v])) w:=
 ⟨none,0,none,0,none,0,Z,(((H.none.nilRws 3 1).nilRws 183 4).nilRws 85 142)⟩
theorem LR(l:List By):∀r∈l.map (bs 142),r.length=142:=λr b=>by
 obtain⟨s,_,rfl⟩:=AT.1 b
 exact bs_length _ _
theorem XdW(p:Prg)(b:UInt8)(g:Nat)(fm fs:Value)(w0:World)(hp:VX p=0)(hk:Gb b=true)(h1:1<=g)(h2:g<=65536)(a5:∀(w:World),w0.grownBy w none->∀s,Fine p b s->JL prog fm [.agg (bs 142 s).toArray] w (λe W=>∃A c,e=.returned (.slice A (V0 p b s).length c)/\Own w none W [.rws 117 3 (.slice A (V0 p b s).length c) ((V0 p b s).map Pss.cells)]))(a3:∀(w:World),w0.grownBy w none->∀s x,Fine p b s->x∈V0 p b s->JL prog fs [.agg (bs 142 s).toArray,.agg x.cells.toArray] w (λe W=>e=.returned (.agg (bs 142 (Uw p b s x)).toArray)/\Below w.heap.size w W)):
 Calls prog 45 #[.agg (bs 142 (Ur p)).toArray,Ve (g:Int),fm,fs] w0 λe W=>XfT (QX p b g) (.bool (QX p b g).isSome) w0 e W:=by
 refine Vb func45 ntmps45 λH a F=>?_
 refine gg 2 λa F=>?_
 refine Eo H F λb4 a w F H=>?_
 refine zAl zeroValue72 H F λb8 a w F H=>?_
 refine gg 5 λa F=>?_
 refine XeM H Yb Xp zeroValue85 Z F Z Z Z Z Z λa4 a w F H=>?_;refine sBd (cs:=[Ve (-1),YtajfpcgbnflceaaGreatDoor.b8 0,.bool false,YtajfpcgbnflceaaGreatDoor.b8 0]) (places:=[(0,1),(1,3)]) Yl underlying183 Y F Z Z Z Z λa F=>?_;refine XeM H underlying69 sizeOf183 Yl Z F Z Z Z Z Z λa8 a w F H=>?_;refine sBd (cs:=[Vd a4 0 1 1,Vd a8 0 1 1,.slice none 0 0]) (places:=[(0,1),(1,1),(2,1)]) zeroValue72 Ym Y F Z Z Z Z λa F=>?_
 refine zAl zeroValue72 H F λK a w F H=>?_
 refine sSr H 0 ?si F Z Z Z ?s1 Z Z ?_
 case si=>exact VT sizeOf72
 case s1=>rfl
 clear H;intro w H
 refine gg 3 λa F=>?_
 refine sMkS 142 H F Z Z λJ a w F H=>?_
 refine gg 1 λa F=>?_
 refine sInsS H 0 underlying184 kyS F Z Z Z Z Z (rfl) λw H=>?_
 refine gg 9 λa F=>?_
 replace H:=(((H.blkRws 3 (n:=1) (sz:=142) [bs 142 (Ur p)] Z Z Z Z (by decide)).blkRws 2 (n:=1) (sz:=4) [lkC (-1,⟨0,false,0⟩)] Z Z Z Z (by decide)).nilRws 3 1)
 refine cLoopS [1,2,3,8,10,11] (λm u w=>∃(k:Nat)(o:Fnd)(Q:Option Addr)(G:Nat)(I:Option Addr)(D:Nat)(A3:Option Addr)(c3:Nat),m=g+1-k/\u=[(12,Ve ((k:Nat):Int))]/\FndI p b g k o/\QX p b g=Gj p b g (g+1-k) k o/\Own w0 none w [.mpS J 142 o.list,.blk K [.slice Q o.list.length G,.slice I o.links.length D,.slice A3 o.ends.length c3] 72,.rws 85 142 (.slice Q o.list.length G) (o.list.map (bs 142)),.rws 183 4 (.slice I o.links.length D) (o.links.map lkC),.rws 3 1 (.slice A3 o.ends.length c3) (o.ends.map enC),.blk b8 [.slice none 0 0,.slice none 0 0,.slice none 0 0] 72,.blk b4 (bs 142 (Ur p)) 85]) F (g+1) [(12,Ve ((0:Nat):Int))] ?_ ?_
 ·exact⟨0,DI p,_,_,_,_,none,0,Z,Z,Xb4 hp hk h1,Z,H.sel [0+1,1+1,3+1,2+1,0,4+1,5+1] Z Z⟩
 clear F H;intro m u a w M F
 obtain⟨k,o,Q,G,I,D,A3,c3,rfl,rfl,B,v,H⟩:=M
 have aA:=B.many
 have aM:=B.kle
 refine gg 10 λa F=>zi (λaH=>?_) λaH=>?_
 ·
  have X:k<o.list.length:=O
  obtain⟨s,N⟩:∃s,o.list[k]?=some s:=⟨_,AA X⟩
  have hF:=B.fine s (AF N)
  obtain⟨bS,oS,rfl,_⟩:=H.rowsAt 2 Z (LR _) (by decide) k (bs 142 s) (by rw[AD,N];rfl)
  refine gg 9 λa F=>?_
  refine sIx Yb Xp F Z Z Z Z ?_ ?_
  focus exact X
  intro a F
  refine Qo Xm Z Xp F Z Z Z (by obtain⟨b',o',g1,g2⟩:=H.rowsAt 2 Z (LR _) (by decide) k (bs 142 s) (by rw[AD,N];rfl);cases g1;exact g2) λa F=>?_
  refine NL F Z Z Z Z ((a5 _ H.grown s hF)) ?_;rintro e w ⟨AM,cM,rfl,H2⟩;replace H:=H.join H2;clear H2
  refine zq λa F=>?_
  refine gg 2 λa F=>?_
  refine cSeqS [1,2,3,8,10,11,12,13] (λu w=>∃(S:Option Addr)(R:Nat)(E:List Nat),u=[]/\E=(if V0 p b s=[]then o.ends++[k]else o.ends)/\Own w0 none w [.rws 117 3 (.slice AM (V0 p b s).length cM) ((V0 p b s).map Pss.cells),.mpS J 142 o.list,.blk K [Vd bS oS o.list.length G,.slice I o.links.length D,.slice S E.length R] 72,.rws 85 142 (Vd bS oS o.list.length G) (o.list.map (bs 142)),.rws 183 4 (.slice I o.links.length D) (o.links.map lkC),.rws 3 1 (.slice S E.length R) (E.map enC),.blk b8 [.slice none 0 0,.slice none 0 0,.slice none 0 0] 72,.blk b4 (bs 142 (Ur p)) 85]) F ?_ ?_
  ·
   refine gg 7 λa F=>zi (λP=>?_) λP=>?_
   ·
    have he:V0 p b s=[]:=Al O
    refine gg 4 λa F=>?_
    refine XeN H Xz XM X4 Z F Z Z Z Z λaO a w F H=>?_
    refine G7 (bytes:=8) H 6 Xz Yd Z Z Z Z Z Z F Z Z Z Z Z (H.whole 0 Z) Z ?s1 ?s2 ?_
    case s1=>rfl
    case s2=>(rw[AH];have:=B.ends▸Fy (λi=>match o.list[i]? with|some s=>(V0 p b s).isEmpty|none=>false) (List.range k);rw[Aq]at this;omega)
    intro a7 aD a w F H
    refine gg 1 λa F=>?_
    refine zSt H 3 F λw H=>?_
    refine gg 1 λa F=>?_
    (have U:o.ends.map enC++[[Ve (k:Int)]]=(o.ends++[k]).map enC:=by rw[Ae];rfl
     have e3:(o.ends.map enC++[[Ve (k:Int)]]).length=(o.ends++[k]).length:=by rw[U,AH]
     refine⟨_,⟨a7,aD,o.ends++[k],Z,(if_pos he).symm,?_⟩,F.tt⟩
     have H3:=H.sel [1,2,3,4,5,6,7,8] Z Z
     rw[<-U,<-e3]
     exact H3)
   have he:V0 p b s≠[]:=λh0=>by rw[h0]at P;exact P Z
   refine gg 1 λa F=>?_
   exact⟨_,⟨A3,c3,o.ends,Z,(if_neg he).symm,H.sel [0,1,2,3,4,5,6,7] Z Z⟩,F.tt⟩
  clear F H
  intro u a w M F
  obtain⟨S,R,E,rfl,aG,H⟩:=M
  refine gg 7 λa F=>?_
  refine cLoopS [1,2,3,8,10,11,12,48,49] (λm u w=>∃(i:Nat)(l:List By) (q:List (Int×Pss)) (Q:Option Addr) (G:Nat) (I:Option Addr) (D:Nat),m=(V0 p b s).length-i/\u=[(50,Ve ((i:Nat):Int))]/\i<=(V0 p b s).length/\VisI p b g k s o.list ((V0 p b s).take i) l q/\UT p b g k s (V0 p b s) o.list o.links=UT p b g k s ((V0 p b s).drop i) l q/\Own w0 none w [.rws 117 3 (.slice AM (V0 p b s).length cM) ((V0 p b s).map Pss.cells),.mpS J 142 l,.blk K [.slice Q l.length G,.slice I q.length D,.slice S E.length R] 72,.rws 85 142 (.slice Q l.length G) (l.map (bs 142)),.rws 183 4 (.slice I q.length D) (q.map lkC),.rws 3 1 (.slice S E.length R) (E.map enC),.blk b8 [.slice none 0 0,.slice none 0 0,.slice none 0 0] 72,.blk b4 (bs 142 (Ur p)) 85]) F ((V0 p b s).length) [(50,Ve ((0:Nat):Int))] ?_ ?_
  ·exact⟨0,o.list,o.links,_,_,_,_,Z,Z,O,Xa6 B N,Z,H.sel [0,1,2,3,4,5,6,7] Z Z⟩
  clear F H;intro m u a w M F
  obtain⟨i,l,q,A5,c5,A6,c6,rfl,rfl,hi,L,r,H⟩:=M
  have aI:=(H.rwsLen 0 Z).2
  simp only[maxLen]at aI
  have aT:=L.many
  have aQ:=L.len
  refine gg 6 λa F=>zi (λa9=>?_) λa9=>?_
  ·
   have aJ:i<(V0 p b s).length:=O
   obtain⟨x,V⟩:∃x,(V0 p b s)[i]?=some x:=⟨_,AA aJ⟩
   have C:x∈V0 p b s:=AF V
   have aK:(V0 p b s).drop i=x::(V0 p b s).drop (i+1):=by
    obtain⟨hj,rfl⟩:=AB.1 V
    exact FA hj
   have a2:(V0 p b s).take (i+1)=(V0 p b s).take i++[x]:=by rw[At,V];rfl
   rw[aK]at r
   obtain⟨bM,oM,rfl,_⟩:=H.rowsAt 0 Z (XqW _) (by decide) _ _ (by rw[AD,V];rfl)
   obtain⟨aR,aP,rfl,_⟩:=H.rowsAt 3 Z (LR _) (by decide) k (bs 142 s) (by rw[AD,L.here];rfl)
   have a1:k<l.length:=(AB.1 L.here).1
   refine gg 6 λa F=>?_
   refine sLr Yg Z ?si F Z Z Z (by obtain⟨b',o',g1,g2⟩:=H.rowsAt 0 Z (XqW _) (by decide) _ _ (by rw[AD,V];rfl);cases g1;exact g2) ?_
   case si=>exact VT X7
   intro a F
   refine zAl X3 H F λaU a w F H=>?_
   refine sSr H 0 ?si F Z Z Z ?s1 Z Z ?_
   case si=>exact VT X7
   case s1=>rfl
   clear H;intro w H
   refine gg 2 λa F=>?_
   refine zRO H λH=>?_
   refine gg 4 λa F=>?_
   refine Xf (k:=4) (i:=4) Z F Z (λw=>rIx Yb Xp F Z Z ?_) H (λ_ _ _ h=>h) ?_
   focus exact a1
   intro a F
   refine Xa (k:=5) (i:=5) Z F Z Z (λw H=>L3 Xm Z Xp F Z (by obtain⟨b',o',g1,g2⟩:=H.rowsAt 4 Z (LR _) (by decide) k (bs 142 s) (by rw[AD,L.here];rfl);cases g1;exact g2)) H (λ_ _ _ h=>h) λa F=>?_
   refine gg 1 λa F=>?_
   refine DU F H [1,2,3,8,10,11,12,15,48,49,50] 9 [true,true,true,true,true,true,true,true,true,false] (λrs u w=>∃y,u=[(61,.agg (bs 142 (Uw p b s x)).toArray),(16,Vc y 0)]/\Own w0 none w ((.blk y (bs 142 zb) 85)::rs)) (by repeat(first|exact SubR.nil|(apply SubR.cons;· rfl))) ?_ (λhJ=>?_)
   rotate_left
   ·
    refine XcR (k:=7) (i:=7) (j:=8) Y F Z Z Z Z ?_ ?_
    ·
     refine BZ F Z Z Z ((a3 _ H.grown s x hF C)) ?_;rintro e w ⟨rfl,T⟩;replace H:=H.grow T;clear T
     refine zq λa F=>?_
     refine V6 H ?_;refine Xd (k:=8) (i:=8) Z F (XiZ H Lf F Z λy a w F H=>?_);refine V6 H.tail ?_
     exact eGo hJ Y _ ⟨y,Z,H⟩ F.tt
    refine XiZ H Lf F Z λy a w F H=>?_;refine V6 H.tail ?_;refine Xd (k:=8) (i:=7) Z F (BZ F Z Z Z ((a3 _ H.grown s x hF C)) ?_);rintro e w ⟨rfl,T⟩;replace H:=H.grow T;clear T
    refine zq λa F=>?_
    refine V6 H.tail ?_
    exact eGo hJ Y _ ⟨y,Z,H⟩ F.tt
   clear F H;intro u a w M F
   obtain⟨y,rfl,H⟩:=M
   refine Xd (k:=9) (i:=9) Z F (Xgq H 0 Xp F Z Z Z O λw H=>?_);rw[V3]at H
   refine gg 7 λa F=>?_
   refine sLkS H 3 underlying184 kyS (λw=>rfl) F Z Z Z Z Z λa F=>?_
   refine gg 1 λa F=>?_
   refine cIf F Z (λz=>?_) (λz=>?_)
   ·
    refine gg 5 λa F=>?_
    exact⟨_,O,_,⟨i+1,l,q,_,_,_,_,Z,Z,O,a2▸Xqx L C z,r.trans (XhB z),H.sel [2,3,4,5,6,7,8,9] Z Z⟩,F.tt⟩
   refine gg 11 λa F=>zi (λaL=>?_) λaL=>?_
   ·
    have aC:QX p b g=none:=by
     rw[v,show g+1-k=(g-k)+1 by omega]
     exact Xie N (r.trans (XcX z O))
    refine gg 2 λa F=>?_
    refine sBd (cs:=[.slice none 0 0,.slice none 0 0,.slice none 0 0]) (places:=[(0,1),(1,1),(2,1)]) zeroValue72 Ym Y F Z Z Z Z λa F=>?_
    refine sSr H 8 ?si F Z Z Z ?s1 Z Z ?_
    case si=>exact VT sizeOf72
    case s1=>rfl
    clear H;intro w H
    refine gg 3 λa F=>?_
    refine La results45 F Z Z Ym Z H 8 Z sizeOf72 Z ?_
    (rw[aC]
     exact Xas H)
   refine gg 5 λa F=>?_
   refine sUpdS H 3 underlying184 kyS F Z Z Z Z Z (z) λw H=>?_
   refine gg 6 λa F=>?_
   refine XeM H Yb Xp zeroValue85 Z F Z Z Z Z Z λaS a w F H=>?_
   refine G7 (bytes:=142) H 6 Yb typeInfo85 Z Z Z Z Z Z F Z Z Z Z Z (H.whole 0 Z) Z ?s1 ?s2 ?_
   case s1=>rfl
   case s2=>(rw[AH];omega)
   intro aF a6 a w F H
   refine gg 1 λa F=>?_
   refine zSt H 5 F λw H=>?_
   refine gg 6 λa F=>?_
   refine sBd (cs:=[Ve (k:Int),YtajfpcgbnflceaaGreatDoor.b8 x.t,.bool x.d,YtajfpcgbnflceaaGreatDoor.b8 x.l]) (places:=[(0,1),(1,3)]) Yl underlying183 Y F Z Z Z Z λa F=>?_;refine XeM H underlying69 sizeOf183 Yl Z F Z Z Z Z Z λaN a w F H=>?_
   refine G7 (bytes:=16) H 8 underlying69 typeInfo183 Z Z Z Z Z Z F Z Z Z Z Z (H.whole 0 Z) Z ?s1 ?s2 ?_
   case s1=>rfl
   case s2=>(rw[AH];omega)
   intro aB aE a w F H
   refine gg 1 λa F=>?_
   refine zSt H 6 F λw H=>?_
   refine gg 5 λa F=>?_
   (have U:l.map (bs 142)++[bs 142 (Uw p b s x)]=(l++[Uw p b s x]).map (bs 142):=by rw[Ae];rfl
    have e3:(l.map (bs 142)++[bs 142 (Uw p b s x)]).length=(l++[Uw p b s x]).length:=by rw[U,AH]
    have e4:q.map lkC++[[Ve (k:Int),YtajfpcgbnflceaaGreatDoor.b8 x.t,.bool x.d,YtajfpcgbnflceaaGreatDoor.b8 x.l]]=(q++[((k:Int),x)]).map lkC:=by rw[Ae];rfl
    have e5:(q.map lkC++[[Ve (k:Int),YtajfpcgbnflceaaGreatDoor.b8 x.t,.bool x.d,YtajfpcgbnflceaaGreatDoor.b8 x.l]]).length=(q++[((k:Int),x)]).length:=by rw[e4,AH]
    refine⟨_,O,_,⟨i+1,l++[Uw p b s x],q++[((k:Int),x)],aF,a6,aB,aE,Z,Z,O,a2▸Xoo L C z O,r.trans (XfY z O),?_⟩,F.tt⟩
    have H3:=H.sel [4,5,6,7,8,9,10,11] Z Z
    rw[<-U,<-e3,<-e4,<-e5]
    exact H3)
  obtain rfl:i=(V0 p b s).length:=O
  rw[List.drop_length]at r
  have r:UT p b g k s (V0 p b s) o.list o.links=some (l,q):=r
  refine gg 6 λa F=>?_
  subst aG
  exact⟨_,O,_,⟨k+1,⟨l,q,_⟩,A5,c5,A6,c6,S,R,Z,Z,E6 B N r,v.trans (by rw[show g+1-k=(g+1-(k+1))+1 by omega];exact Xif N r),H.sel [1,2,3,4,5,6,7] Z Z⟩,F.tt⟩
 refine gg 4 λa F=>?_
 refine sSr H 5 ?si F Z Z Z ?s1 Z Z ?_
 case si=>exact VT sizeOf72
 case s1=>rfl
 clear H;intro w H
 refine gg 3 λa F=>?_
 refine La results45 F Z Z Ym Z H 5 Z sizeOf72 Z ?_
 (rw[v,Xf9 O]
  exact⟨_,_,_,_,_,_,Z,H.sel [2,3,4] Z Z⟩)
def CohB(v:XcV):Prop:=∃ρ:Nat->Nat,∀i j,(v.po.has i j&&Xbm v.evs i j)=true\/v.rf.has i j=true\/v.co.has i j=true\/frB v i j->ρ i<ρ j
def Xso(v:XcV):Prop:=∀i j k,v.rm.has i j=true->frB v i k->v.co.has k j=true->False
def XbV(M:UInt8)(v:XcV)(i j:Nat):Prop:=v.po.has i j=true/\XkR v.evs i=true/\XkR v.evs j=true/\(M=2\/Ek v.evs i 1=true\/Ek v.evs j 2=true\/fenB v 3 i j\/Xac v.evs i 3=true\/Xac v.evs j 3=true)
def rfM(M:UInt8)(v:XcV)(i j:Nat):Bool:=if M=2 then v.rf.has i j else Xmu v v.rf i j
def OrdB(M:UInt8)(v:XcV):Prop:=∃ρ:Nat->Nat,∀i j,XbV M v i j\/rfM M v i j=true\/v.co.has i j=true\/frB v i j->ρ i<ρ j
def GU(M:UInt8)(v:XcV):Prop:=CohB v/\Xso v/\OrdB M v
theorem Xmb{M:UInt8}{v:XcV}{p:Rl}(h:XkS M v p)(i j:Nat):p.has i j=true↔XbV M v i j:=by
 obtain⟨q,c,b⟩:=h
 rw[b]
 unfold XbW XbV CQ Xqz Xqe
 simp only[AJ,FM,beq_iff_eq,c]
 constructor
 ·rintro⟨⟨⟨e,d⟩,g⟩,h4|((h4|h4)|((h4|h4)|h4))⟩<;>simp_all
 ·rintro⟨e,d,g,h4|h4|h4|h4|h4|h4⟩<;>simp_all
theorem XcJ{r:Rl}{R:Nat->Nat->Prop}(h:∀i j,r.has i j=true↔R i j):Acy r↔∃ρ:Nat->Nat,∀i j,R i j->ρ i<ρ j:=by
 unfold Acy
 exact exists_congr λρ=>forall_congr' λi=>forall_congr' λj=>by rw[h]
theorem Xiv:∀b:List Rl,(b.map Rl.cells).flatten.length=(b.map Rl.cells).length*49
 | []=>rfl
 |q::b=>by rw[FH,FO,AK,Xiv b,Rl.len,AY];omega
theorem XiQ{row:Option Nat}{c i:Nat}{qs:List Rl}(H:Own w0 row w rs)(b:rs[i]?=some (.blk c (qs.map Rl.cells).flatten t))(e:qs.length<=10):RowsAt w (some ⟨c,0,none⟩) 49 (qs.map Rl.cells):=
 (H.blkRws i (qs.map Rl.cells) b Z Z (Xiv qs) (by rw[AH];simp only[maxLen];omega)).rowsAt i (by rw[List.getElem?_set_self (AB.1 b).1]) (λr d=>by obtain⟨q,_,rfl⟩:=AT.1 d;exact Rl.len q) O
theorem XdH(b o:Nat)(M:UInt8)(x:XcP)(w0:World)(hM:M=2\/M=3)(t:ExAt w0 b o x)(r:RelsOk x.v)(U:Tab6At w0):
 Calls prog 39 #[b8 M,Vc b o] w0 λe w'=>∃c:UInt8,e=.returned (b8 c)/\(c=0↔GU M x.v)/\Below w0.heap.size w0 w':=by
 have H:=Own.start w0 none
 have aK:=t.c0
 have a6:=r.l48
 refine VU func39 Z ntmps39 Z (λa F=>?_)
 refine gg 2 λa F=>?_
 refine zBx H F λy a w F H=>?_
 refine gg 2 λa F=>?_
 replace H:Own w0 none w [.blk y [Vc b o] 108]:=H
 refine gg 3 λa F=>?_
 refine Xi call72 F Z (XrS b o x _ (t.own H) r (U.own H)) ?_;rintro e w ⟨g,p,rfl,d⟩;replace H:=H.grow d;clear d
 refine zq λa F=>?_
 refine zAl XE H F λN a w F H=>?_
 refine sSr H 0 ?si F Z Z Z ?s1 Z Z ?_
 case si=>rw[Rl.len];exact VT Xt
 case s1=>exact Gr _
 clear H;intro w H
 refine gg 1 λa F=>?_
 replace H:Own w0 none w [.blk N (VZ (zR 0).cells 0 g.cells) 58,.blk y [Vc b o] 108]:=H
 rw[Us (Rl.len _)]at H
 refine gg 8 λa F=>?_
 refine Xi call73 F Z (Do x.v.evs.length _ (λi j=>x.v.po.has i j&&Xbm x.v.evs i j) _ a6 (λi j w hi hj d=>⟨74,[],[Vc y 0],Z,call74,Xed b o y i j x w ((H.grow d).cell 1 Z Z) (t.own (H.grow d)) r hi hj⟩)) ?_;rintro e w ⟨K,aG,aE,aJ,rfl,d⟩;replace H:=H.grow d;clear d
 refine zq λa F=>?_
 refine zAl XE H F λb6 a w F H=>?_
 refine sSr H 0 ?si F Z Z Z ?s1 Z Z ?_
 case si=>rw[Rl.len];exact VT Xt
 case s1=>exact Gr _
 clear H;intro w H
 refine gg 1 λa F=>?_
 replace H:Own w0 none w [.blk b6 (VZ (zR 0).cells 0 K.cells) 58,.blk N g.cells 58,.blk y [Vc b o] 108]:=H
 rw[Us (Rl.len _)]at H
 refine gg 2 λa F=>?_
 refine zRO H λH=>?_
 refine Xa (k:=0) (i:=0) Z F Z Z (λw H=>rLr Xu Z ?si F Z (H.whole 0 Z)) H (λ_ _ _ h=>h) ?_
 case si=>rw[Rl.len];exact VT Xt
 intro a F
 refine gg 3 λa F=>?_
 refine Xa (k:=4) (i:=4) Z F Z Z (λw H=>rLr Xu Z ?si F Z (H.argR t.rf)) H (λ_ _ _ h=>h) ?_
 case si=>rw[Rl.len];exact VT Xt
 intro a F
 refine gg 3 λa F=>?_
 refine Xa (k:=8) (i:=8) Z F Z Z (λw H=>rLr Xu Z ?si F Z (H.argR t.co)) H (λ_ _ _ h=>h) ?_
 case si=>rw[Rl.len];exact VT Xt
 intro a F
 refine Xa (k:=9) (i:=9) Z F Z Z (λw H=>rLr Xu Z ?si F Z (H.whole 1 Z)) H (λ_ _ _ h=>h) ?_
 case si=>rw[Rl.len];exact VT Xt
 intro a F;refine Xd (k:=10) (i:=10) Z F (oBsR (rows:=[x.v.rf.cells,x.v.co.cells,g.cells]) H underlying235 Xt XE Z F Z Z Z Z λaL a w F H=>?_);refine V6 H.tail ?_;refine Xd (k:=11) (i:=11) Z F (UK call78 F Z Z (B0 x.v.evs.length 3 K [x.v.rf,x.v.co,g] _ _ (XiQ (qs:=[x.v.rf,x.v.co,g]) (i:=0) H Z (by simp)) ⟨aE,aG⟩ (by simp[r.rf,r.co,p.ok]) (by simp)) ?_);rintro e w ⟨qu,aF,a7,rfl,d⟩;replace H:=H.grow d;clear d
 refine zq λa F=>?_
 refine gg 1 λa F=>?_
 refine Xd (k:=12) (i:=12) Z F (UK call77 F Z Z (Mg qu _ aF.ok (U.own H)) ?_);rintro e w ⟨aB,rfl,a4,d⟩;replace H:=H.grow d;clear d
 refine zq λa F=>?_
 refine gg 3 λa F=>?_
 have H:=H.tail
 replace H:Own w0 none w [.blk b6 K.cells 58,.blk N g.cells 58,.blk y [Vc b o] 108]:=H
 have G:aB=true↔CohB x.v:=by
  rw[a4,XcJ (R:=λi j=>(x.v.po.has i j&&Xbm x.v.evs i j)=true\/x.v.rf.has i j=true\/x.v.co.has i j=true\/frB x.v i j) λi j=>by
   rw[a7,aJ,<-p.has i j]
   simp only[List.any_cons,List.any_nil,Bool.or_false,FM,AJ,decide_eq_true_eq]
   refine or_congr_left ⟨λh=>(by simp_all),λh=>?_⟩
   have W:=r.po.ok.lt i j h.1
   rw[r.po.n]at W
   simp_all]
  rfl
 refine gg 1 λa F=>zi (λD=>?_) λD=>?_
 ·
  have h9:¬CohB x.v:=λh=>by rw[G.2 h]at D;cases D
  refine gg 6 λa F=>?_
  exact⟨1,Z,⟨λh=>absurd h (by decide),λh=>(h9 h.1).elim⟩,H.below⟩
 have h9:CohB x.v:=G.1 D
 refine gg 2 λa F=>?_
 refine zRO H λH=>?_
 refine Xa (k:=0) (i:=0) Z F Z Z (λw H=>rLr Xu Z ?si F Z (H.whole 1 Z)) H (λ_ _ _ h=>h) ?_
 case si=>rw[Rl.len];exact VT Xt
 intro a F
 refine gg 3 λa F=>?_
 refine Xa (k:=4) (i:=4) Z F Z Z (λw H=>rLr Xu Z ?si F Z (H.argR t.co)) H (λ_ _ _ h=>h) ?_
 case si=>rw[Rl.len];exact VT Xt
 intro a F
 refine DU F H [0,3,5] 10 [true,true,true,true,true,true,true,true,true,true,false,false] (λrs m w=>∃z,m=[(42,.agg (rlF x.v.evs.length λi=>Qp x.v.co (g.to i)).cells.toArray),(43,Ve 0),(7,Vc z 0)]/\Own w0 none w ((.blk z (zR 0).cells 58)::rs)) (by repeat(first|exact SubR.nil|(apply SubR.cons;· rfl))) ?_ (λL=>?_)
 rotate_left
 ·
  refine XcR (k:=5) (i:=5) (j:=9) Y F Z Z Z Z ?_ ?_
  ·
   refine UK call79 F Z Z (G4 g x.v.co x.v.evs.length _ p.ok.ok r.co.ok p.ok.n r.co.n (U.own H)) ?_;rintro e w ⟨rfl,d⟩;replace H:=H.grow d;clear d
   refine zq λa F=>?_
   refine V6 H ?_
   refine gg 3 λa F=>?_
   refine Xd (k:=9) (i:=9) Z F (oAl H XE F Z λz a w F H=>?_);refine V6 H.tail ?_
   exact eGo L Y _ ⟨z,Z,H⟩ F.tt
  refine oAl H XE F Z λz a w F H=>?_;refine V6 H.tail ?_
  refine zEc 5 F (G4 g x.v.co x.v.evs.length _ p.ok.ok r.co.ok p.ok.n r.co.n (U.own H)) H λa w F H=>?_
  refine V6 H.tail ?_;refine Xb 6 Z F Z (λw=>rMv F Z) H.tail qq0 (Xg 7 Z Z (λa F w=>Lt F Z Z) H.tail qq0 (Xg 8 Z Z (λa F w=>Lt F Z Z) H.tail qq0 λa F=>?_))
  exact eGo L Y _ ⟨z,Z,H⟩ F.tt
 clear F H;intro m a w V F
 obtain⟨z,rfl,H⟩:=V
 refine Xd (k:=10) (i:=10) Z F (oSr H 0 ?si F Z Z ?s1 Z Z ?_)
 case si=>rw[Rl.len];exact VT Xt
 case s1=>exact Gr _
 clear H;intro w H
 refine gg 3 λa F=>?_
 obtain⟨hu,a9⟩:=Cz p.ok r.co
 replace H:Own w0 none w [.blk z (VZ (zR 0).cells 0 (rlF x.v.evs.length λi=>Qp x.v.co (g.to i)).cells) 58,.blk b6 K.cells 58,.blk N g.cells 58,.blk y [Vc b o] 108]:=H
 rw[Us (Rl.len _)]at H
 refine gg 1 λa F=>?_
 refine zRO H λH=>?_
 refine gg 3 λa F=>?_
 refine Xa (k:=3) (i:=3) Z F Z Z (λw H=>rLr Xu Z ?si F Z (H.argR t.rm)) H (λ_ _ _ h=>h) ?_
 case si=>rw[Rl.len];exact VT Xt
 intro a F
 refine Xa (k:=4) (i:=4) Z F Z Z (λw H=>rLr Xu Z ?si F Z (H.whole 0 Z)) H (λ_ _ _ h=>h) ?_
 case si=>rw[Rl.len];exact VT Xt
 intro a F
 refine DU F H [0,3,5] 10 [true,true,true,true,true,true,true,true,true,true,false,false] (λrs m w=>∃B,m=[(51,.agg (rlF x.v.evs.length λi=>x.v.rm.to i&&&(rlF x.v.evs.length λi=>Qp x.v.co (g.to i)).to i).cells.toArray),(52,Ve 0),(9,Vc B 0)]/\Own w0 none w ((.blk B (zR 0).cells 58)::rs)) (by repeat(first|exact SubR.nil|(apply SubR.cons;· rfl))) ?_ (λL=>?_)
 rotate_left
 ·
  refine XcR (k:=5) (i:=5) (j:=9) Y F Z Z Z Z ?_ ?_
  ·
   refine UK call80 F Z Z (XfL x.v.rm (rlF x.v.evs.length λi=>Qp x.v.co (g.to i)) x.v.evs.length _ r.rm.ok hu.ok r.rm.n hu.n) ?_;rintro e w ⟨rfl,d⟩;replace H:=H.grow d;clear d
   refine zq λa F=>?_
   refine V6 H ?_
   refine gg 3 λa F=>?_
   refine Xd (k:=9) (i:=9) Z F (oAl H XE F Z λB a w F H=>?_);refine V6 H.tail ?_
   exact eGo L Y _ ⟨B,Z,H⟩ F.tt
  refine oAl H XE F Z λB a w F H=>?_;refine V6 H.tail ?_
  refine zEc 5 F (XfL x.v.rm (rlF x.v.evs.length λi=>Qp x.v.co (g.to i)) x.v.evs.length _ r.rm.ok hu.ok r.rm.n hu.n) H λa w F H=>?_
  refine V6 H.tail ?_;refine Xb 6 Z F Z (λw=>rMv F Z) H.tail qq0 (Xg 7 Z Z (λa F w=>Lt F Z Z) H.tail qq0 (Xg 8 Z Z (λa F w=>Lt F Z Z) H.tail qq0 λa F=>?_))
  exact eGo L Y _ ⟨B,Z,H⟩ F.tt
 clear F H;intro m a w V F
 obtain⟨B,rfl,H⟩:=V
 refine Xd (k:=10) (i:=10) Z F (oSr H 0 ?si F Z Z ?s1 Z Z ?_)
 case si=>rw[Rl.len];exact VT Xt
 case s1=>exact Gr _
 clear H;intro w H
 refine gg 3 λa F=>?_
 obtain⟨hv,a1⟩:=XpM r.rm hu
 replace H:Own w0 none w [.blk B (VZ (zR 0).cells 0 (rlF x.v.evs.length λi=>x.v.rm.to i&&&(rlF x.v.evs.length λi=>Qp x.v.co (g.to i)).to i).cells) 58,.blk z (rlF x.v.evs.length λi=>Qp x.v.co (g.to i)).cells 58,.blk b6 K.cells 58,.blk N g.cells 58,.blk y [Vc b o] 108]:=H
 rw[Us (Rl.len _)]at H
 refine gg 3 λa F=>?_
 refine sLr Xu Z ?si F Z Z Z (H.whole 0 Z) ?_
 case si=>rw[Rl.len];exact VT Xt
 intro a F;refine Xi call81 F Z (Xj4 (rlF x.v.evs.length λi=>x.v.rm.to i&&&(rlF x.v.evs.length λi=>Qp x.v.co (g.to i)).to i) _ hv.ok) ?_;rintro e w ⟨aH,rfl,a8,d⟩;replace H:=H.grow d;clear d
 refine zq λa F=>?_
 refine gg 2 λa F=>?_
 have J:aH=true↔Xso x.v:=by
  rw[a8]
  refine⟨λh i j k h1 W h3=>?_,λh i j=>?_⟩
  ·have h4:=h i j
   rw[a1,h1,IL]at h4;rw[(a9 i j).2 ⟨k,(p.has i k).2 W,h3⟩]at h4
   cases h4
  ·rw[a1]
   cases h1:x.v.rm.has i j with
   |false=>rfl
   |true=>
    cases W:(rlF x.v.evs.length λi=>Qp x.v.co (g.to i)).has i j with
    |false=>rfl
    |true=>
     obtain⟨k,h3,h4⟩:=(a9 i j).1 W
     exact(h i j k h1 ((p.has i k).1 h3) h4).elim
 refine gg 1 λa F=>zi (λE=>?_) λE=>?_
 ·
  have h8:¬Xso x.v:=λh=>by rw[J.2 h]at E;cases E
  refine gg 6 λa F=>?_
  exact⟨2,Z,⟨λh=>absurd h (by decide),λh=>(h8 h.2.1).elim⟩,H.below⟩
 have h8:Xso x.v:=J.1 E
 refine gg 8 λa F=>zi (λa5=>?_) λa5=>?_
 ·
  rcases hM with rfl|rfl<;>cases a5
 refine gg 6 λa F=>?_
 refine sLr Xu Z ?si F Z Z Z (H.argR t.rf) ?_
 case si=>rw[Rl.len];exact VT Xt
 intro a F
 refine zAl XE H F λS a w F H=>?_
 refine sSr H 0 ?si F Z Z Z ?s1 Z Z ?_
 case si=>rw[Rl.len];exact VT Xt
 case s1=>exact Gr _
 clear H;intro w H
 refine gg 1 λa F=>?_
 replace H:Own w0 none w [.blk S (VZ (zR 0).cells 0 x.v.rf.cells) 58,.blk B (rlF x.v.evs.length λi=>x.v.rm.to i&&&(rlF x.v.evs.length λi=>Qp x.v.co (g.to i)).to i).cells 58,.blk z (rlF x.v.evs.length λi=>Qp x.v.co (g.to i)).cells 58,.blk b6 K.cells 58,.blk N g.cells 58,.blk y [Vc b o] 108]:=H
 rw[Us (Rl.len _)]at H
 replace H:=H.sel [0,4,5] Z Z
 refine cSeqS [0,3,5,11] (λm w=>∃q:Rl,m=[]/\RlN x.v.evs.length q/\(∀i j,q.has i j=rfM M x.v i j)/\Own w0 none w [.blk S q.cells 58,.blk N g.cells 58,.blk y [Vc b o] 108]) F ?_ ?_
 ·
  refine gg 6 λa F=>zi (λQ=>?_) λQ=>?_
  ·
   refine gg 2 λa F=>?_
   refine sLr Xu Z ?si F Z Z Z (H.whole 0 Z) ?_
   case si=>rw[Rl.len];exact VT Xt
   intro a F;refine Xi call82 F Z (Xps b o x x.v.rf _ (t.own H) a6 r.rf) ?_;rintro e w ⟨qe,aD,a3,rfl,d⟩;replace H:=H.grow d;clear d
   refine zq λa F=>?_
   refine sSr H 0 ?si F Z Z Z ?s1 Z Z ?_
   case si=>rw[Rl.len];exact VT Xt
   case s1=>exact Gr _
   clear H;intro w H
   refine gg 1 λa F=>?_
   replace H:Own w0 none w [.blk S (VZ x.v.rf.cells 0 qe.cells) 58,.blk N g.cells 58,.blk y [Vc b o] 108]:=H
   rw[Us (Rl.len _)]at H
   exact⟨_,⟨qe,Z,aD,λi j=>(a3 i j).trans (by unfold rfM;rw[if_neg Q]),H⟩,F.tt⟩
  refine gg 1 λa F=>?_
  exact⟨_,⟨x.v.rf,Z,r.rf,λi j=>by unfold rfM;rw[if_pos Q],H⟩,F.tt⟩
 clear F H
 intro m a w V F
 obtain⟨q,rfl,hq,aC,H⟩:=V
 refine gg 2 λa F=>?_
 refine zRO H λH=>?_
 refine gg 2 λa F=>?_
 refine Xa (k:=2) (i:=3) Z F Z Z (λw H=>rLr Xu Z ?si F Z (H.whole 0 Z)) H (λ_ _ _ h=>h) ?_
 case si=>rw[Rl.len];exact VT Xt
 intro a F;refine Xe 4 Z F Z Z (λw H=>rLd isAgg108 F Z (H.cell 2 Z Z)) H qq0 (qT 5 Z Y Z Z Z Z (λa F w H=>rNc F Z) H qq0 (Xg 6 Z Z (λa F w=>rFa (f:=3) Yk Z Xt Z Z F Z) H qq0 λa F=>?_))
 refine Xa (k:=6) (i:=7) Z F Z Z (λw H=>rLr Xu Z ?si F Z (H.argR t.co)) H (λ_ _ _ h=>h) ?_
 case si=>rw[Rl.len];exact VT Xt
 intro a F
 refine Xa (k:=7) (i:=8) Z F Z Z (λw H=>rLr Xu Z ?si F Z (H.whole 1 Z)) H (λ_ _ _ h=>h) ?_
 case si=>rw[Rl.len];exact VT Xt
 intro a F
 refine DU F H [] 10 [true,true,true,true,true,true,true,true,true,true,false,false,false] (λrs m w=>∃A s,m=[(69,.agg A.cells.toArray),(76,Vd s 0 3 3)]/\(RlN x.v.evs.length A/\XkS M x.v A)/\Own w0 none w ((.blk s [q.cells,x.v.co.cells,g.cells].flatten 58)::rs)) (by repeat(exact SubR.nil)) ?_ (λL=>?_)
 rotate_left
 ·
  refine XcR (k:=8) (i:=2) (j:=9) Y F Z Z Z Z ?_ ?_
  ·
   refine UK call83 F Z Z (XbJ b o M x _ hM (t.own H) r (U.own H)) ?_;rintro e w ⟨A,T,u,rfl,d⟩;replace H:=H.grow d;clear d
   refine zq λa F=>?_
   refine V6 H ?_;refine Xd (k:=9) (i:=9) Z F (oBsR (rows:=[q.cells,x.v.co.cells,g.cells]) H underlying235 Xt XE Z F Z Z Z Z λs a w F H=>?_);refine V6 H.tail ?_
   exact eGo L Y _ ⟨A,s,Z,⟨T,u⟩,H⟩ F.tt
  refine oBsR (rows:=[q.cells,x.v.co.cells,g.cells]) H underlying235 Xt XE Z F Z Z Z Z λs a w F H=>?_;refine V6 H.tail ?_;refine Xd (k:=9) (i:=2) Z F (UK call83 F Z Z (XbJ b o M x _ hM (t.own H) r (U.own H)) ?_);rintro e w ⟨A,T,u,rfl,d⟩;replace H:=H.grow d;clear d
  refine zq λa F=>?_
  refine V6 H.tail ?_
  exact eGo L Y _ ⟨A,s,Z,⟨T,u⟩,H⟩ F.tt
 clear F H;intro m a w V F
 obtain⟨A,s,rfl,P,H⟩:=V
 refine Xd (k:=10) (i:=10) Z F (UK call78 F Z Z (B0 x.v.evs.length 3 A [q,x.v.co,g] _ _ (XiQ (qs:=[q,x.v.co,g]) (i:=0) H Z (by simp)) P.1 (by simp[hq,r.co,p.ok]) (by simp)) ?_);rintro e w ⟨qv,aA,X,rfl,d⟩;replace H:=H.grow d;clear d
 refine zq λa F=>?_
 refine gg 1 λa F=>?_
 refine Xd (k:=11) (i:=11) Z F (UK call77 F Z Z (Mg qv _ aA.ok (U.own H)) ?_);rintro e w ⟨aI,rfl,a2,d⟩;replace H:=H.grow d;clear d
 refine zq λa F=>?_
 refine gg 3 λa F=>?_
 have H:=H.tail
 have I:aI=true↔OrdB M x.v:=by
  rw[a2,XcJ (R:=λi j=>XbV M x.v i j\/rfM M x.v i j=true\/x.v.co.has i j=true\/frB x.v i j) λi j=>by
   rw[X,<-Xmb P.2,<-aC,<-p.has i j]
   simp only[List.any_cons,List.any_nil,Bool.or_false,FM]]
  rfl
 refine gg 1 λa F=>zi (λC=>?_) λC=>?_
 ·
  have h7:¬OrdB M x.v:=λh=>by rw[I.2 h]at C;cases C
  refine gg 6 λa F=>?_
  exact⟨3,Z,⟨λh=>absurd h (by decide),λh=>(h7 h.2.2).elim⟩,H.below⟩
 have h7:OrdB M x.v:=I.1 C
 refine gg 7 λa F=>?_
 exact⟨0,Z,⟨λ_=>⟨h9,h8,h7⟩,λ_=>rfl⟩,H.below⟩
theorem RightOk.rels{v:XcV}{b:Nat->List Nat}(h:RightOk n v b):RelsOk v:=⟨h.evs.l48,h.po,h.rf,h.co,h.rm⟩
theorem XgB(M:UInt8)(w0:World)(b:M=2\/M=3):Va 37 #[b8 M] w0 (.bool true):=by
 refine Vb func37 ntmps37 λH a F=>?_
 refine gg 9 λa F=>?_
 refine zSp 5 F (λd F=>?_) λd F=>?_
 ·
  refine gg 7 λa F=>?_
  exact⟨by rcases b with rfl|rfl<;>rfl,H.below⟩
 rcases b with rfl|rfl<;>exact absurd d (by decide)
theorem XgC(n:Nat)(M:UInt8)(x:XcP)(p:Nat->List Nat)(w0:World)(i:M=2\/M=3)(g:RowsAt w0 x.A 7 (x.v.evs.map EvT.cells))(h:RightOk n x.v p)(o:Tab6At w0):
 Calls prog 15 #[b8 M,.agg x.cells.toArray] w0 λe q=>∃c:Bool,e=.returned (.bool c)/\(c=true↔GU M x.v)/\Below w0.heap.size w0 q:=by
 refine Vb func15 ntmps15 λH a F=>?_
 refine gg 2 λa F=>?_
 refine zBx H F λm a w F H=>?_
 refine gg 2 λa F=>?_
 replace H:Own w0 none w [.blk m x.cells 65]:=H
 refine gg 3 λa F=>?_
 refine zCa F (XgB M _ i) H λa w F H=>?_
 refine gg 1 λa F=>?_
 refine F.split 7 Z (λr F=>?_) λr F=>?_
 ·
  refine sLr Yk Z ?si F Z Z Z (H.whole 0 Z) ?_
  case si=>rw[XcP.len];exact VT sizeOf65
  intro a F
  refine zCa F (Xgc n x p _ (g.own H) h (o.own H)) H λa w F H=>?_
  refine gg 2 λa F=>?_
  refine F.split 11 Z (λd F=>?_) λd F=>?_
  ·
   refine gg 1 λa F=>?_
   refine Xi call39 F Z (XdH m 0 M x _ i ⟨H.whole 0 Z,g.own H⟩ h.rels (o.own H)) ?_;rintro e w ⟨s,rfl,b,j⟩;replace H:=H.grow j;clear j
   refine zq λa F=>?_
   refine gg 6 λa F=>?_
   refine⟨_,Z,?_,H.below⟩
   rw[<-b]
   exact beq_iff_eq
  cases d
 cases r
structure Ctx (p:Prg) (dom:List UInt8) (ps:List PathP) (d:List Nat):Prop where
 hp:VX p=0
 hm:MixOk p dom ps
 h48:V1 p.init ps ps.length<=48
 hd:d∈JA (szL (UE p.init ps ps.length) p.init.length)
def eK(p:Prg)(ps:List PathP):List EvT:=UE p.init ps ps.length
def Ex(p:Prg)(ps:List PathP)(R:Nat->RunP)(i:Nat):Prop:=i<p.init.length\/∃t k,t<ps.length/\k<(R t).many/\i=V1 p.init ps t+k
section
variable{p:Prg}{dom:List UInt8}{ps:List PathP}{d:List Nat}
theorem Ctx.lines(h:Ctx p dom ps d):LinesOk (eK p ps).length p.init.length (rkD (eK p ps) p.init.length d):=Xak h.h48 h.hd
theorem Ctx.co(h:Ctx p dom ps d):(Uq p.init ps d).co.has a b=true↔∃l,l<p.init.length/\Aft (rkD (eK p ps) p.init.length d l) a b:=by
 have e:(Uq p.init ps d).co=coT (eK p ps).length (rkD (eK p ps) p.init.length d) p.init.length:=Xcs _
 rw[e]
 exact XaH h.lines h.h48 _ (AI _)
theorem Ctx.line(h:Ctx p dom ps d){l:Nat}(b:l<p.init.length):(rkD (eK p ps) p.init.length d l).Perm (wrL (eK p ps) l):=MA (AW GH h.h48) (Xbq h.hd b).1
theorem Ctx.two(h:Ctx p dom ps d){l:Nat}(g:a∈rkD (eK p ps) p.init.length d l)(hb:b∈rkD (eK p ps) p.init.length d l):a=b\/Aft (rkD (eK p ps) p.init.length d l) a b\/Aft (rkD (eK p ps) p.init.length d l) b a:=by
 obtain⟨i,e⟩:=Af.1 g
 obtain⟨j,c⟩:=Af.1 hb
 rcases F5 i j with h1|h1|h1
 ·exact .inr (.inl ⟨i,j,h1,e,c⟩)
 ·subst h1
  rw[e]at c
  exact .inl (Ac c)
 ·exact .inr (.inr ⟨j,i,h1,c,e⟩)
end
section
variable{p:Prg}{dom:List UInt8}{ps:List PathP}{l:List Ins}{r z:RunP}{x:Ins}{v:UInt8}{t k:Nat}{e:Ev}
theorem N3(g:PathD l dom (Ub x v r) z)(c:(U1 x v r)[k]?=some e):(GL z)[r.many+k]?=some e:=by
 obtain⟨s,d⟩:=g.grow
 have b:(GL (Ub x v r))[r.many+k]?=some e:=by
  rw[JV,AQ (by rw[UA];omega),UA,Fq];exact c
 rw[<-d,AP (AB.1 b).1];exact b
end
theorem Ctx.rm{p:Prg}{ps:List PathP}{d:List Nat}{l:List Ins}{r z:RunP}{x:Ins}{v:UInt8}{t:Nat}(h:Ctx p dom ps d)(b:ps[t]?=some (Ul z))(c:PathD l dom (Ub x v r) z)(i:(U1 x v r).length=2)(hs:SetsOk z)(hm:z.many<=24):
 (Uq p.init ps d).rm.has (V1 p.init ps t+r.many) (V1 p.init ps t+(r.many+1))=true:=by
 have e:(Ub x v r).many<=z.many:=by
  have:=c.grow.length_le
  rwa [UA,UA]at this
 have g:=Ga x v r
 refine(Jg h.h48 (λq b=>Gm (h.hm.pairs b).2.2) _ (AI _)).2 ⟨t,Ul z,MD (r.many+1) r.many,(AB.1 b).1,b,XoK c i hs,?_,?_⟩
 ·show _=_+(UInt8.ofNat r.many).toNat
  rw[ofN O]
 ·show _=_+(UInt8.ofNat (r.many+1)).toNat
  rw[ofN O]
section
variable{E:List EvT}{a b t:Nat}{e f:Ev}
theorem Xrk(d:E.length<=48)(g:E[a]?=some ⟨(t:Int),e⟩)(hb:E[b]?=some ⟨(t:Int),f⟩)(c:a<b):(poR E).has a b=true:=by
 rw[Xbv d]
 unfold poB
 rw[g,hb,decide_eq_true c]
 have:(t:Int) ≠ -1:=O
 simp[this]
theorem Xn9{g:EvT}(b:E[a]?=some g)(hk:g.ev.kind=1\/g.ev.kind=2):XkR E a=true:=by
 unfold XkR XkQ
 rw[b]
 rcases hk with hk|hk<;>simp[hk]
end
theorem Ctx.rho{p:Prg}{ps:List PathP}{d:List Nat}{ρ:Nat->Nat}{t:Nat}{e f:Ev}(h:Ctx p dom ps d)(n:∀i j,XbV 2 (Uq p.init ps d) i j\/rfM 2 (Uq p.init ps d) i j=true\/(Uq p.init ps d).co.has i j=true\/frB (Uq p.init ps d) i j->ρ i<ρ j)(g:(eK p ps)[a]?=some ⟨(t:Int),e⟩)(hb:(eK p ps)[b]?=some ⟨(t:Int),f⟩)(c:a<b)(o:e.kind=1\/e.kind=2)(m:f.kind=1\/f.kind=2):ρ a<ρ b:=
 n a b (.inl ⟨Xrk h.h48 g hb c,Xn9 (E:=eK p ps) g o,Xn9 (E:=eK p ps) hb m,.inl Z⟩)
def Fresh(r:RunP):Prop:=∀i,r.many<=i->r.att i=0
theorem XkJ(x:Ins)(v:UInt8)(r:RunP):(Js x v r).att=r.att\/((Js x v r).att=GB r.att (r.many+1) (En r.many)/\(U1 x v r).length=2):=by
 refine MW (M:=λy=>y.att=r.att\/(y.att=GB r.att (r.many+1) (En r.many)/\(U1 x v r).length=2)) x v r (λ_=>.inl Z) (λ_=>.inl Z) (λ_=>.inl Z) (λh=>.inr ⟨Z,by unfold U1;rw[h];rfl⟩) (λh=>.inr ⟨Z,by unfold U1;rw[h];rfl⟩) (λh=>?_) (λ_=>.inl Z) (λ_=>?_)
 ·unfold XaL
  split
  ·exact .inl Z
  next b=>
   refine .inr ⟨Z,?_⟩
   unfold U1
   rw[h]
   show(if v≠UX x.aR x.aN r then[(⟨1,x.loc,v,3,UInt8.ofNat r.pc,UInt8.ofNat r.many⟩:Ev)]else[⟨1,x.loc,v,3,UInt8.ofNat r.pc,UInt8.ofNat r.many⟩,⟨2,x.loc,UX x.bR x.bN r,3,UInt8.ofNat r.pc,UInt8.ofNat (r.many+1)⟩]).length=2
   rw[if_neg b];rfl
 ·unfold JY
  split
  ·exact .inl Z
  ·exact .inl Z
theorem Fresh.exec{r:RunP}(h:Fresh r)(x:Ins)(v:UInt8):Fresh (Ub x v r):=λi b=>by
 rw[Ga]at b
 show(Js x v r).att i=0
 rcases XkJ x v r with e|⟨e,c⟩
 ·rw[e];exact h i O
 ·rw[e,Jy O];exact h i O
theorem Cb:Fresh zRun:=λ_ _=>rfl
theorem Fresh.free{l:List Ins}{r z:RunP}(g:PathD l dom r z):Fresh r->z.att r.many=0:=by
 have b:∀(r z:RunP)(x:Ins)(v:UInt8),PathD l dom (Ub x v r) z->(Fresh (Ub x v r)->z.att (Ub x v r).many=0)->Fresh r->z.att r.many=0:=λr z x v d c h=>by
  have i:=Ga x v r
  rcases Aw (U1 x v r).length with h0|h0
  ·have:=c (h.exec x v)
   rwa [i,h0]at this
  ·rw[d.att _ O]
   show(Js x v r).att r.many=0
   rcases XkJ x v r with e|⟨e,_⟩
   ·rw[e];exact h _ (AI _)
   ·rw[e,Jy O];exact h _ (AI _)
 induction g with
 |stop _=>exact λh=>h _ (AI _)
 |read _ _ _ d c=>exact b _ _ _ _ d c
 |pass _ _ d c=>exact b _ _ _ _ d c
theorem Xi4(x:Ins)(v:UInt8)(r:RunP):(U1 x v r).length<=2:=by
 have h:=EH x v r
 unfold U1
 split
 ·exact Nat.le_succ _
 ·split
  ·exact Nat.le_succ _
  ·split
   ·exact AU _
   ·split
    ·exact AI _
    ·split
     ·exact AI _
     ·split
      ·split
       ·exact Nat.le_succ _
       ·exact AI _
      ·split
       ·exact Nat.le_succ _
       ·exact AU _
section
variable{v:List UInt8}{ps:List PathP}{t u k j:Nat}{q q':PathP}
theorem Xnx(c:ps[t]?=some q)(d:k<q.evs.length)(b:t<u):V1 v ps t+k<V1 v ps u:=by
 have g:=Qa (v:=v) c
 have e:=Qv (v:=v) (ps:=ps) (show t+1<=u from b)
 omega
theorem Xe4(d:ps[t]?=some q)(c:k<q.evs.length)(b:ps[u]?=some q')(g:j<q'.evs.length)(e:V1 v ps t+k=V1 v ps u+j):t=u/\k=j:=by
 rcases F5 t u with h|h|h
 ·have:=Xnx (v:=v) d c h;omega
 ·subst h;exact⟨Z,O⟩
 ·have:=Xnx (v:=v) b g h;omega
theorem Xny:v.length<=V1 v ps t:=by rw[<-sizeK_zero (v:=v) (ps:=ps)];exact Qv (AU _)
end
theorem least{P:Nat->Prop}(n:Nat):P n->∃k,P k/\∀j,P j->k<=j:=by
 induction n using Nat.strongRecOn with
 |ind n g=>
  intro h
  by_cases c:∃j,j<n/\P j
  ·obtain⟨j,b,e⟩:=c
   exact g j b e
  ·exact⟨n,h,λj d=>Nat.le_of_not_lt λb=>c ⟨j,b,d⟩⟩
structure Cand (p:Prg) (dom:List UInt8) (ps:List PathP) (d:List Nat) (Z:Nat->RunP) (ρ:Nat->Nat):Prop where
 cx:Ctx p dom ps d
 ok:RightOk p.init.length (Uq p.init ps d) (rkD (eK p ps) p.init.length d)
 z:∀t l,p.threads[t]?=some l->ps[t]?=some (Ul (Z t))/\EndG p.init.length l (Z t)/\Ua 6 l=true/\PathD l dom zRun (Z t)
 ord:∀i j,XbV 2 (Uq p.init ps d) i j\/rfM 2 (Uq p.init ps d) i j=true\/(Uq p.init ps d).co.has i j=true\/frB (Uq p.init ps d) i j->ρ i<ρ j
 ato:Xso (Uq p.init ps d)
section
variable{p:Prg}{dom:List UInt8}{ps:List PathP}{d:List Nat}{Z R:Nat->RunP}{ρ:Nat->Nat}{t k:Nat}{l:List Ins}{e:Ev}{x:Ins}{v:UInt8}
theorem Cand.ev(h:Cand p dom ps d Z ρ)(b:p.threads[t]?=some l)(c:(GL (Z t))[k]?=some e):(eK p ps)[V1 p.init ps t+k]?=some ⟨(t:Int),e⟩:=
 Xcc (h.z t l b).1 c (AB.1 (h.z t l b).1).1
theorem Cand.thr(h:Cand p dom ps d Z ρ)(b:t<ps.length):∃l,p.threads[t]?=some l:=⟨_,AA (by rw[<-h.cx.hm.len];exact b)⟩
theorem Cand.uniq(h:Cand p dom ps d Z ρ){u j:Nat}{b:List Ins}(m:p.threads[t]?=some l)(i:p.threads[u]?=some b)(c:k<(Z t).many)(g:j<(Z u).many)(e:V1 p.init ps t+k=V1 p.init ps u+j):t=u/\k=j:=
 Xe4 (h.z t l m).1 (by show k<(GL (Z t)).length;rw[UA];exact c) (h.z u b i).1 (by show j<(GL (Z u)).length;rw[UA];exact g) e
theorem Cand.free(h:Cand p dom ps d Z ρ){i:Nat}{g:EvT}(n:(eK p ps)[i]?=some g)(j:g.ev.kind=2)(y:Nat):(Uq p.init ps d).rm.has i y=false:=by
 rw[If]
 intro m
 obtain⟨_,_,e,f,b,c,_⟩:=h.ok.depE.rmw i y m
 have b:(eK p ps)[i]?=some e:=b
 rw[n]at b
 cases b
 rw[j]at c
 cases c
theorem Cand.head(h:Cand p dom ps d Z ρ){c w:Nat}(b:c<p.init.length)(q:w<p.init.length):¬Aft (rkD (eK p ps) p.init.length d c) a w:=by
 rintro⟨i,j,v,_,o⟩
 have s:=h.ok.coE.head c b
 have n:=h.cx.lines.nodup c b
 have z:=(h.cx.line b).mem_iff.1 (AF o)
 obtain⟨_,g,u,_,m⟩:=NJ z
 obtain⟨y,e⟩:=h.ok.evs.ini w q
 have e:(eK p ps)[w]?=_:=e
 rw[u]at e
 cases e
 have C:=h.ok.evs.n6
 have m:(UInt8.ofNat w).toNat=c:=m
 rw[ofN O]at m;subst m
 obtain⟨A,B⟩:=AB.1 o
 obtain⟨r,t⟩:=AB.1 s
 exact Ao.1 n 0 j r A O (t.trans B.symm)
structure Nxt (p:Prg) (dom:List UInt8) (Z R:Nat->RunP) (t:Nat) (l:List Ins) (x:Ins) (v:UInt8):Prop where
 thr:p.threads[t]?=some l
 ins:l[(R t).pc]?=some x
 path:PathD l dom (Ub x v (R t)) (Z t)
 any:Ug x.op=false->∀u,Ub x u (R t)=Ub x v (R t)
def Xod(p:Prg)(ps:List PathP)(R:Nat->RunP)(ρ:Nat->Nat)(t:Nat)(x:Ins)(v:UInt8)(b:Nat):Prop:=
 ((∀e∈U1 x v (R t),e.kind=3)/\b=0)\/∃m e,m+1=(U1 x v (R t)).length/\(U1 x v (R t))[m]?=some e/\(e.kind=1\/e.kind=2)/\b=ρ (V1 p.init ps t+((R t).many+m))+1
theorem XnG(p:Prg)(ps:List PathP)(R:Nat->RunP)(ρ:Nat->Nat)(t:Nat)(x:Ins)(v:UInt8):∃d,Xod p ps R ρ t x v d:=by
 have c:∀N,NewF x v N->U1 x v (R t)=N->∃d,Xod p ps R ρ t x v d:=λN h e=>by
  cases h with
  |quiet _ b=>exact⟨0,.inl ⟨by rw[e];exact b,Z⟩⟩
  |rd _ b _ _=>exact⟨_,.inr ⟨0,_,by rw[e];rfl,by rw[e];rfl,.inl b,Z⟩⟩
  |wr _ b _=>exact⟨_,.inr ⟨0,_,by rw[e];rfl,by rw[e];rfl,.inr b,Z⟩⟩
  |both _ _ _ _ b _=>exact⟨_,.inr ⟨1,_,by rw[e];rfl,by rw[e];rfl,.inr b,Z⟩⟩
 exact c _ (EH x v (R t)) Z
theorem Nxt.far(h:Cand p dom ps d Z ρ)(c:Nxt p dom Z R t l x v){m:Nat}(hm:m+1=(U1 x v (R t)).length)(q:(U1 x v (R t))[m]?=some e)(n:e.kind=1\/e.kind=2){g:Ev}(u:(R t).many<=k)(r:(GL (Z t))[k]?=some g)(i:g.kind=1\/g.kind=2)(b:∀y,(Uq p.init ps d).rm.has (V1 p.init ps t+k) y=false):ρ (V1 p.init ps t+((R t).many+m))<=ρ (V1 p.init ps t+k):=by
 obtain⟨o,j,_,_⟩:=h.z t l c.thr
 have s:=Xi4 x v (R t)
 rcases F5 k ((R t).many+m)with h3|h3|h3
 ·exfalso
  obtain rfl:k=(R t).many:=O
  have:=h.cx.rm o c.path O j.inv.sets j.many
  rw[b]at this
  cases this
 ·rw[h3];exact AI _
 ·exact IS (h.cx.rho h.ord (h.ev c.thr (N3 c.path q)) (h.ev c.thr r) O n i)
end
end Go.Proofs.YtajfpcgbnflceaaGreatDoor
