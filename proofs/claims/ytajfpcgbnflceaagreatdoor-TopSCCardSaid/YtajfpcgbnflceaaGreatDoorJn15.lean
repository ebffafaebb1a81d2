/- x[i:j] of an array; copy within a block of bytes. Conditions: bounds. -/
import Derived.Test.YtajfpcgbnflceaaGreatDoorJn14
set_option linter.unusedSimpArgs false
set_option linter.unusedVariables false
namespace Go.Proofs.YtajfpcgbnflceaaGreatDoor
open Go.Proofs.Tryz
open Go.RowKit
set_option maxRecDepth 100000
set_option maxHeartbeats 4000000
variable{CN a b dCap i j n o sz t:Nat}{e:TypeId}{m:UInt8}{p:Prg}{s:By}{x:Operand}
section
variable{P:Program}{l:List Oper}{Q:Exit->Act->World->Prop}{N:Nat}{a:Act}{env:List (Nat×Value)}{rest:List Oper}{d:Tmp}{ty:TypeId}{pos:String}{af:Array Edge}{g:Option (Nat×Bool)}{w0 w:World}{row:Option Nat}{rs:List Res}{Kt:Act->World->Prop}
def Dm(i n sz:Nat):Nat:=if n=i then 0 else i*sz
theorem NN{t:TypeId}{p u:Operand}{k s:IntKind}(c:P.underlying t=some (.array n e))(B:∀w,(sizeOf e).run P w=.ok sz w)(F:Has N a env)(A:ev env x=some (Vc b o))(v:ev env p=some (.int s (i:Int)))(y:ev env u=some (.int k (j:Int)))(z:i<=j)(C:j<=n):
 (execOp a.eval ⟨some d,.slice t x (some p) (some u) none,ty,pos,af,g⟩).run P w=.ok (.value (Vd b (o+Dm i n sz) (j-i) (n-i))) w:=by
 have q:P.elem t=e:=by simp[Program.elem,c]
 have m:P.arrayLen t=n:=by simp[Program.arrayLen,c]
 have r:=run_sliceAt_array_lh (P:=P) w t ⟨b,o,none⟩ (by rw[q,m];exact c) s k (i:Int) (j:Int) O O (by rw[m];omega)
 rw[q,B,m]at r
 simp only[execOp,IU,H7,F.eval A,F.eval v,F.eval y,Sem.run_bind,r,Result.andThen_ok,slicedAt,FU,Sem.run_pure,Dm]
 split<;>simp[Addr.add]
theorem XmR{m ty c:TypeId}{dLen Ls:Nat}{A:Addr}{cs:List Value}(r:P.underlying m=some (.slice c))(hs:(P.info? c).map (·.size)=some sz)(t:cs.length=Nat.min Ls dLen*sz)(d:∀j v,cs[j]?=some v->w.cell? (A.add j)=some v)(u:∀j,j<cs.length->(w.cell? ⟨b,o+j,none⟩).isSome=true)(q:∀j,j<cs.length->w.frozen? ⟨b,o+j,none⟩=false)(p:∀v∈cs,v.oneCell'=true):
 (Builtin.copy_ #[m,m] ty #[Vd b o dLen dCap,.slice (some A) Ls CN]).run P w=.ok (goInt (Nat.min Ls dLen:Nat)) (w.setCells b o cs):=by
 have n:=run_loadCells_list (P:=P) w A cs d
 have e:=run_storeCells_cells (P:=P) b o cs 0 w (by simpa using u) (by simpa using q) p
 cases g:P.info? c with
 |none=>simp[g]at hs
 |some i=>
  have s:i.size=sz:=by simpa[g]using hs
  rw[t]at n
  simp[Builtin.copy_,run_underlying r,Builtin.lenOf,Builtin.firstCells,sizeOf,typeInfo,g,s,n,e]
theorem XmQ{t:TypeId}{g c m:Nat}{C:TypeId}(H:Own w0 row w rs)(E:P.underlying t=some (.slice e))(K:∀w,(sizeOf e).run P w=.ok sz w)(y:rs[i]?=some (.blk b (bs n s) C))(hd:m=0\/g+m*sz<=n)(hs:m=0\/c+m*sz<=n)(ty:TypeId):
 ∃B,(Builtin.copy_ #[t,t] ty #[Vd b g m dCap,Vd b c m CN]).run P w=.ok (goInt ((m:Nat):Int)) B/\Own w0 row B (rs.set i (.blk b (bs n (lay s g (m*sz) (cut s c))) C)):=by
 have I:=VT (P:=P) K
 have J:g+m*sz<=n\/m=0:=hd.symm
 have r:∀j v,(bs (m*sz) (cut s c))[j]?=some v->j<m*sz/\v=b8 (s (c+j)):=λj v p=>by
  rcases AN j (m*sz)with hj|hj
  ·rw[GT hj]at p
   exact⟨hj,(Ac p).symm⟩
  ·rw[Nd hj]at p;cases p
 have q:∀j,j<m*sz->m≠0:=λj hj G=>by rw[G,IZ]at hj;omega
 have d:=XmR (P:=P) (w:=w) (ty:=ty) (dCap:=dCap) (CN:=CN) (b:=b) (o:=g) (dLen:=m) (Ls:=m) (A:=⟨b,c,none⟩) (cs:=bs (m*sz) (cut s c)) E I (by rw[bs_length];simp[Nat.min_def])
  (λj v p=>by
   obtain⟨hj,rfl⟩:=r j v p
   have:=q j hj
   rw[Addr.add_mid]
   exact H.cell i y (GT (by rcases hs with h|h<;>omega)))
  (λj hj=>by
   rw[bs_length]at hj
   have:=q j hj
   rw[H.cell i y (GT (by rcases hd with h|h<;>omega))]
   exact Option.isSome_some)
  (λj hj=>(H.blk i y).frozen _)
  (λv p=>by
   obtain⟨j,hj⟩:=Af.1 p
   obtain⟨_,rfl⟩:=r j v hj
   rfl)
 have u:Nat.min m m=m:=by simp[Nat.min_def]
 rw[u]at d
 refine⟨_,d,?_⟩
 have z:=H.setCells i (bs (m*sz) (cut s c)) g w rs _ y
 rcases hd with h|h
 ·subst h
  have e:lay s g (0*sz) (cut s c)=s:=funext λk=>by unfold lay;rw[if_neg O]
  rw[e]
  have D:VZ (bs n s) g (bs (0*sz) (cut s c))=bs n s:=by rw[IZ];rfl
  rw[D]at z
  exact z
 ·rw[Qk h]at z
  exact z
theorem XmP{t ty':TypeId}{s:Operand}{v u c:Value}{b:World}(F:Has N a env)(hs:ev env s=some v)(i:ev env x=some u)(e:(Builtin.copy_ #[t,t] ty #[v,u]).run P w=.ok c b):
 (execOp a.eval ⟨some d,.call ⟨.builtin .copy,#[s,x],#[t,t]⟩,ty,pos,af,g⟩).run P w=.ok (.value c) b:=by
 simp only[execOp,resolve,invoke,builtin,Sem.run_bind,Sem.run_pure,Result.andThen_ok,FK,FH,IB,F.eval hs,F.eval i,e]
theorem XiY{t:TypeId}{y:Operand}{j c m o:Nat}{p:TypeId}(H:Own w0 row w rs)(i:Nat)(z:P.underlying t=some (.slice e))(E:∀w,(sizeOf e).run P w=.ok sz w)(F:Has N a env)(D:Nat.blt d N=true)(B:ev env x=some (Vd b j m dCap))(r:ev env y=some (Vd b c o CN))(v:rs[i]?=some (.blk b (bs n s) p))(hm:o=m)(hd:m=0\/j+m*sz<=n)(hs:m=0\/c+m*sz<=n)(K:∀a w,Has N a ((d,goInt ((m:Nat):Int))::env)->Own w0 row w (rs.set i (.blk b (bs n (lay s j (m*sz) (cut s c))) p))->Kt a w):
 (Oper.mk (some d) (.call ⟨.builtin .copy,#[x,y],#[t,t]⟩) ty pos af g).wp P a w Kt Q:=by
 subst hm
 obtain⟨q,u,A⟩:=XmQ (P:=P) (dCap:=dCap) (CN:=CN) H z E v hd hs ty
 exact oV F Z D (XmP (ty':=ty) F B r u) (λa C=>K a q C A)
end
theorem Xjx(m:UInt8)(b:World):Va 151 #[YtajfpcgbnflceaaGreatDoor.b8 m] b (.bool (Gb m)):=by
 refine Vb func151 ntmps151 λH a F=>?_
 refine gg 9 λa F=>?_
 refine zSp 5 F (λd F=>?_) λd F=>?_
 ·
  refine gg 7 λa F=>?_
  exact⟨by rw[Gb];simp_all,H.below⟩
 refine gg 7 λa F=>?_
 exact⟨by rw[Gb];simp_all,H.below⟩
theorem QF(s:By)(b:World):Va 153 #[.agg (bs 142 s).toArray] b (.agg (bs 142 (Gc s)).toArray):=by
 refine Vb func153 ntmps153 λH a F=>?_
 refine gg 2 λa F=>?_
 refine Eo H F λd a w F H=>?_
 refine Mj Lf H F λg a w F H=>?_
 refine gg 7 λa F=>?_
 refine Xin (places:=[(0,36),(36,6),(42,96),(138,4)]) Lf underlying85 Y F Z Z Z (FillB.row Z Z (FillB.row Z Z FillB.nil)) λa F=>?_
 refine Gp H 0 F λw H=>?_
 rw[V3]at H
 refine gg 2 λa F=>?_
 refine J2 results153 F Z underlying85 Z sizeOf85 H 0 Z ?_
 refine⟨Xbr λi _=>?_,H.below⟩
 simp only[lay,cut,Gc,zb]
 split<;>split<;>(try split)<;>first|rfl|(congr 1;omega)|omega
theorem Xlh(s:By)(t:Nat)(b:UInt8)(i:World)(C:t<4)(B:b.toNat<6):Calls prog 158 #[.agg (bs 142 s).toArray,Ve (t:Int),YtajfpcgbnflceaaGreatDoor.b8 b] i λe y=>e=.returned (YtajfpcgbnflceaaGreatDoor.b8 (ND s t b))/\Below i.heap.size i y:=by
 have A:=(s (138+t)).toNat_lt
 have H:=Own.start i none
 refine VU func158 Z ntmps158 Z (λa F=>?_)
 refine gg 2 λa F=>?_
 refine Eo H F λz a w F H=>?_
 refine gg 8 λa F=>?_
 refine zSp 10 F (λr F=>?_) λr F=>?_
 ·
  exact absurd r O
 refine gg 4 λa F=>?_
 refine zSp 14 F (λp F=>?_) λp F=>?_
 ·
  exact absurd p O
 refine gg 6 λa F=>zi (λn=>?_) λn=>?_
 ·
  exact absurd n O
 refine gg 9 λa F=>?_
 refine XoJ (j:=12) F Z Z Z Z λa F=>?_
 refine Xh F Z Z (Mf ?_) ?_
 focus omega
 clear F a;intro a F
 refine gg 3 λa F=>?_
 refine cLoopS [1,2,3] (λm g w=>∃k:Nat,m=k/\g=[(7,Ve (((k:Nat):Int)-1))]/\k<=12/\ND s t b=seenN s t b k/\Own i none w [.blk z (bs 142 s) 85]) F (min (VW s t) 12) [(7,Ve (((min (VW s t) 12:Nat):Int)-1))] ?_ ?_
 ·exact⟨min (VW s t) 12,Z,Z,O,Z,H.sel [0] Z Z⟩
 clear F H;intro m g a w v F
 obtain⟨k,rfl,rfl,D,o,H⟩:=v
 refine gg 7 λa F=>zi (λu=>?_) λu=>?_
 ·
  obtain⟨d,rfl⟩:∃q,m=q+1:=⟨m-1,O⟩
  rw[show((d+1:Nat):Int)-1=((d:Nat):Int) by omega]at F;rw[seenN]at o
  refine gg 10 λa F=>?_
  refine XqT (f:=0) underlying80 Z sizeOf5 Z Z F Z Z Z λa F=>?_
  refine gg 5 λa F=>zi (λc=>?_) λc=>?_
  ·
   refine gg 7 λa F=>?_
   refine sFa (f:=1) (k:=_+1) underlying80 Z sizeOf5 Z Z F Z Z Z λa F=>?_
   refine gg 5 λa F=>?_
   exact⟨by rw[o,if_pos (show UD s t d=b from c)];rfl,H.below⟩
  refine gg 3 λa F=>?_
  refine Xh F Z Z (Mf ?_) ?_
  focus omega
  clear F a;intro a F
  refine gg 2 λa F=>?_
  exact⟨d,O,_,⟨d,Z,Z,O,by rw[o,if_neg (show ¬UD s t d=b from c)],H.sel [0] Z Z⟩,F.tt⟩
 obtain rfl:m=0:=O
 refine gg 11 λa F=>?_
 exact⟨by rw[o];rfl,H.below⟩
theorem XcI{b:UInt8}(h:0<n):J3 m s t b n=if m=3/\b<UD s t (n-1)then J3 m s t b (n-1)else n:=by
 obtain⟨k,rfl⟩:∃k,n=k+1:=⟨n-1,O⟩
 rw[J3]
 rfl
theorem G5{m:UInt8}{s:By}{t:Nat}{loc:UInt8}:∀n,J3 m s t loc n<=n
 |0=>AI _
 |n+1=>by
  rw[J3]
  split
  ·exact Nat.le_succ_of_le (G5 n)
  ·exact AI _
theorem LV{b:UInt8}(h:0<n->¬(m=3/\b<UD s t (n-1))):J3 m s t b n=n:=by
 cases n with
 |zero=>rfl
 |succ n=>rw[XcI O,if_neg (h O)]
theorem Xjv{c:Nat}(h:c=0\/(a<n/\b<n)):lay s (o+Dm a n 2) c (cut s (o+Dm b n 2))=lay s (o+a*2) c (cut s (o+b*2)):=by
 rcases h with rfl|⟨d,e⟩
 ·funext i
  unfold lay
  rw[if_neg O,if_neg O]
 ·unfold Dm
  rw[if_neg O,if_neg O]
theorem EL{x:By}{m:Nat}(h:¬(o<=i/\i<o+m)):lay s o m x i=s i:=if_neg h
theorem XaW{b:By}(e:t<4)(g:VW s t<=11)(d:a<=VW s t):
 put (lay (lay s (42+t*24+Dm (a+1) 12 2) (((s (138+t)).toNat+1-(a+1))*2) (cut s (42+t*24+Dm a 12 2))) (42+t*24+a*2) 2 b) (138+t)
  (lay (lay s (42+t*24+Dm (a+1) 12 2) (((s (138+t)).toNat+1-(a+1))*2) (cut s (42+t*24+Dm a 12 2))) (42+t*24+a*2) 2 b (138+t)+1)=Xei s t a b:=by
 have c:VW s t=(s (138+t)).toNat:=rfl
 rw[Xjv O,show((s (138+t)).toNat+1-(a+1))*2=(VW s t-a)*2 by omega,EL O,EL O]
 rfl
theorem Xp0(n:UInt8)(s:By)(t:Nat)(g:By)(d:World)(p:t<4)(j:VW s t<=11):Calls prog 160 #[YtajfpcgbnflceaaGreatDoor.b8 n,.agg (bs 142 s).toArray,Ve (t:Int),.agg (bs 2 g).toArray] d λe y=>e=.returned (.agg (bs 142 (addP n s t g)).toArray)/\Below d.heap.size d y:=by
 have A:(s (138+t)).toNat<=11:=j
 have z:VW s t=(s (138+t)).toNat:=rfl
 have H:=Own.start d none
 refine VU func160 Z ntmps160 Z (λa F=>?_)
 refine gg 2 λa F=>?_
 refine Eo H F λv a w F H=>?_
 refine Eo H F λr a w F H=>?_
 refine Mj Lf H F λb8 a w F H=>?_
 refine gg 17 λa F=>?_
 refine cLoopS [0,2,5,7,8,9] (λm c w=>∃a:Nat,m=a/\c=[(10,Ve ((a:Nat):Int))]/\a<=VW s t/\J3 n s t (g 0) (VW s t)=J3 n s t (g 0) a/\Own d none w [.blk b8 (bs 142 zb) 85,.blk r (bs 2 g) 80,.blk v (bs 142 s) 85]) F (VW s t) [(10,Ve (((s (138+t)).toNat:Nat):Int))] ?_ ?_
 ·exact⟨VW s t,Z,Z,AI _,Z,H.sel [0,1,2] Z Z⟩
 clear F H;intro m c a w u F
 obtain⟨_,rfl,rfl,q,hs,H⟩:=u
 refine gg 2 λa F=>?_
 refine zRO H λH=>?_
 refine gg 3 λa F=>?_
 refine zSp 19 F (λo F=>?_) λo F=>?_
 ·
  refine gg 4 λa F=>?_
  refine zSp 23 F (λB F=>?_) λB F=>?_
  ·
   refine gg 6 λa F=>?_
   refine Xb 13 Z F Z (λw=>Xp7 (f:=0) Xx Z Xr Z Z F Z) H qq0 λa F=>?_
   refine gg 7 λa F=>zi (λb=>?_) λb=>?_
   ·
    refine gg 7 λa F=>?_
    exact⟨m-1,O,_,⟨m-1,Z,Z,O,by rw[hs,XcI O,if_pos ⟨by assumption,by assumption⟩],H.sel [0,1,2] Z Z⟩,F.tt⟩
   refine gg 2 λa F=>?_
   refine zRO H λH=>?_
   refine gg 7 λa F=>?_
   refine Xa (k:=7) (i:=7) Z F Z Z (λw H=>NN Xw Xv F Z Z Z ?_ ?_) H (λ_ _ _ h=>h) ?_
   focus(omega)
   focus(omega)
   clear F a;intro a F
   refine gg 5 λa F=>?_
   refine Xa (k:=13) (i:=13) Z F Z Z (λw H=>NN Xw Xv F Z Z Z ?_ ?_) H (λ_ _ _ h=>h) ?_
   focus(omega)
   focus(omega)
   clear F a;intro a F;refine Xd (k:=14) (i:=14) Z F (XiY H 2 X5 Xv F Z Z Z Z ?hm ?hd ?hs ?_)
   case hm=>omega
   case hd=>(unfold Dm;split<;>omega)
   case hs=>(unfold Dm;split<;>omega)
   clear F a H;intro a w F H
   refine gg 3 λa F=>?_
   refine zRO H λH=>?_
   refine gg 6 λa F=>?_
   refine Xd (k:=6) (i:=6) Z F (Xgq H 2 Xv F Z Z Z O λw H=>?_)
   refine gg 11 λa F=>?_
   refine Ct H 2 F λw H=>?_
   refine gg 4 λa F=>?_
   refine Gp H 0 F λw H=>?_
   rw[V3]at H
   refine gg 2 λa F=>?_
   refine J2 results160 F Z Xm Z Xp H 0 Z ?_
   refine⟨?_,H.below⟩
   clear F H
   rw[XaW p j q,addP,hs];rw[LV (λ_ h=>b h.2)]
  refine gg 13 λa F=>?_
  refine cIfF F Z ?_
  refine gg 2 λa F=>?_
  refine zRO H λH=>?_
  refine gg 7 λa F=>?_
  refine Xa (k:=7) (i:=7) Z F Z Z (λw H=>NN Xw Xv F Z Z Z ?_ ?_) H (λ_ _ _ h=>h) ?_
  focus(omega)
  focus(omega)
  clear F a;intro a F
  refine gg 5 λa F=>?_
  refine Xa (k:=13) (i:=13) Z F Z Z (λw H=>NN Xw Xv F Z Z Z ?_ ?_) H (λ_ _ _ h=>h) ?_
  focus(omega)
  focus(omega)
  clear F a;intro a F;refine Xd (k:=14) (i:=14) Z F (XiY H 2 X5 Xv F Z Z Z Z ?hm ?hd ?hs ?_)
  case hm=>omega
  case hd=>(unfold Dm;split<;>omega)
  case hs=>(unfold Dm;split<;>omega)
  clear F a H;intro a w F H
  refine gg 3 λa F=>?_
  refine zRO H λH=>?_
  refine gg 6 λa F=>?_
  refine Xd (k:=6) (i:=6) Z F (Xgq H 2 Xv F Z Z Z O λw H=>?_)
  refine gg 11 λa F=>?_
  refine Ct H 2 F λw H=>?_
  refine gg 4 λa F=>?_
  refine Gp H 0 F λw H=>?_
  rw[V3]at H
  refine gg 2 λa F=>?_
  refine J2 results160 F Z Xm Z Xp H 0 Z ?_
  refine⟨?_,H.below⟩
  clear F H
  rw[XaW p j q,addP,hs];rw[LV (λh=>absurd h O)]
 refine gg 17 λa F=>?_
 refine cIfF F Z ?_
 refine gg 2 λa F=>?_
 refine zRO H λH=>?_
 refine gg 7 λa F=>?_
 refine Xa (k:=7) (i:=7) Z F Z Z (λw H=>NN Xw Xv F Z Z Z ?_ ?_) H (λ_ _ _ h=>h) ?_
 focus(omega)
 focus(omega)
 clear F a;intro a F
 refine gg 5 λa F=>?_
 refine Xa (k:=13) (i:=13) Z F Z Z (λw H=>NN Xw Xv F Z Z Z ?_ ?_) H (λ_ _ _ h=>h) ?_
 focus(omega)
 focus(omega)
 clear F a;intro a F;refine Xd (k:=14) (i:=14) Z F (XiY H 2 X5 Xv F Z Z Z Z ?hm ?hd ?hs ?_)
 case hm=>omega
 case hd=>(unfold Dm;split<;>omega)
 case hs=>(unfold Dm;split<;>omega)
 clear F a H;intro a w F H
 refine gg 3 λa F=>?_
 refine zRO H λH=>?_
 refine gg 6 λa F=>?_
 refine Xd (k:=6) (i:=6) Z F (Xgq H 2 Xv F Z Z Z O λw H=>?_)
 refine gg 11 λa F=>?_
 refine Ct H 2 F λw H=>?_
 refine gg 4 λa F=>?_
 refine Gp H 0 F λw H=>?_
 rw[V3]at H
 refine gg 2 λa F=>?_
 refine J2 results160 F Z Xm Z Xp H 0 Z ?_
 refine⟨?_,H.below⟩
 clear F H
 rw[XaW p j q,addP,hs];rw[LV (λ_ h=>o h.1)]
theorem Xkb{b:UInt8}{f:Nat}(h:m=3/\UD s t i≠b):Qi m s t b (f+1) i=Qi m s t b f (i+1):=by rw[Qi,if_pos h]
theorem DY{b:UInt8}{f:Nat}(h:¬(m=3/\UD s t i≠b)):Qi m s t b f i=i:=by
 cases f with
 |zero=>rfl
 |succ f=>rw[Qi,if_neg h]
theorem Cj(d:t<4)(e:VW s t<=12)(c:a<VW s t):
 put (put (lay (lay s (42+t*24+Dm a 12 2) (((s (138+t)).toNat-1-a)*2) (cut s (42+t*24+Dm (a+1) 12 2))) (42+t*24+((s (138+t)).toNat-1)*2) 2 zb) (138+t)
  (lay (lay s (42+t*24+Dm a 12 2) (((s (138+t)).toNat-1-a)*2) (cut s (42+t*24+Dm (a+1) 12 2))) (42+t*24+((s (138+t)).toNat-1)*2) 2 zb (138+t)-1))
  (36+(cut s (42+t*24+a*2) 0).toNat) (cut s (42+t*24+a*2) 1)=UJ s t a:=by
 have b:VW s t=(s (138+t)).toNat:=rfl
 rw[Xjv O,EL O,EL O]
 rfl
theorem Xj9(c:UInt8)(s:By)(x:Pss)(t:Nat)(o:World)(R:x.t.toNat=t)(G:t<4)(E:0<VW s t)(J:VW s t<=12)(C:∀i,i<VW s t->(UD s t i).toNat<6)(B:c=3->∃i,i<VW s t/\UD s t i=x.l):
 Calls prog 157 #[YtajfpcgbnflceaaGreatDoor.b8 c,.agg (bs 142 s).toArray,.agg x.cells.toArray] o λe L=>e=.returned (.agg (bs 142 (MY c s t x.l)).toArray)/\Below o.heap.size o L:=by
 subst R
 have P:VW s x.t.toNat=(s (138+x.t.toNat)).toNat:=rfl
 have H:=Own.start o none
 refine VU func157 Z ntmps157 Z (λa F=>?_)
 refine gg 2 λa F=>?_
 refine Eo H F λQ a w F H=>?_
 refine zBx H F λK a w F H=>?_
 refine Mj Lf H F λM a w F H=>?_
 refine gg 19 λa F=>?_
 refine cLoopS [0,4,5,6,7,8] (λm j w=>∃(a f:Nat),m=VW s x.t.toNat-a/\j=[(9,Ve ((a:Nat):Int))]/\a<VW s x.t.toNat/\a+f=VW s x.t.toNat/\Na c s x.t.toNat x.l=Qi c s x.t.toNat x.l f a/\(c=3->∃i,a<=i/\i<VW s x.t.toNat/\UD s x.t.toNat i=x.l)/\Own o none w [.blk M (bs 142 zb) 85,.blk K x.cells 117,.blk Q (bs 142 s) 85]) F (VW s x.t.toNat) [(9,Ve ((0:Nat):Int))] ?_ ?_
 ·exact⟨0,VW s x.t.toNat,Z,Z,E,O,Z,λh=>by obtain⟨i,u,r⟩:=B h;exact⟨i,O,u,r⟩,H.sel [0,1,2] Z Z⟩
 clear F H;intro m j a w N F
 obtain⟨g,f,rfl,rfl,D,T,hs,v,H⟩:=N
 obtain⟨f,rfl⟩:∃q,f=q+1:=⟨f-1,O⟩
 have d:=C g D
 have S:(cut s (42+x.t.toNat*24+g*2) 0).toNat<6:=d
 refine gg 2 λa F=>?_
 refine zRO H λH=>?_
 refine gg 3 λa F=>?_
 refine zSp 20 F (λA F=>?_) λA F=>?_
 ·
  refine gg 5 λa F=>?_
  refine Xb 8 Z F Z (λw=>Xp7 (f:=0) Xx Z Xr Z Z F Z) H qq0 λa F=>?_
  refine gg 7 λa F=>zi (λp=>?_) λp=>?_
  ·
   refine gg 7 λa F=>?_
   (have b:c=3/\UD s x.t.toNat g≠x.l:=⟨by assumption,by assumption⟩
    have n:∃i,g+1<=i/\i<VW s x.t.toNat/\UD s x.t.toNat i=x.l:=by
     obtain⟨i,u,r,I⟩:=v b.1
     rcases Nat.eq_or_lt_of_le u with e|e
     ·subst e;exact absurd I b.2
     ·exact⟨i,e,r,I⟩
    have y:g+1<VW s x.t.toNat:=by obtain⟨i,u,r,_⟩:=n;omega
    exact⟨_,O,_,⟨g+1,f,Z,Z,y,O,by rw[hs,Xkb b],λ_=>n,H.sel [0,1,2] Z Z⟩,F.tt⟩)
  refine gg 9 λa F=>?_
  refine Mj Xhk H F λz a w F H=>?_
  refine Gp H 0 F λw H=>?_
  rw[V3]at H
  refine gg 2 λa F=>?_
  refine zRO H λH=>?_
  refine gg 6 λa F=>?_
  refine Xa (k:=6) (i:=6) Z F Z Z (λw H=>NN Xw Xv F Z Z Z ?_ ?_) H (λ_ _ _ h=>h) ?_
  focus(omega)
  focus(omega)
  clear F a;intro a F
  refine gg 6 λa F=>?_
  refine Xa (k:=13) (i:=13) Z F Z Z (λw H=>NN Xw Xv F Z Z Z ?_ ?_) H (λ_ _ _ h=>h) ?_
  focus(omega)
  focus(omega)
  clear F a;intro a F;refine Xd (k:=14) (i:=14) Z F (XiY H 3 X5 Xv F Z Z Z Z ?hm ?hd ?hs ?_)
  case hm=>omega
  case hd=>(unfold Dm;split<;>omega)
  case hs=>(unfold Dm;split<;>omega)
  clear F a H;intro a w F H
  refine gg 7 λa F=>?_
  refine Xin (places:=[(0,1),(1,1)]) Xhk Xx Y F Z Z Z FillB.nil λa F=>?_
  refine gg 3 λa F=>?_
  refine Gp H 3 F λw H=>?_
  refine gg 10 λa F=>?_
  refine Ct H 3 F λw H=>?_
  refine gg 8 λa F=>?_
  refine sIa1 XC Xr F Z Z Z Z ?_ ?_
  focus exact d
  clear F a;intro a F
  refine Ct H 3 F λw H=>?_
  refine gg 4 λa F=>?_
  refine Gp H 1 F λw H=>?_
  rw[V3]at H
  refine gg 2 λa F=>?_
  refine J2 results157 F Z Xm Z Xp H 1 Z ?_
  refine⟨?_,H.below⟩
  clear F H
  rw[Cj G J D,MY,hs];rw[DY (λh=>h.2 p)]
 refine gg 12 λa F=>?_
 refine cIfF F Z ?_
 refine gg 9 λa F=>?_
 refine Mj Xhk H F λz a w F H=>?_
 refine Gp H 0 F λw H=>?_
 rw[V3]at H
 refine gg 2 λa F=>?_
 refine zRO H λH=>?_
 refine gg 6 λa F=>?_
 refine Xa (k:=6) (i:=6) Z F Z Z (λw H=>NN Xw Xv F Z Z Z ?_ ?_) H (λ_ _ _ h=>h) ?_
 focus(omega)
 focus(omega)
 clear F a;intro a F
 refine gg 6 λa F=>?_
 refine Xa (k:=13) (i:=13) Z F Z Z (λw H=>NN Xw Xv F Z Z Z ?_ ?_) H (λ_ _ _ h=>h) ?_
 focus(omega)
 focus(omega)
 clear F a;intro a F;refine Xd (k:=14) (i:=14) Z F (XiY H 3 X5 Xv F Z Z Z Z ?hm ?hd ?hs ?_)
 case hm=>omega
 case hd=>(unfold Dm;split<;>omega)
 case hs=>(unfold Dm;split<;>omega)
 clear F a H;intro a w F H
 refine gg 7 λa F=>?_
 refine Xin (places:=[(0,1),(1,1)]) Xhk Xx Y F Z Z Z FillB.nil λa F=>?_
 refine gg 3 λa F=>?_
 refine Gp H 3 F λw H=>?_
 refine gg 10 λa F=>?_
 refine Ct H 3 F λw H=>?_
 refine gg 8 λa F=>?_
 refine sIa1 XC Xr F Z Z Z Z ?_ ?_
 focus exact d
 clear F a;intro a F
 refine Ct H 3 F λw H=>?_
 refine gg 4 λa F=>?_
 refine Gp H 1 F λw H=>?_
 rw[V3]at H
 refine gg 2 λa F=>?_
 refine J2 results157 F Z Xm Z Xp H 1 Z ?_
 refine⟨?_,H.below⟩
 clear F H
 rw[Cj G J D,MY,hs];rw[DY (λh=>A h.1)]
theorem Xgu{l:List Ins}(b:p.threads[t]?=some l)(h:l.length<=(s (t*9)).toNat):NE p s t=none:=by
 unfold NE;rw[b];exact AV h
theorem Xcf(z:List Value)(p:Prg)(j:World)(J:ProgAt j z p)(y:UInt8)(s:By)(t:Nat)(l:List Ins)(M:t<4)(o:p.threads[t]?=some l):
 Calls prog 155 #[.agg z.toArray,YtajfpcgbnflceaaGreatDoor.b8 y,.agg (bs 142 s).toArray,Ve (t:Int)] j λe B=>e=.returned (.bool (Ud p y s t))/\Below j.heap.size j B:=by
 have H:=Own.start j none
 obtain⟨R,LC,P,X,TA,Q,h,D,u⟩:=J
 obtain⟨S,V,c3,c4,c5,rfl⟩:=Xa2 (Uk u.cond)
 have v:=u.cs
 subst v
 obtain⟨bT,N,BT,T,rfl,G,r,I⟩:=u.threads t l o
 have E:t<p.threads.length:=(AB.1 o).1
 refine VU func155 Z ntmps155 Z (λa F=>?_)
 refine gg 2 λa F=>?_
 refine zBx H F λb4 a w F H=>?_
 refine Eo H F λL a w F H=>?_
 refine gg 6 λa F=>?_
 refine Xa1 Xs Xo F Z Z Z Z ?_ ?_
 focus(omega)
 clear F a;intro a F;refine XqT (f:=0) Xn Z Xr Z Z F Z Z Z λa F=>?_
 refine gg 17 λa F=>zi (λq=>?_) λq=>?_
 ·
  have b:=Xgu (s:=s) o O
  refine gg 6 λa F=>?_
  exact⟨by(rw[Ud,b];done),H.below⟩
 obtain⟨x,A⟩:∃x,l[(s (t*9)).toNat]?=some x:=⟨_,AA O⟩
 have n:(s (t*9)).toNat<l.length:=O
 obtain⟨K,U,rfl,W⟩:=r (s (t*9)).toNat x.cells (by rw[AD,A];rfl)
 have b:=Xe9 o A
 refine gg 9 λa F=>?_
 refine sIx Yh XA F Z Z Z Z ?_ ?_
 focus exact n
 clear F a;intro a F
 refine gg 1 λa F=>?_
 refine zAl XW H F λC a w F H=>?_
 refine sSr H 0 ?si F Z Z Z ?s1 Z Z ?_
 case si=>exact VT XA
 case s1=>rfl
 clear H;intro w H
 refine gg 15 λa F=>zi (λd=>?_) λd=>?_
 ·
  refine gg 2 λa F=>zi (λd=>?_) λd=>?_
  ·
   refine gg 11 λa F=>?_
   exact⟨by(rw[Ud,b];simp_all[Gh]),H.below⟩
  refine gg 6 λa F=>zi (λg=>?_) λg=>?_
  ·
   refine gg 6 λa F=>?_
   refine zSp 50 F (λm F=>?_) λm F=>?_
   ·
    refine gg 25 λa F=>?_
    exact⟨by(rw[Ud,b];simp_all[Gh]),H.below⟩
   refine gg 3 λa F=>?_
   refine zSp 53 F (λi F=>?_) λi F=>?_
   ·
    refine gg 12 λa F=>?_
    refine zSp 61 F (λc F=>?_) λc F=>?_
    ·
     replace c:=beqF c
     refine gg 10 λa F=>?_
     exact⟨by(rw[Ud,b];simp_all[Gh]),H.below⟩
    replace c:=beqT c
    refine gg 10 λa F=>?_
    exact⟨by(rw[Ud,b];simp_all[Gh]),H.below⟩
   refine gg 22 λa F=>?_
   exact⟨by(rw[Ud,b];simp_all[Gh]),H.below⟩
  refine gg 7 λa F=>?_
  exact⟨by(rw[Ud,b];simp_all[Gh]),H.below⟩
 refine gg 6 λa F=>zi (λd=>?_) λd=>?_
 ·
  refine gg 2 λa F=>zi (λd=>?_) λd=>?_
  ·
   refine gg 11 λa F=>?_
   exact⟨by(rw[Ud,b];simp_all[Gh]),H.below⟩
  refine gg 6 λa F=>zi (λg=>?_) λg=>?_
  ·
   refine gg 6 λa F=>?_
   refine zSp 50 F (λm F=>?_) λm F=>?_
   ·
    refine gg 25 λa F=>?_
    exact⟨by(rw[Ud,b];simp_all[Gh]),H.below⟩
   refine gg 3 λa F=>?_
   refine zSp 53 F (λi F=>?_) λi F=>?_
   ·
    refine gg 12 λa F=>?_
    refine zSp 61 F (λc F=>?_) λc F=>?_
    ·
     replace c:=beqF c
     refine gg 10 λa F=>?_
     exact⟨by(rw[Ud,b];simp_all[Gh]),H.below⟩
    replace c:=beqT c
    refine gg 10 λa F=>?_
    exact⟨by(rw[Ud,b];simp_all[Gh]),H.below⟩
   refine gg 22 λa F=>?_
   exact⟨by(rw[Ud,b];simp_all[Gh]),H.below⟩
  refine gg 7 λa F=>?_
  exact⟨by(rw[Ud,b];simp_all[Gh]),H.below⟩
 refine gg 5 λa F=>zi (λd=>?_) λd=>?_
 ·
  refine gg 11 λa F=>?_
  exact⟨by(rw[Ud,b];simp_all[Gh]),H.below⟩
 refine gg 6 λa F=>zi (λg=>?_) λg=>?_
 ·
  refine gg 6 λa F=>?_
  refine zSp 50 F (λm F=>?_) λm F=>?_
  ·
   refine gg 25 λa F=>?_
   exact⟨by(rw[Ud,b];simp_all[Gh]),H.below⟩
  refine gg 3 λa F=>?_
  refine zSp 53 F (λi F=>?_) λi F=>?_
  ·
   refine gg 12 λa F=>?_
   refine zSp 61 F (λc F=>?_) λc F=>?_
   ·
    replace c:=beqF c
    refine gg 10 λa F=>?_
    exact⟨by(rw[Ud,b];simp_all[Gh]),H.below⟩
   replace c:=beqT c
   refine gg 10 λa F=>?_
   exact⟨by(rw[Ud,b];simp_all[Gh]),H.below⟩
  refine gg 22 λa F=>?_
  exact⟨by(rw[Ud,b];simp_all[Gh]),H.below⟩
 refine gg 7 λa F=>?_
 exact⟨by(rw[Ud,b];simp_all[Gh]),H.below⟩
theorem Xbk:same 2 (cut (cut s (42+t*24)) (j*2)) zb=(UD s t j==0&&QL s t j==0):=by
 rw[HE,same_iff,AJ,beq_iff_eq,beq_iff_eq]
 refine⟨λh=>⟨h 0 O,h 1 O⟩,λh i b=>?_⟩
 match i,b with
 |0,_=>exact h.1
 |1,_=>exact h.2
 |i+2,b=>omega
theorem Xde(h:VW s t<=j)(b:same 2 (cut (cut s (42+t*24)) (j*2)) zb=true):Uy p m s t j=true:=by
 unfold Uy;rw[if_pos h,<-Xbk];exact b
theorem CG(h:VW s t<=j)(b:same 2 (cut (cut s (42+t*24)) (j*2)) zb=false):Uy p m s t j=false:=by
 unfold Uy;rw[if_pos h,<-Xbk];exact b
theorem Qu(h:¬VW s t<=j)(g:¬(p.locs.length:Int)<=((UD s t j).toNat:Int))(d:¬(m=3/\0<j/\UD s t j<UD s t (j-1))):Uy p m s t j=true:=by
 unfold Uy
 rw[if_neg h]
 simp only[AJ,decide_eq_true_eq,Bool.not_eq_true',HG,beq_eq_false_iff_ne,decide_eq_false_iff_not]
 refine⟨O,?_⟩
 by_cases c:m=3
 ·by_cases b:0<j
  ·exact .inr (λe=>d ⟨c,b,e⟩)
  ·exact .inl (.inr b)
 ·exact .inl (.inl c)
theorem CF(h:¬VW s t<=j)(b:(p.locs.length:Int)<=((UD s t j).toNat:Int)):Uy p m s t j=false:=by
 unfold Uy
 rw[if_neg h,decide_eq_false O,Hu]
theorem CE(h:¬VW s t<=j)(b:m=3)(c:0<j)(d:UD s t j<UD s t (j-1)):Uy p m s t j=false:=by
 unfold Uy
 rw[if_neg h,decide_eq_true c,decide_eq_true d,b]
 simp
theorem U9{b:Bool}(h:Qg p m s t=b):Ending.returned (.bool b)=.returned (.bool (Qg p m s t)):=by rw[h]
theorem DH(h:¬VW s t<=J0 p m s t):Qg p m s t=false:=by rw[Qg,decide_eq_false h];rfl
theorem Xap(h:VW s t<=J0 p m s t)(b:∀i,i<12->Uy p m s t i=true):Qg p m s t=true:=by rw[Qg,decide_eq_true h,Ld b];rfl
theorem QD(b:j<12)(h:Uy p m s t j=false):Qg p m s t=false:=by rw[Qg,Nz b h,Bool.and_false]
theorem Xmo(cs:List Value)(p:Prg)(C:World)(hP:ProgAt C cs p)(g:UInt8)(s:By)(t:Nat)(ht:t<4):
   Calls prog 154 #[.agg cs.toArray,YtajfpcgbnflceaaGreatDoor.b8 g,.agg (bs 142 s).toArray,Ve (t:Int)] C λe w'=>e=.returned (.bool (Qg p g s t))/\Below C.heap.size C w':=by
 have H:=Own.start C none
 obtain⟨N,LC,L,R,X,M,h,a1,hp⟩:=hP
 obtain⟨P,Q,S,c4,U,rfl⟩:=Xa2 (Uk hp.cond)
 have V:=hp.cs
 subst V
 have a2:VW s t=(s (138+t)).toNat:=rfl
 refine VU func154 Z ntmps154 Z (λa F=>?_)
 refine gg 2 λa F=>?_
 refine zBx H F λT a w F H=>?_
 refine Eo H F λK a w F H=>?_
 refine gg 3 λa F=>?_
 refine zRO H λH=>?_
 refine gg 14 λa F=>?_
 refine zSp 20 F (λE F=>?_) λE F=>?_
 ·
  refine gg 8 λa F=>zi (λW=>?_) λW=>?_
  ·
   have v:J0 p g s t=(s (t*9)).toNat:=if_pos ⟨E,O⟩
   refine gg 3 λa F=>?_
   refine Xa1 Xs Xo F Z Z Z Z ?_ ?_
   focus(omega)
   clear F a;intro a F;refine XqT (f:=0) Xn Z Xr Z Z F Z Z Z λa F=>?_
   refine gg 12 λa F=>zi (λz=>?_) λz=>?_
   ·
    have o:¬VW s t<=J0 p g s t:=by rw[v];omega
    refine gg 6 λa F=>?_
    refine⟨?_,H.below⟩
    clear F H
    exact U9 (DH o)
   have o:VW s t<=J0 p g s t:=by rw[v];omega
   refine gg 11 λa F=>?_
   refine cLoopS [1,3,4,6,10,39] (λm r w=>∃j:Nat,m=12-j/\r=[(40,Ve ((j:Nat):Int))]/\j<=12/\(∀i,i<j->Uy p g s t i=true)/\Own C none w [.blk K (bs 142 s) 85,.blk T ([.string p.name,.slice N p.locs.length LC,.slice L p.init.length R,.slice X p.threads.length M,b8 p.ask]++[P,Q,S,c4,U]) 29]) F (12) [(40,Ve ((0:Nat):Int))] ?_ ?_
   ·exact⟨0,Z,Z,O,λi I=>absurd I O,H.sel [0,1] Z Z⟩
   clear F H;intro m r a w G F
   obtain⟨j,rfl,rfl,hj,d,H⟩:=G
   refine gg 6 λa F=>zi (λB=>?_) λB=>?_
   ·
    refine gg 6 λa F=>?_
    refine XqR Xw Xv isAgg80 F Z Z Z Z ?_ ?_ ?_
    focus omega
    focus omega
    clear F a;intro a F
    refine Mj Xhk H F λJ a w F H=>?_
    refine gg 1 λa F=>?_
    refine Gp H 0 F λw H=>?_
    rw[V3]at H
    refine gg 9 λa F=>zi (λA=>?_) λA=>?_
    ·
     refine gg 4 λa F=>?_
     refine Xin (places:=[(0,1),(1,1)]) Xhk Xx Y F Z Z Z FillB.nil (Ei Z Z Z Z (Xqg eT80 gT80 Z) λa F=>?_)
     refine gg 2 λa F=>zi (λn=>?_) λn=>?_
     ·
      refine gg 6 λa F=>?_
      refine⟨?_,H.below⟩
      clear F H
      exact U9 (QD (show j<12 by omega) (CG O n))
     refine gg 6 λa F=>?_
     (have b:Uy p g s t j=true:=by
       exact Xde O n
      exact⟨_,O,_,⟨j+1,Z,Z,O,Ui d b,H.sel [1,2] Z Z⟩,F.tt⟩)
    refine gg 13 λa F=>zi (λc=>?_) λc=>?_
    ·
     refine gg 6 λa F=>?_
     refine⟨?_,H.below⟩
     clear F H
     exact U9 (QD (show j<12 by omega) (CF O c))
    refine gg 2 λa F=>?_
    refine zRO H λH=>?_
    refine gg 3 λa F=>?_
    refine zSp 59 F (λu F=>?_) λu F=>?_
    ·
     refine gg 4 λa F=>?_
     refine zSp 63 F (λD F=>?_) λD F=>?_
     ·
      refine gg 6 λa F=>?_
      refine Xb 13 Z F Z (λw=>Xp7 (f:=0) Xx Z Xr Z Z F Z) H qq0 λa F=>?_
      refine gg 7 λa F=>zi (λq=>?_) λq=>?_
      ·
       refine gg 6 λa F=>?_
       refine⟨?_,H.below⟩
       clear F H
       exact U9 (QD (show j<12 by omega) (CE O u O q))
      refine gg 5 λa F=>?_
      (have b:Uy p g s t j=true:=by
        exact Qu O c (λy=>q y.2.2)
       exact⟨_,O,_,⟨j+1,Z,Z,O,Ui d b,H.sel [1,2] Z Z⟩,F.tt⟩)
     refine gg 13 λa F=>?_
     refine cIfF F Z ?_
     refine gg 5 λa F=>?_
     (have b:Uy p g s t j=true:=by
       exact Qu O c (λy=>absurd y.2.1 O)
      exact⟨_,O,_,⟨j+1,Z,Z,O,Ui d b,H.sel [1,2] Z Z⟩,F.tt⟩)
    refine gg 17 λa F=>?_
    refine cIfF F Z ?_
    refine gg 5 λa F=>?_
    (have b:Uy p g s t j=true:=by
      exact Qu O c (λy=>u y.1)
     exact⟨_,O,_,⟨j+1,Z,Z,O,Ui d b,H.sel [1,2] Z Z⟩,F.tt⟩)
   obtain rfl:j=12:=O
   refine gg 7 λa F=>?_
   refine⟨?_,H.below⟩
   clear F H
   exact U9 (Xap o d)
  have v:J0 p g s t=0:=if_neg (λh=>O)
  refine gg 9 λa F=>zi (λz=>?_) λz=>?_
  ·
   have o:¬VW s t<=J0 p g s t:=by rw[v];omega
   refine gg 6 λa F=>?_
   refine⟨?_,H.below⟩
   clear F H
   exact U9 (DH o)
  have o:VW s t<=J0 p g s t:=by rw[v];omega
  refine gg 11 λa F=>?_
  refine cLoopS [1,3,4,6,10,39] (λm r w=>∃j:Nat,m=12-j/\r=[(40,Ve ((j:Nat):Int))]/\j<=12/\(∀i,i<j->Uy p g s t i=true)/\Own C none w [.blk K (bs 142 s) 85,.blk T ([.string p.name,.slice N p.locs.length LC,.slice L p.init.length R,.slice X p.threads.length M,b8 p.ask]++[P,Q,S,c4,U]) 29]) F (12) [(40,Ve ((0:Nat):Int))] ?_ ?_
  ·exact⟨0,Z,Z,O,λi I=>absurd I O,H.sel [0,1] Z Z⟩
  clear F H;intro m r a w G F
  obtain⟨j,rfl,rfl,hj,d,H⟩:=G
  refine gg 6 λa F=>zi (λB=>?_) λB=>?_
  ·
   refine gg 6 λa F=>?_
   refine XqR Xw Xv isAgg80 F Z Z Z Z ?_ ?_ ?_
   focus omega
   focus omega
   clear F a;intro a F
   refine Mj Xhk H F λJ a w F H=>?_
   refine gg 1 λa F=>?_
   refine Gp H 0 F λw H=>?_
   rw[V3]at H
   refine gg 9 λa F=>zi (λA=>?_) λA=>?_
   ·
    refine gg 4 λa F=>?_
    refine Xin (places:=[(0,1),(1,1)]) Xhk Xx Y F Z Z Z FillB.nil (Ei Z Z Z Z (Xqg eT80 gT80 Z) λa F=>?_)
    refine gg 2 λa F=>zi (λn=>?_) λn=>?_
    ·
     refine gg 6 λa F=>?_
     refine⟨?_,H.below⟩
     clear F H
     exact U9 (QD (show j<12 by omega) (CG O n))
    refine gg 6 λa F=>?_
    (have b:Uy p g s t j=true:=by
      exact Xde O n
     exact⟨_,O,_,⟨j+1,Z,Z,O,Ui d b,H.sel [1,2] Z Z⟩,F.tt⟩)
   refine gg 13 λa F=>zi (λc=>?_) λc=>?_
   ·
    refine gg 6 λa F=>?_
    refine⟨?_,H.below⟩
    clear F H
    exact U9 (QD (show j<12 by omega) (CF O c))
   refine gg 2 λa F=>?_
   refine zRO H λH=>?_
   refine gg 3 λa F=>?_
   refine zSp 59 F (λu F=>?_) λu F=>?_
   ·
    refine gg 4 λa F=>?_
    refine zSp 63 F (λD F=>?_) λD F=>?_
    ·
     refine gg 6 λa F=>?_
     refine Xb 13 Z F Z (λw=>Xp7 (f:=0) Xx Z Xr Z Z F Z) H qq0 λa F=>?_
     refine gg 7 λa F=>zi (λq=>?_) λq=>?_
     ·
      refine gg 6 λa F=>?_
      refine⟨?_,H.below⟩
      clear F H
      exact U9 (QD (show j<12 by omega) (CE O u O q))
     refine gg 5 λa F=>?_
     (have b:Uy p g s t j=true:=by
       exact Qu O c (λy=>absurd y.2.1 O)
      exact⟨_,O,_,⟨j+1,Z,Z,O,Ui d b,H.sel [1,2] Z Z⟩,F.tt⟩)
    refine gg 13 λa F=>?_
    refine cIfF F Z ?_
    refine gg 5 λa F=>?_
    (have b:Uy p g s t j=true:=by
      exact Qu O c (λy=>absurd y.2.1 O)
     exact⟨_,O,_,⟨j+1,Z,Z,O,Ui d b,H.sel [1,2] Z Z⟩,F.tt⟩)
   refine gg 17 λa F=>?_
   refine cIfF F Z ?_
   refine gg 5 λa F=>?_
   (have b:Uy p g s t j=true:=by
     exact Qu O c (λy=>u y.1)
    exact⟨_,O,_,⟨j+1,Z,Z,O,Ui d b,H.sel [1,2] Z Z⟩,F.tt⟩)
  obtain rfl:j=12:=O
  refine gg 7 λa F=>?_
  refine⟨?_,H.below⟩
  clear F H
  exact U9 (Xap o d)
 have v:J0 p g s t=0:=if_neg (λh=>h.1 E)
 refine gg 7 λa F=>?_
 refine cIfF F Z ?_
 refine gg 9 λa F=>zi (λz=>?_) λz=>?_
 ·
  have o:¬VW s t<=J0 p g s t:=by rw[v];omega
  refine gg 6 λa F=>?_
  refine⟨?_,H.below⟩
  clear F H
  exact U9 (DH o)
 have o:VW s t<=J0 p g s t:=by rw[v];omega
 refine gg 11 λa F=>?_
 refine cLoopS [1,3,4,6,10,39] (λm r w=>∃j:Nat,m=12-j/\r=[(40,Ve ((j:Nat):Int))]/\j<=12/\(∀i,i<j->Uy p g s t i=true)/\Own C none w [.blk K (bs 142 s) 85,.blk T ([.string p.name,.slice N p.locs.length LC,.slice L p.init.length R,.slice X p.threads.length M,b8 p.ask]++[P,Q,S,c4,U]) 29]) F (12) [(40,Ve ((0:Nat):Int))] ?_ ?_
 ·exact⟨0,Z,Z,O,λi I=>absurd I O,H.sel [0,1] Z Z⟩
 clear F H;intro m r a w G F
 obtain⟨j,rfl,rfl,hj,d,H⟩:=G
 refine gg 6 λa F=>zi (λB=>?_) λB=>?_
 ·
  refine gg 6 λa F=>?_
  refine XqR Xw Xv isAgg80 F Z Z Z Z ?_ ?_ ?_
  focus omega
  focus omega
  clear F a;intro a F
  refine Mj Xhk H F λJ a w F H=>?_
  refine gg 1 λa F=>?_
  refine Gp H 0 F λw H=>?_
  rw[V3]at H
  refine gg 9 λa F=>zi (λA=>?_) λA=>?_
  ·
   refine gg 4 λa F=>?_
   refine Xin (places:=[(0,1),(1,1)]) Xhk Xx Y F Z Z Z FillB.nil (Ei Z Z Z Z (Xqg eT80 gT80 Z) λa F=>?_)
   refine gg 2 λa F=>zi (λn=>?_) λn=>?_
   ·
    refine gg 6 λa F=>?_
    refine⟨?_,H.below⟩
    clear F H
    exact U9 (QD (show j<12 by omega) (CG O n))
   refine gg 6 λa F=>?_
   (have b:Uy p g s t j=true:=by
     exact Xde O n
    exact⟨_,O,_,⟨j+1,Z,Z,O,Ui d b,H.sel [1,2] Z Z⟩,F.tt⟩)
  refine gg 13 λa F=>zi (λc=>?_) λc=>?_
  ·
   refine gg 6 λa F=>?_
   refine⟨?_,H.below⟩
   clear F H
   exact U9 (QD (show j<12 by omega) (CF O c))
  refine gg 2 λa F=>?_
  refine zRO H λH=>?_
  refine gg 3 λa F=>?_
  refine zSp 59 F (λu F=>?_) λu F=>?_
  ·
   refine gg 4 λa F=>?_
   refine zSp 63 F (λD F=>?_) λD F=>?_
   ·
    refine gg 6 λa F=>?_
    refine Xb 13 Z F Z (λw=>Xp7 (f:=0) Xx Z Xr Z Z F Z) H qq0 λa F=>?_
    refine gg 7 λa F=>zi (λq=>?_) λq=>?_
    ·
     refine gg 6 λa F=>?_
     refine⟨?_,H.below⟩
     clear F H
     exact U9 (QD (show j<12 by omega) (CE O u O q))
    refine gg 5 λa F=>?_
    (have b:Uy p g s t j=true:=by
      exact Qu O c (λy=>absurd y.2.1 O)
     exact⟨_,O,_,⟨j+1,Z,Z,O,Ui d b,H.sel [1,2] Z Z⟩,F.tt⟩)
   refine gg 13 λa F=>?_
   refine cIfF F Z ?_
   refine gg 5 λa F=>?_
   (have b:Uy p g s t j=true:=by
     exact Qu O c (λy=>absurd y.2.1 O)
    exact⟨_,O,_,⟨j+1,Z,Z,O,Ui d b,H.sel [1,2] Z Z⟩,F.tt⟩)
  refine gg 17 λa F=>?_
  refine cIfF F Z ?_
  refine gg 5 λa F=>?_
  (have b:Uy p g s t j=true:=by
    exact Qu O c (λy=>u y.1)
   exact⟨_,O,_,⟨j+1,Z,Z,O,Ui d b,H.sel [1,2] Z Z⟩,F.tt⟩)
 obtain rfl:j=12:=O
 refine gg 7 λa F=>?_
 refine⟨?_,H.below⟩
 clear F H
 exact U9 (Xap o d)
theorem Nk{b:Bool}(h:JQ p m s=b):Ending.returned (.bool b)=.returned (.bool (JQ p m s)):=by rw[h]
theorem Xq0(h:Gb m=false):JQ p m s=false:=by rw[JQ,h];rfl
theorem XqZ(h:UC p (Gc s)=false):JQ p m s=false:=by rw[JQ,h,Bool.and_false];rfl
theorem XqY(b:j<4)(h:Qg p m s j=false):JQ p m s=false:=by rw[JQ,Nz b h,Bool.and_false]
theorem XqX(b:Gb m=true)(c:UC p (Gc s)=true)(d:∀i,i<4->Qg p m s i=true):JQ p m s=true:=by rw[JQ,b,c,Ld d];rfl
theorem Xgf(v:List Value)(p:Prg)(c:World)(t:ProgAt c v p)(L:NeedsAt c)(n:UInt8)(s:By):
 Calls prog 88 #[.agg v.toArray,YtajfpcgbnflceaaGreatDoor.b8 n,.agg (bs 142 s).toArray] c λe B=>e=.returned (.bool (JQ p n s))/\Below c.heap.size c B:=by
 have H:=Own.start c none
 obtain⟨D,y,z,M,J,G,E,d8,N,u,rfl⟩:=t.len10
 refine VU func88 Z ntmps88 Z (λa F=>?_)
 refine gg 2 λa F=>?_
 refine zBx H F λC a w F H=>?_
 refine Eo H F λA a w F H=>?_
 refine gg 4 λa F=>?_
 refine zRO H λH=>?_
 refine gg 1 λa F=>?_
 refine zEc 1 F (Xjx n _) H λa w F H=>?_
 refine gg 3 λa F=>?_
 refine zSp 11 F (λo F=>?_) λo F=>?_
 ·
  refine gg 7 λa F=>?_
  refine cIfT F Z ?_
  refine gg 6 λa F=>?_
  refine⟨?_,H.below⟩
  clear F H
  exact Nk (Xq0 o)
 refine gg 2 λa F=>?_
 refine zEc 6 F (QF s _) H λa w F H=>?_
 refine V6 H ?_
 refine zEc 7 F (BV _ p _ (t.own H) (L.own H) (Gc s)) H λa w F H=>?_
 refine gg 5 λa F=>zi (λb=>?_) λb=>?_
 ·
  refine gg 6 λa F=>?_
  refine⟨?_,H.below⟩
  clear F H
  exact Nk (XqZ b)
 refine gg 7 λa F=>?_
 refine cLoopS [1,3,5] (λm g w=>∃j:Nat,m=4-j/\g=[(18,Ve ((j:Nat):Int))]/\j<=4/\(∀i,i<j->Qg p n s i=true)/\Own c none w [.blk A (bs 142 s) 85,.blk C [D,y,z,M,J,G,E,d8,N,u] 29]) F (4) [(18,Ve ((0:Nat):Int))] ?_ ?_
 ·exact⟨0,Z,Z,O,λi K=>absurd K O,H.sel [0,1] Z Z⟩
 clear F H;intro m g a w I F
 obtain⟨j,rfl,rfl,P,q,H⟩:=I
 refine gg 6 λa F=>zi (λr=>?_) λr=>?_
 ·
  refine gg 14 λa F=>?_
  refine zCa F (Xmo _ p _ (t.own H) n s j O) H λa w F H=>?_
  refine gg 3 λa F=>zi (λd=>?_) λd=>?_
  ·
   refine gg 6 λa F=>?_
   refine⟨?_,H.below⟩
   clear F H
   exact Nk (XqY (show j<4 by omega) d)
  refine gg 5 λa F=>?_
  exact⟨_,O,_,⟨j+1,Z,Z,O,Ui q d,H.sel [0,1] Z Z⟩,F.tt⟩
 obtain rfl:j=4:=O
 refine gg 7 λa F=>?_
 refine⟨?_,H.below⟩
 clear F H
 exact Nk (XqX o b q)
theorem wrapO(n:Nat):IntKind.u8.wrap (n:Int)=((UInt8.ofNat n).toNat:Int):=by
 have e:IntKind.u8.wrap (n:Int)=(n:Int)%256:=by simp[IntKind.wrap,IntKind.signed,IntKind.bits]
 rw[e]
 simp
theorem eTbo:EqT prog 1 4 [.bool] false:=XrX underlying4
theorem eTp:EqT prog 2 117 [.u8,.bool,.u8] true:=by
 have h:=QE (P:=prog) (D:=1) (kss:=[([.u8],false),([.bool],false),([.u8],false)]) Yg Y
  ⟨Z,by decide,Xr,XD,λ_=>rfl,eT8,Z,by decide,sizeOf4,isAgg4,λ_=>rfl,eTbo,Z,by decide,Xr,XD,λ_=>rfl,eT8,trivial⟩
 exact h
theorem Xmp(x:Pss):Fits [.u8,.bool,.u8] x.cells:=⟨⟨_,Z⟩,⟨_,Z⟩,⟨_,Z⟩,trivial⟩
theorem ceqX(x y:Pss):ceq x.cells y.cells=decide (x=y):=by
 obtain⟨a,b,c⟩:=x
 obtain⟨d,e,f⟩:=y
 rw[HE]
 simp[Pss.cells,ceq,NU,b8,Int.ofNat_inj,HC]
theorem bEqX{a b:Operand}{x y:Pss}:Gu prog .eql 117 a b (.agg x.cells.toArray) (.agg y.cells.toArray) (.bool (decide (x=y))):=by
 have h:=bEqT (x':=a) (y':=b) eTp Y (by decide) (Xmp x) (Xmp y)
 rw[ceqX]at h
 exact h
theorem bNeX{a b:Operand}{x y:Pss}:Gu prog .neq 117 a b (.agg x.cells.toArray) (.agg y.cells.toArray) (.bool (!decide (x=y))):=by
 have h:=bNeT (x':=a) (y':=b) eTp Y (by decide) (Xmp x) (Xmp y)
 rw[ceqX]at h
 exact h
def XbU(m:UInt8)(s:By)(t i:Nat):UInt8:=if m=3/\0<i then UD s t (i-1)else 0
theorem Qj(h:m=3):V4 m s t i=⟨UInt8.ofNat t,true,UD s t i⟩:=by rw[V4,if_pos h]
theorem MZ(h:m≠3):V4 m s t i=⟨UInt8.ofNat t,true,0⟩:=by rw[V4,if_neg h]
theorem Xjw(h:m≠3):XbU m s t i=0:=if_neg (λb=>h b.1)
theorem DX:V4 m s t i=⟨UInt8.ofNat t,true,XbU m s t (i+1)⟩:=by
 by_cases h:m=3
 ·rw[Qj h,XbU,if_pos ⟨h,O⟩];rfl
 ·rw[MZ h,Xjw h]
theorem Ch(h:(i:Int)=0\/(!decide (V4 m s t i=V4 m s t (i-1)))=true):Uh m s t (i+1)=Uh m s t i++[V4 m s t i]:=by
 rw[Uh,if_pos]
 rcases h with h|h
 ·exact .inl O
 ·refine .inr ?_
  have c:V4 m s t i≠V4 m s t (i-1):=by simpa using h
  by_cases b:m=3
  ·refine⟨b,λe=>c ?_⟩
   rw[Qj b,Qj b,e]
  ·exact absurd (by rw[MZ b,MZ b]) c
theorem Xj7(g:0<i)(h:(!decide (V4 m s t i=V4 m s t (i-1)))=false):Uh m s t (i+1)=Uh m s t i:=by
 have c:V4 m s t i=V4 m s t (i-1):=by simpa using h
 rw[Uh,if_neg]
 rintro(e|⟨b,d⟩)
 ·omega
 ·rw[Qj b,Qj b]at c
  exact d (congrArg Pss.l c)
def Q0(p:Prg)(m:UInt8)(s:By)(t:Nat):List Pss:=UU p m s t++(if Ud p m s t=true then[⟨UInt8.ofNat t,false,0⟩]else[])
theorem XoR(h:Ud p m s t=true):(Q0 p m s t).map Pss.cells=(UU p m s t).map Pss.cells++[(Pss.mk (UInt8.ofNat t) false 0).cells]:=by rw[Q0,if_pos h];simp
theorem XoS(h:Ud p m s t=false):UU p m s t=Q0 p m s t:=by rw[Q0,if_neg (by rw[h];simp)];simp
theorem DW(m:UInt8)(s:By)(t:Nat):∀i,∃l,Uh m s t (i+1)=l++[V4 m s t i]
 |0=>⟨[],Z⟩
 |i+1=>by
  rw[Uh]
  split
  ·exact⟨_,Z⟩
  ·rename_i h
   obtain⟨l,c⟩:=DW m s t i
   refine⟨l,?_⟩
   rw[c]
   unfold V4
   by_cases b:m=3
   ·have:UD s t (i+1)=UD s t i:=Decidable.not_not.1 λd=>h (.inr ⟨b,d⟩)
    rw[if_pos b,if_pos b,this]
   ·rw[if_neg b,if_neg b]
theorem Xch(d:0<i)(b:List Pss):(b++Uh m s t i)[(b++Uh m s t i).length-1]?=some (V4 m s t (i-1)):=by
 obtain⟨l,c⟩:=DW m s t (i-1)
 rw[show i-1+1=i by omega]at c;rw[c,<-AO,<-List.getLast?_eq_getElem?,List.getLast?_concat]
theorem Ci{pre:List Pss}(h:Uh m s t (i+1)=Uh m s t i++[V4 m s t i]):(pre++Uh m s t (i+1)).map Pss.cells=(pre++Uh m s t i).map Pss.cells++[(V4 m s t i).cells]:=by
 rw[h];simp
theorem LN(m:UInt8)(s:By)(t:Nat):∀i,(Uh m s t i).length<=i
 |0=>AI _
 |i+1=>by
  have:=LN m s t i
  rw[Uh]
  split
  ·rw[AK];simp;omega
  ·omega
theorem B2{p:Prg}{m:UInt8}{s:By}(hm:∀t,t<4->VW s t<=12):∀n,n<=4->(UU p m s n).length<=13*n
 |0,_=>AI _
 |n+1,h=>by
  have d:=B2 (p:=p) (m:=m) hm n O
  have b:=LN m s n (VW s n)
  have c:=hm n O
  rw[UU,L8,AK,AK]
  split<;>simp<;>omega
theorem XqW(l:List Pss):∀r∈l.map Pss.cells,r.length=3:=λr b=>by
 obtain⟨x,_,rfl⟩:=AT.1 b
 rfl
theorem Xgy(cs:List Value)(p:Prg)(o:World)(hP:ProgAt o cs p)(hn:p.threads.length<=4)(b:UInt8)(s:By)(hm:∀t,t<4->VW s t<=12):
 Calls prog 89 #[.agg cs.toArray,YtajfpcgbnflceaaGreatDoor.b8 b,.agg (bs 142 s).toArray] o λe w'=>∃A c,e=.returned (.slice A (V0 p b s).length c)/\Own o none w' [.rws 117 3 (.slice A (V0 p b s).length c) ((V0 p b s).map Pss.cells)]:=by
 have H:=Own.start o none
 have a5:=hP
 obtain⟨I,X,IA,K,T,S,h,aC,hp⟩:=hP
 obtain⟨P,J,Q,V,c5,rfl⟩:=Xa2 (Uk hp.cond)
 have a7:=hp.cs
 subst a7;refine VU func89 Z ntmps89 Z (λa F=>?_)
 refine gg 2 λa F=>?_
 refine zBx H F λG a w F H=>?_
 refine Eo H F λN a w F H=>?_
 refine gg 5 λa F=>?_
 replace H:=H.nilRws 117 3
 refine gg 10 λa F=>?_
 refine cLoopS [1,3,5,13] (λm d w=>∃(j:Nat)(A:Option Addr)(c:Nat),m=p.threads.length-j/\d=[(7,.slice A (UU p b s j).length c),(14,Ve ((j:Nat):Int))]/\j<=p.threads.length/\Own o none w [.rws 117 3 (.slice A (UU p b s j).length c) ((UU p b s j).map Pss.cells),.blk N (bs 142 s) 85,.blk G ([.string p.name,.slice I p.locs.length X,.slice IA p.init.length K,.slice T p.threads.length S,b8 p.ask]++[P,J,Q,V,c5]) 29]) F (p.threads.length) [(7,.slice none 0 0),(14,Ve ((0:Nat):Int))] ?_ ?_
 ·exact⟨0,none,0,Z,Z,O,H.sel [0,1,2] Z Z⟩
 clear F H;intro m d a w E F
 obtain⟨j,A,c,rfl,rfl,hj,H⟩:=E
 refine gg 6 λa F=>zi (λa3=>?_) λa3=>?_
 ·
  have a2:j<p.threads.length:=O
  obtain⟨q,hq⟩:∃q,p.threads[j]?=some q:=⟨_,AA a2⟩
  have aG:=B2 (p:=p) (m:=b) hm j O
  have aB:=hm j O
  have aA:VW s j=(s (138+j)).toNat:=rfl
  refine gg 11 λa F=>?_
  refine sCv XX Xq F Z Z Z (wrapO _) (qBd (cs:=(Pss.mk (UInt8.ofNat j) false 0).cells) (places:=[(0,1),(1,1),(2,1)]) X3 Yg Y Z Z Z Z λa F=>?_)
  refine zAl X3 H F λb9 a w F H=>?_
  refine sSr H 0 ?si F Z Z Z ?s1 Z Z ?_
  case si=>exact VT X7
  case s1=>rfl
  clear H;intro w H
  refine gg 1 λa F=>?_
  refine cSeqS [1,3,5,8,9,13,14] (λd w=>∃(A2:Option Addr)(L:Nat),d=[(7,.slice A2 (Q0 p b s j).length L)]/\Own o none w [.rws 117 3 (.slice A2 (Q0 p b s j).length L) ((Q0 p b s j).map Pss.cells),.blk b9 (Pss.mk (UInt8.ofNat j) false 0).cells 117,.blk N (bs 142 s) 85,.blk G ([.string p.name,.slice I p.locs.length X,.slice IA p.init.length K,.slice T p.threads.length S,b8 p.ask]++[P,J,Q,V,c5]) 29]) F ?_ ?_
  ·
   refine gg 6 λa F=>?_
   refine zCa F (Xcf _ p _ (a5.own H) b s j q O hq) H λa w F H=>?_
   refine gg 1 λa F=>?_
   refine cIf F Z (λu=>?_) (λu=>?_)
   ·
    refine gg 3 λa F=>?_
    refine XeM H XV X7 X3 Z F Z Z Z Z Z λaE a w F H=>?_
    refine G7 (bytes:=3) H 2 XV typeInfo117 Z Z Z Z Z Z F Z Z Z Z Z (H.whole 0 Z) Z ?s1 ?s2 ?_
    case s1=>rfl
    case s2=>(rw[AH];omega)
    clear F a H;intro a8 a6 a w F H
    refine gg 2 λa F=>?_
    (have r:(Q0 p b s j).map Pss.cells=(UU p b s j).map Pss.cells++[(Pss.mk (UInt8.ofNat j) false 0).cells]:=XoR u
     have C:(Q0 p b s j).length=((UU p b s j).map Pss.cells++[(Pss.mk (UInt8.ofNat j) false 0).cells]).length:=by rw[<-r,AH]
     rw[r,C]
     exact⟨_,⟨a8,a6,Z,H.sel [2,1,3,4] Z Z⟩,F.tt⟩)
   refine gg 1 λa F=>?_
   (have e:UU p b s j=Q0 p b s j:=XoS u
    rw[e]at H F
    exact⟨_,⟨A,c,Z,H.sel [1,0,2,3] Z Z⟩,F.tt⟩)
  clear F H
  intro d a w E F
  obtain⟨A2,L,rfl,H⟩:=E
  refine gg 3 λa F=>?_
  refine zSt H 1 F λw H=>?_
  refine gg 11 λa F=>?_
  refine cLoopS [1,3,5,8,9,13,14,34] (λm d w=>∃(i:Nat)(M:Option Addr)(B:Nat),m=VW s j-i/\d=[(7,.slice M (Q0 p b s j++Uh b s j i).length B),(35,Ve ((i:Nat):Int))]/\i<=VW s j/\Own o none w [.rws 117 3 (.slice M (Q0 p b s j++Uh b s j i).length B) ((Q0 p b s j++Uh b s j i).map Pss.cells),.blk b9 (Pss.mk (UInt8.ofNat j) true (XbU b s j i)).cells 117,.blk N (bs 142 s) 85,.blk G ([.string p.name,.slice I p.locs.length X,.slice IA p.init.length K,.slice T p.threads.length S,b8 p.ask]++[P,J,Q,V,c5]) 29]) F (VW s j) [(7,.slice A2 (Q0 p b s j).length L),(35,Ve ((0:Nat):Int))] ?_ ?_
  ·exact⟨0,A2,L,Z,by rw[show Q0 p b s j++Uh b s j 0=Q0 p b s j from Ak _],O,by rw[show Q0 p b s j++Uh b s j 0=Q0 p b s j from Ak _,show XbU b s j 0=0 from if_neg (λh=>absurd h.2 O)];exact H.sel [0,1,2,3] Z Z⟩
  clear F H;intro m d a w E F
  obtain⟨i,M,B,rfl,rfl,hi,H⟩:=E
  have aJ:(Q0 p b s j).length<=13*j+1:=by unfold Q0;rw[AK];split<;>simp<;>omega
  have aH:=LN b s j i
  have aF:(Q0 p b s j++Uh b s j i).length<=13*j+1+i:=by rw[AK];omega
  refine gg 6 λa F=>zi (λa1=>?_) λa1=>?_
  ·
   refine gg 8 λa F=>?_
   refine cSeqS [1,3,5,7,8,9,10,13,14,34,35] (λd w=>d=[]/\Own o none w [.rws 117 3 (.slice M (Q0 p b s j++Uh b s j i).length B) ((Q0 p b s j++Uh b s j i).map Pss.cells),.blk b9 (V4 b s j i).cells 117,.blk N (bs 142 s) 85,.blk G ([.string p.name,.slice I p.locs.length X,.slice IA p.init.length K,.slice T p.threads.length S,b8 p.ask]++[P,J,Q,V,c5]) 29]) F ?_ ?_
   ·
    refine gg 6 λa F=>zi (λn=>?_) λn=>?_
    ·
     refine gg 6 λa F=>?_
     refine XqT (f:=0) Xx Z Xr Z Z F Z Z Z λa F=>?_
     refine gg 2 λa F=>?_
     refine zSt H 1 F λw H=>?_
     refine gg 1 λa F=>?_
     (rw[Qj n]
      exact⟨[],⟨Z,H.sel [0,1,2,3] Z Z⟩,F.tt⟩)
    refine gg 1 λa F=>?_
    (rw[Xjw n]at H
     rw[MZ n]
     exact⟨[],⟨Z,H.sel [0,1,2,3] Z Z⟩,F.tt⟩)
   clear F H
   intro d a w E F
   obtain⟨rfl,H⟩:=E
   refine gg 1 λa F=>?_
   refine zRO H λH=>?_
   refine gg 3 λa F=>?_
   refine zSp 50 F (λa9 F=>?_) λa9 F=>?_
   ·
    refine gg 10 λa F=>?_
    refine cIfT F Z ?_
    refine gg 3 λa F=>?_
    refine XeM H XV X7 X3 Z F Z Z Z Z Z λa4 a w F H=>?_
    refine G7 (bytes:=3) H 1 XV typeInfo117 Z Z Z Z Z Z F Z Z Z Z Z (H.whole 0 Z) Z ?s1 ?s2 ?_
    case s1=>rfl
    case s2=>(rw[AH];omega)
    clear F a H;intro D v a w F H
    refine gg 6 λa F=>?_
    (have R:(V4 b s j i).cells=(Pss.mk (UInt8.ofNat j) true (XbU b s j (i+1))).cells:=congrArg Pss.cells DX
     (have eD:Uh b s j (i+1)=Uh b s j i++[V4 b s j i]:=Ch (.inl a9)
      have r:=Ci (pre:=Q0 p b s j) eD
      have C:(Q0 p b s j++Uh b s j (i+1)).length=((Q0 p b s j++Uh b s j i).map Pss.cells++[(V4 b s j i).cells]).length:=by rw[<-r,AH]
      refine⟨_,O,_,⟨i+1,D,v,Z,Z,O,?_⟩,?_⟩
      ·rw[r,C,<-R];exact H.sel [1,2,3,4] Z Z
      ·rw[C];exact F.tt))
   have W:0<i:=O
   have g:=Xch (m:=b) (s:=s) (t:=j) W (Q0 p b s j)
   obtain⟨bL,oL,rfl,aI⟩:=H.rowsAt 0 Z (XqW _) (by decide) _ _ (by rw[AD,g];rfl)
   have aD:=(AB.1 g).1
   have U:∀w,Own o none w [.rws 117 3 (Vd bL oL (Q0 p b s j++Uh b s j i).length B) ((Q0 p b s j++Uh b s j i).map Pss.cells),.blk b9 (V4 b s j i).cells 117,.blk N (bs 142 s) 85,.blk G ([.string p.name,.slice I p.locs.length X,.slice IA p.init.length K,.slice T p.threads.length S,b8 p.ask]++[P,J,Q,V,c5]) 29]->w.rangeAt bL (oL+((Q0 p b s j++Uh b s j i).length-1)*3) (V4 b s j (i-1)).cells:=λw H=>by
    obtain⟨_,_,he,hq⟩:=H.rowsAt 0 Z (XqW _) (by decide) _ _ (by rw[AD,g];rfl)
    cases he
    exact hq
   refine gg 6 λa F=>?_
   refine Xa (k:=9) (i:=9) Z F Z Z (λw H=>rLr Yg Z ?si F Z (U _ H)) H (λ_ _ _ h=>h) ?_
   case si=>exact VT X7
   clear F a;intro a F;refine Xb 10 Z F Z (λw=>Gt F Z Z (bNeX (x:=V4 b s j i) (y:=V4 b s j (i-1)))) H qq0 λa F=>?_
   refine gg 2 λa F=>?_
   refine cIf F Z (λz=>?_) (λz=>?_)
   ·
    refine gg 3 λa F=>?_
    refine XeM H XV X7 X3 Z F Z Z Z Z Z λa4 a w F H=>?_
    refine G7 (bytes:=3) H 1 XV typeInfo117 Z Z Z Z Z Z F Z Z Z Z Z (H.whole 0 Z) Z ?s1 ?s2 ?_
    case s1=>rfl
    case s2=>(rw[AH];omega)
    clear F a H;intro D v a w F H
    refine gg 6 λa F=>?_
    (have R:(V4 b s j i).cells=(Pss.mk (UInt8.ofNat j) true (XbU b s j (i+1))).cells:=congrArg Pss.cells DX
     (have eD:Uh b s j (i+1)=Uh b s j i++[V4 b s j i]:=Ch (.inr z)
      have r:=Ci (pre:=Q0 p b s j) eD
      have C:(Q0 p b s j++Uh b s j (i+1)).length=((Q0 p b s j++Uh b s j i).map Pss.cells++[(V4 b s j i).cells]).length:=by rw[<-r,AH]
      refine⟨_,O,_,⟨i+1,D,v,Z,Z,O,?_⟩,?_⟩
      ·rw[r,C,<-R];exact H.sel [1,2,3,4] Z Z
      ·rw[C];exact F.tt))
   refine gg 5 λa F=>?_
   (have R:(V4 b s j i).cells=(Pss.mk (UInt8.ofNat j) true (XbU b s j (i+1))).cells:=congrArg Pss.cells DX
    (have e:Uh b s j (i+1)=Uh b s j i:=Xj7 W z
     refine⟨_,O,_,⟨i+1,some ⟨bL,oL,none⟩,B,Z,Z,O,?_⟩,?_⟩
     ·rw[e,<-R];exact H.sel [0,1,2,3] Z Z
     ·rw[e];exact F.tt))
  obtain rfl:i=VW s j:=O
  have e:Q0 p b s j++Uh b s j (VW s j)=UU p b s (j+1):=by rw[Q0,UU,L8,AO]
  rw[e]at H F
  refine gg 5 λa F=>?_
  exact⟨_,O,_,⟨j+1,M,B,Z,Z,O,H.sel [0,2,3] Z Z⟩,F.tt⟩
 refine gg 8 λa F=>?_
 obtain rfl:j=p.threads.length:=O
 exact⟨A,c,Z,H.pick 0 Z⟩
structure RightM (p:Prg) (m:UInt8) (s:By):Prop where
 known:Gb m=true
 bare:UC p (Gc s)=true
 fits:∀t,t<4->Qg p m s t=true
theorem rightM_iff:JQ p m s=true↔RightM p m s:=by
 unfold JQ
 rw[AJ,AJ,allB_iff]
 exact⟨λh=>⟨h.1.1,h.1.2,h.2⟩,λh=>⟨⟨h.known,h.bare⟩,h.fits⟩⟩
theorem XkG(b:t<4):Gc s (t*9)=s (t*9):=if_pos O
section
variable{p:Prg}{m:UInt8}{s:By}
theorem RightM.prog(h:RightM p m s):VX p=0:=Gg h.bare
theorem RightM.pc(h:RightM p m s){l:List Ins}(d:t<4)(e:p.threads[t]?=some l):(s (t*9)).toNat<=l.length:=by
 have b:=h.bare
 unfold UC JX at b
 simp only[AJ]at b
 have c:=(allB_iff.1 b.2.1.1) t d
 rw[GD e,XkG d]at c
 exact of_decide_eq_true c
theorem RightM.most(h:RightM p m s)(c:t<4):VW s t<=J0 p m s t:=by
 have b:=h.fits t c
 unfold Qg at b
 rw[AJ]at b
 exact of_decide_eq_true b.1
theorem RightM.slot(h:RightM p m s)(d:t<4)(c:i<12):Uy p m s t i=true:=by
 have b:=h.fits t d
 unfold Qg at b
 rw[AJ]at b
 exact allB_iff.1 b.2 i c
theorem RightM.many(h:RightM p m s)(d:t<4):VW s t<=12/\(VW s t≠0->m≠1/\∃l,p.threads[t]?=some l/\VW s t<=(s (t*9)).toNat/\(s (t*9)).toNat<=l.length):=by
 have c:=h.most d
 unfold J0 at c
 split at c
 ·rename_i e
  have b:p.threads[t]?=some p.threads[t]:=AA e.2
  have g:=h.pc d b
  have i:=(valid h.prog).long t _ b
  exact⟨O,λ_=>⟨e.1,_,b,c,g⟩⟩
 ·exact⟨O,λh=>absurd h O⟩
theorem RightM.loc(h:RightM p m s)(c:t<4)(d:i<VW s t):(UD s t i).toNat<p.locs.length:=by
 have b:=h.slot c (show i<12 by have:=(h.many c).1;omega)
 unfold Uy at b
 rw[if_neg O,AJ]at b
 exact of_decide_eq_true b.1
end
theorem B1(n:List Value)(p:Prg)(g:World)(i:ProgAt g n p)(r:NeedsAt g)(b:UInt8)(s:By):
 Calls prog 47 #[.agg n.toArray,YtajfpcgbnflceaaGreatDoor.b8 b,.agg (bs 142 s).toArray] g λe o=>∃A c,e=.returned (.slice A (GQ p b s).length c)/\Own g none o [.rws 117 3 (.slice A (GQ p b s).length c) ((GQ p b s).map Pss.cells)]:=by
 have H:=Own.start g none
 obtain⟨I,v,y,G,B,E,J,d8,C,u,rfl⟩:=i.len10
 refine VU func47 Z ntmps47 Z (λa F=>?_)
 refine gg 2 λa F=>?_
 refine zBx H F λD a w F H=>?_
 refine Eo H F λz a w F H=>?_
 refine gg 8 λa F=>?_
 refine zCa F (Xgf _ p _ (i.own H) (r.own H) b s) H λa w F H=>?_
 refine gg 3 λa F=>zi (λd=>?_) λd=>?_
 ·
  refine gg 6 λa F=>?_
  (have e:GQ p b s=[]:=by rw[GQ,d];rfl
   rw[e]
   exact⟨none,0,Z,(H.sel [] Z Z).nilRws _ _⟩)
 have j:=rightM_iff.1 d
 refine gg 6 λa F=>?_
 refine Xi call89 F Z (Xgy _ p _ (i.own H) ((valid j.prog).thr4) b s (λt q=>(j.many q).1)) ?_;rintro e w ⟨A,c,rfl,m⟩;replace H:=H.join m;clear m
 refine zq λa F=>?_
 refine gg 4 λa F=>?_
 (have e:GQ p b s=V0 p b s:=by rw[GQ,d];rfl
  rw[e]
  exact⟨A,c,Z,H.pick 0 Z⟩)
theorem XgM(A:Option Addr)(C:Nat)(l:List Pss)(x:Pss)(d:World)(G:RowsAt d A 3 (l.map Pss.cells))(I:l.length<=9223372036854775807):
 Calls prog 156 #[.slice A l.length C,.agg x.cells.toArray] d λe u=>∃n:Int,e=.returned (Ve n)/\(0<=n↔x∈l)/\Below d.heap.size d u:=by
 refine Vb func156 ntmps156 λH a F=>?_
 refine gg 2 λa F=>?_
 refine zBx H F λv a w F H=>?_
 refine gg 10 λa F=>?_
 refine cLoopS [0,3,7] (λm p w=>∃j:Nat,m=l.length-j/\p=[(8,Ve ((j:Nat):Int))]/\j<=l.length/\(∀i y,i<j->l[i]?=some y->x≠y)/\Own d none w [.blk v x.cells 117]) F (l.length) [(8,Ve ((0:Nat):Int))] ?_ ?_
 ·exact⟨0,Z,Z,O,λi y q=>absurd q O,H.sel [0] Z Z⟩
 clear F H;intro m p a w B F
 obtain⟨j,rfl,rfl,K,g,H⟩:=B
 refine gg 6 λa F=>zi (λD=>?_) λD=>?_
 ·
  obtain⟨y,t⟩:∃y,l[j]?=some y:=⟨_,AA O⟩
  obtain⟨b,o,rfl,J⟩:=G j y.cells (by rw[AD,t];rfl)
  refine gg 9 λa F=>?_
  refine zRO H λH=>?_
  refine gg 5 λa F=>?_
  refine Xb 5 Z F Z (λw=>Gt F Z Z (bEqX (x:=x) (y:=y))) H qq0 λa F=>?_
  refine gg 1 λa F=>?_
  refine cIf F Z (λc=>?_) (λc=>?_)
  ·
   refine gg 7 λa F=>?_
   (have E:x=y:=of_decide_eq_true c
    exact⟨_,Z,⟨λ_=>E▸AF t,λ_=>O⟩,H.below⟩)
  refine gg 5 λa F=>?_
  (have r:x≠y:=of_decide_eq_false c
   refine⟨_,O,_,⟨j+1,Z,Z,O,λi z q s=>?_,H.sel [0] Z Z⟩,F.tt⟩
   rcases AN i j with h|h
   ·exact g i z h s
   ·obtain rfl:i=j:=O
    rw[t]at s;cases s;exact r)
 refine gg 7 λa F=>?_
 (refine⟨_,Z,⟨λh=>absurd h O,λh=>?_⟩,H.below⟩
  obtain⟨i,q⟩:=Af.1 h
  exact absurd Z (g i x (by have:=(AB.1 q).1;omega) q))
theorem XaE(A:Option Addr)(C:Nat)(l:List Pss)(x:Pss)(b:World)(j:RowsAt b A 3 (l.map Pss.cells))(g:l.length<=9223372036854775807):
 Va 90 #[.slice A l.length C,.agg x.cells.toArray] b (.bool (decide (x∈l))):=by
 refine Vb func90 ntmps90 λH a F=>?_
 refine gg 2 λa F=>?_
 refine zBx H F λm a w F H=>?_
 refine gg 6 λa F=>?_
 refine Xi call156 F Z (XgM A C l x _ (j.own H) g) ?_;rintro e w ⟨n,rfl,i,c⟩;replace H:=H.grow c;clear c
 refine zq λa F=>?_
 refine gg 5 λa F=>?_
 exact⟨by rw[show decide (x∈l)=decide ((0:Int)<=n)from decide_eq_decide.2 i.symm],H.below⟩
end Go.Proofs.YtajfpcgbnflceaaGreatDoor
