/- WALK2. Package cand: mixes. Conditions: the program, the values and three tables lie in memory; the program's paths are good. -/
import Derived.Test.YtajfpcgbnflceaaGreatDoorJn11
set_option linter.unusedSimpArgs false
set_option linter.unusedVariables false
namespace Go.Proofs.YtajfpcgbnflceaaGreatDoor
open Go.Proofs.Tryz
open Go.RowKit
set_option maxRecDepth 100000
set_option maxHeartbeats 4000000
variable{f k n:Nat}{l:List Ins}{most:Int}{p:Prg}{s:UInt64}{vals:List UInt8}
namespace Md
theorem mixes_cand(G LC IC TC DC:Nat)(LA IA TA DA:Option Addr)(p:Prg)(vals:List UInt8)(y:World)(hL:y.cell? ⟨G,1,none⟩=some (.slice LA p.init.length LC))(hI:y.cell? ⟨G,2,none⟩=some (.slice IA p.init.length IC))(c9:y.cell? ⟨G,3,none⟩=some (.slice TA p.threads.length TC))(bL:RowsAt y IA 1 (p.init.map λx=>[b8 x]))(bO:ThreadsAt y TA p.threads)(hD:BytesAt y DA vals)(aY:vals.length<=1000000)(hN:NeedsAt y)(hT:TabAt y)(hv:1<=p.init.length/\p.init.length<=6)(hn:p.threads.length<=4)(U:∀A∈NC p vals,∀q∈A,GoodP p.init.length q):
 Calls prog 33 #[Vc G 0,.slice DA vals.length DC] y (XcL p vals y):=by
 have H:=Own.start y none
 obtain⟨g,v⟩:∃g,NC p vals=g:=⟨_,Z⟩
 have aB:g.length=p.threads.length:=by rw[<-v];unfold NC;rw[AH]
 have bF:∀{j:Nat}{l:List Ins},p.threads[j]?=some l->g[j]?=some (UI l vals 4096).1:=λh=>by rw[<-v];unfold NC;rw[AD,h];rfl
 rw[v]at U;refine Ec func33 Z ntmps33 Z (λa F=>?_)
 refine gg 2 λa F=>?_
 refine zBx H F λQ a w F H=>?_
 refine zAl zeroValue94 H F λL a w F H=>?_
 refine zAl zeroValue4 H F λJ a w F H=>?_
 refine gg 1 λa F=>?_
 replace H:Own y none w [.blk J [.bool false] 4,.blk L [.slice none 0 0] 94,.blk Q [Vc G 0] 47]:=H
 refine gg 2 λa F=>?_
 refine zAl zeroValue139 H F λR a w F H=>?_
 refine gg 1 λa F=>?_
 replace H:Own y none w [.rws 140 1 (.slice none 0 0) [],.blk R [.slice none 0 0] 139,.blk J [.bool false] 4,.blk L [.slice none 0 0] 94,.blk Q [Vc G 0] 47]:=H.nilRws 140 1
 refine gg 3 λa F=>?_
 replace H:=H.nilRws 3 1
 refine gg 16 λa F=>?_
 refine cLoopS [1,2,4,5,6,23,24] (λm S w=>∃(j:Nat)(b:List ThP)(n:Option Addr)(o:Nat)(AZ:Option Addr)(cZ:Nat),m=p.threads.length-j/\S=[(7,.slice AZ j cZ),(8,Ve (Xhh g j:Int)),(25,Ve ((j:Nat):Int))]/\j<=p.threads.length/\b.map (λt=>t.ps.map PlP.path)=g.take j/\Xhh g j<=4096/\(∀l∈p.threads.take j,(UI l vals 4096).2=0)/\Own y none w ([.rws 3 1 (.slice AZ j cZ) (Uo ((g.map List.length).take j)),.rws 140 1 (.slice n b.length o) (b.map ThP.hd),.blk R [.slice n b.length o] 139,.blk J [.bool false] 4,.blk L [.slice none 0 0] 94,.blk Q [Vc G 0] 47]++(b.flatMap ThP.res++[]))) F (p.threads.length) [(7,.slice none 0 0),(8,Ve ((1:Nat):Int)),(25,Ve ((0:Nat):Int))] ?_ ?_
 ·exact⟨0,[],none,0,none,0,Z,Z,AU _,Z,by show 1<=4096;omega,(λl hl=>by rw[List.take_zero]at hl;cases hl),H⟩
 clear F H;intro m S a w hI F
 obtain⟨j,b,n,o,AZ,cZ,rfl,rfl,hj,a4,aE,aD,H⟩:=hI
 have bZ:b.length=j:=by have:=congrArg List.length a4;simp at this;omega
 refine gg 6 λa F=>zi (λbE=>?_) λbE=>?_
 ·
  have aF:j<p.threads.length:=O
  obtain⟨l,hl⟩:∃l,p.threads[j]?=some l:=⟨_,AA aF⟩
  obtain⟨bT,oT,B,CB,rfl,c6,bP,bS⟩:=bO j l hl
  refine gg 13 λa F=>?_
  refine Xi call58 F Z (Paths_any B CB l DA DC vals 4096 _ (bP.own H) bS (hD.own H) aY (hN.own H) (hT.own H)) ?_;rintro e w ⟨A,A2,C2,aQ,rfl,H2⟩
  replace H:=Own.addTh (t:=⟨A2,C2,A⟩) (hd:=[_,_,_,_,_,_]) (H.join H2)
  clear H2
  have bW:A.length<=4096:=by rw[<-AH (f:=PlP.path),aQ];exact XeU
  have a8:=bF hl
  rw[<-aQ]at a8
  have aN:Xhh g (j+1)=Xhh g j*A.length:=by rw[Xhh,AS,a8];simp
  have c1:Xhh g j*A.length<=4096*4096:=Nat.mul_le_mul aE bW
  refine zq λa F=>?_
  refine gg 11 λa F=>?_
  refine Xh F Z Z (XaR ?_) ?_
  focus omega
  clear F a;intro a F
  refine gg 8 λa F=>?_
  refine zSp 41 F (λc7 F=>?_) λc7 F=>?_
  ·
   have V:(UI l vals 4096).2≠0:=O
   refine gg 4 λa F=>?_
   refine cIfT F Z ?_
   refine gg 2 λa F=>?_
   refine zSt H 4 F λw H=>?_
   refine zSt H 3 F λw H=>?_
   refine gg 2 λa F=>?_
   refine XcN ?_;refine Mz results33 F Z Z isAgg94 isAgg4 H 4 3 Z Z ?_
   (refine .inl ⟨?_,Z,H.below⟩
    exact .inl ⟨l,AF hl,V⟩)
  have V:(UI l vals 4096).2=0:=O
  refine gg 5 λa F=>zi (λaZ=>?_) λaZ=>?_
  ·
   refine gg 2 λa F=>?_
   refine zSt H 4 F λw H=>?_
   refine zSt H 3 F λw H=>?_
   refine gg 2 λa F=>?_
   refine XcN ?_;refine Mz results33 F Z Z isAgg94 isAgg4 H 4 3 Z Z ?_
   (refine .inl ⟨?_,Z,H.below⟩
    exact .inr (.inl ⟨j+1,O,by rw[v,aN];omega⟩))
  refine gg 5 λa F=>?_
  refine XeN H underlying139 sizeOf140 zeroValue140 Z F Z Z Z Z λb3 a w F H=>?_
  refine G7 (bytes:=24) H 2 underlying139 typeInfo140 Z Z Z Z Z Z F Z Z Z Z Z (H.whole 0 Z) Z ?s1 ?s2 ?_
  case s1=>rfl
  case s2=>(rw[AH];omega)
  clear F a H;intro aG aK a w F H
  refine zSt H 3 F λw H=>?_
  refine gg 1 λa F=>?_
  have e3:b.map ThP.hd++[[Value.slice A2 A.length C2]]=(b++[(⟨A2,C2,A⟩:ThP)]).map ThP.hd:=by simp[ThP.hd]
  have e4:(b.map ThP.hd++[[Value.slice A2 A.length C2]]).length=(b++[(⟨A2,C2,A⟩:ThP)]).length:=by simp
  replace H:Own y none w (.blk b3 [.slice A2 A.length C2] 140::([.rws 3 1 (.slice AZ j cZ) (Uo ((g.map List.length).take j)),.rws 140 1 (.slice aG (b.map ThP.hd++[[Value.slice A2 A.length C2]]).length aK) (b.map ThP.hd++[[Value.slice A2 A.length C2]]),.blk R [.slice aG (b.map ThP.hd++[[Value.slice A2 A.length C2]]).length aK] 139,.blk J [.bool false] 4,.blk L [.slice none 0 0] 94,.blk Q [Vc G 0] 47]++((b++[(⟨A2,C2,A⟩:ThP)]).flatMap ThP.res++[]))):=H
  rw[e4,e3]at H
  replace H:=H.tail
  refine gg 4 λa F=>?_
  refine XeN H underlying70 sizeOf3 zeroValue3 Z F Z Z Z Z λc4 a w F H=>?_
  refine G7 (bytes:=8) H 1 underlying70 typeInfo3 Z Z Z Z Z Z F Z Z Z Z Z (H.whole 0 Z) Z ?s1 ?s2 ?_
  case s1=>rfl
  case s2=>(rw[Uz,Aj];omega)
  clear F a H;intro bV bD a w F H
  refine gg 6 λa F=>?_
  have aW:(g.map List.length)[j]?=some A.length:=by rw[AD,a8];simp
  have e5:Uo ((g.map List.length).take j)++[[Ve (A.length:Int)]]=Uo ((g.map List.length).take (j+1)):=by rw[At,aW];unfold Uo;rw[Ae];rfl
  have e6:(Uo ((g.map List.length).take j)++[[Ve (A.length:Int)]]).length=j+1:=by rw[AK,Uz,Aj,AH,aB,Fv hj];rfl
  rw[e6]at F;rw[e6,e5]at H
  exact⟨_,O,_,⟨j+1,b++[(⟨A2,C2,A⟩:ThP)],aG,aK,bV,bD,Z,by rw[aN],O,by rw[Ae,a4,At,a8];rfl,O,(λl9 h9=>by rw[At,hl,FW,A8,Ay]at h9;exact h9.elim (aD l9) (λh=>by rw[h];exact V)),H.tail⟩,F.toD (by repeat(first|exact trivial|refine Le.cons rfl ?_))⟩
 have aF:j=p.threads.length:=O
 refine gg 3 λa F=>?_
 refine zAl zeroValue94 H F λC a w F H=>?_
 refine gg 1 λa F=>?_
 subst aF
 have aO:p.threads.length=(g.map List.length).length:=by rw[AH,aB]
 have a3:b.map (λt=>t.ps.map PlP.path)=g:=by rw[a4,<-aB,FT]
 have bU:(g.map List.length).length<=1000:=O
 have bN:∀s∈g.map List.length,s<=1000000:=λs hs=>by
  obtain⟨l,hl,rfl⟩:=AT.1 hs
  rw[<-v]at hl
  obtain⟨i, -,rfl⟩:=AT.1 hl
  have:=XeU (l:=i) (dom:=vals)
  omega
 rw[show(g.map List.length).take p.threads.length=g.map List.length by rw[aO,FT]]at H
 rw[aO]at F H
 replace H:Own y none w ([.rws 99 336 (.slice none 0 0) [],.blk C [.slice none 0 0] 94,.rws 3 1 (.slice AZ (g.map List.length).length cZ) (Uo (g.map List.length)),.rws 140 1 (.slice n b.length o) (b.map ThP.hd),.blk R [.slice n b.length o] 139,.blk J [.bool false] 4,.blk L [.slice none 0 0] 94,.blk Q [Vc G 0] 47]++(b.flatMap ThP.res++[])):=H.nilRws 99 336
 refine gg 4 λa F=>?_
 refine Xi call59 F Z (L7 AZ (g.map List.length).length cZ _) ?_;rintro e w ⟨b9,rfl,H2⟩;replace H:=H.join H2;clear H2
 refine zq λa F=>?_
 refine gg 2 λa F=>?_
 have HU:Own y none w (([.rws 99 336 (.slice none 0 0) [],.blk C [.slice none 0 0] 94,.rws 140 1 (.slice n b.length o) (b.map ThP.hd),.blk R [.slice n b.length o] 139,.blk J [.bool false] 4,.blk L [.slice none 0 0] 94,.blk Q [Vc G 0] 47]++(b.flatMap ThP.res++[]))++[.blk b9 [.slice AZ (g.map List.length).length cZ] 70,.rws 3 1 (.slice AZ (g.map List.length).length cZ) (Uo (g.map List.length))]):=(H.swapN 1 2).perm Xo9
 refine Xiy (pl:=[57]) F (by decide) (λ_ _ _ h=>by obtain⟨_,h,_⟩:=h;rw[h];rfl) Z (enters_of func113 Y Z) HU (Md.odo_iter (g.map List.length) AZ cZ y bU bN _ b9 (λw H=>H.cell 0 Z Z) (λw H=>H.rowsAt 1 Z Uu O))
  (λM T=>∃(u:List MxP)(N:Option Addr)(P:Nat),u.map MxP.ps=M.map (UF g)/\(∀m∈u,m.ok p.init/\V1 p.init m.ps m.ps.length<=48)/\T=[.rws 99 336 (.slice N u.length P) (u.map (MxP.cells p.init)),.blk C [.slice N u.length P] 94,.rws 140 1 (.slice n b.length o) (b.map ThP.hd),.blk R [.slice n b.length o] 139,.blk J [.bool false] 4,.blk L [.slice none 0 0] 94,.blk Q [Vc G 0] 47]++(b.flatMap ThP.res++u.flatMap (MxP.res p.init)))
  (λc M T=>c=.ret/\(∃d∈M,48<V1 p.init (UF g d) (UF g d).length)/\∃aC,T=.blk J [.bool false] 4:: .blk L [.slice none 0 0] 94::aC)
  ⟨[],none,0,Z,λm hm=>(by cases hm),Z⟩ (λvs=>[(14,vs.getD 0 undef)]) ?_ ?_ ?_ ?_
 ·
  clear H F a;intro bA a w vs K bR hF hK
  obtain⟨v0,rfl⟩:=XgI bR
  refine Md.cReg ?_;refine sAs hF Z Z Z λa hF=>?_
  refine Md.sNil ?_ hF
  exact hK _ hF
 ·
  clear H F a;intro bA M x bY yr w c3 qs a hi a9 bM H F
  obtain⟨u,N,P,aA,aI,rfl⟩:=hi
  obtain⟨gD,rfl,rfl⟩:=bM
  have bG:x∈JA (g.map List.length):=a9.subset (by simp)
  obtain⟨b7,aU⟩:=mem_odo.1 bG
  have aR:x.length=g.length:=by rw[b7,AH]
  replace H:Own y none w ([.blk gD (Ji x) 3,.rws 99 336 (.slice N u.length P) (u.map (MxP.cells p.init)),.blk C [.slice N u.length P] 94,.rws 140 1 (.slice n b.length o) (b.map ThP.hd),.blk R [.slice n b.length o] 139,.blk J [.bool false] 4,.blk L [.slice none 0 0] 94,.blk Q [Vc G 0] 47]++(b.flatMap ThP.res++(u.flatMap (MxP.res p.init)++qs))):=by
   simpa only[AO,Au,FI]using H
  refine gg 4 λa F=>?_
  replace H:=H.nilRws 148 12
  refine gg 9 λa F=>?_
  refine cLoopS [2,4,5,6,13,58,59] (λm S w=>∃(k:Nat)(E:List PlP)(AC:Option Addr)(cC:Nat),m=x.length-k/\S=[(15,.slice AC E.length cC),(60,Ve ((k:Nat):Int))]/\k<=x.length/\E.map PlP.path=(UF g x).take k/\(∀q∈E,∃(i:Nat)(t:ThP),b[i]?=some t/\q∈t.ps)/\Own y none w ([.rws 148 12 (.slice AC E.length cC) (E.map PlP.cells),.blk gD (Ji x) 3,.rws 99 336 (.slice N u.length P) (u.map (MxP.cells p.init)),.blk C [.slice N u.length P] 94,.rws 140 1 (.slice n b.length o) (b.map ThP.hd),.blk R [.slice n b.length o] 139,.blk J [.bool false] 4,.blk L [.slice none 0 0] 94,.blk Q [Vc G 0] 47]++(b.flatMap ThP.res++(u.flatMap (MxP.res p.init)++qs)))) F (x.length) [(15,.slice none 0 0),(60,Ve ((0:Nat):Int))] ?_ ?_
  ·exact⟨0,[],none,0,Z,Z,AU _,Z,λq hq=>(by cases hq),H⟩
  clear F H;intro m S a w hI F
  obtain⟨k,E,AC,cC,rfl,rfl,hk,aH,aJ,H⟩:=hI
  have c2:E.length=k:=by have:=congrArg List.length aH;rw[AH,Aj,Nu aR]at this;omega
  refine gg 6 λa F=>zi (λbQ=>?_) λbQ=>?_
  ·
   have aL:k<x.length:=O
   obtain⟨i,hi⟩:∃i,x[k]?=some i:=⟨_,AA aL⟩
   obtain⟨⟨tA,tc,a2⟩,ht⟩:∃t,b[k]?=some t:=by
    have:b.length=g.length:=by rw[<-a3,AH]
    exact⟨_,AA O⟩
   have aT:g[k]?=some (a2.map PlP.path):=by rw[<-a3,AD,ht];rfl
   have bC:i<a2.length:=by
    have:=aU k i (a2.map PlP.path).length hi (by rw[AD,aT];rfl)
    rwa [AH]at this
   obtain⟨q,hq⟩:∃q,a2[i]?=some q:=⟨_,AA bC⟩
   have b1:(UF g x)[k]?=some q.path:=D5 aT hi (by rw[AD,hq];rfl)
   have aV:=Xnw (hd:=[_,_,_,_,_,_,_,_,_]) H ht
   obtain⟨bK,oK,bX,hK⟩:=aV.1 i q.cells (by rw[AD,hq];rfl)
   obtain rfl:tA=some ⟨bK,oK,none⟩:=bX
   obtain⟨gR,rfl⟩:=JR H 4 Z (λh9=>by
    have h8:=(AB.1 ht).1
    have h7:=congrArg List.length h9
    rw[AH]at h7
    have h6:b.length=0:=h7
    omega)
   refine gg 7 λa F=>?_
   refine zLd F (H.cell 1 Z (N4 hi)) λa F=>?_
   refine gg 8 λa F=>?_
   refine sLd isAgg140 F Z Z Z (GI H 4 Z (λr hr=>by obtain⟨x,_,rfl⟩:=AT.1 hr;rfl) (show(b.map ThP.hd)[k]?=some [Vd bK oK a2.length tc] by rw[AD,ht];rfl)) λa F=>?_
   refine gg 2 λa F=>?_
   refine sLr underlying148 Z ?si F Z Z Z hK ?_
   case si=>exact VT sizeOf148
   clear F a;intro a F;refine XeM H underlying140 sizeOf148 zeroValue148 Z F Z Z Z Z Z λcA a w F H=>?_
   refine G7 (bytes:=104) H 1 underlying140 typeInfo148 Z Z Z Z Z Z F Z Z Z Z Z (H.whole 0 Z) Z ?s1 ?s2 ?_
   case s1=>rfl
   case s2=>(rw[AH];omega)
   clear F a H;intro bB bI a w F H
   refine gg 6 λa F=>?_
   have e3:E.map PlP.cells++[q.cells]=(E++[q]).map PlP.cells:=by simp
   have e4:(E.map PlP.cells++[q.cells]).length=(E++[q]).length:=by simp
   rw[e4]at F;rw[e4,e3]at H
   exact⟨_,O,_,⟨k+1,E++[q],bB,bI,Z,Z,O,by rw[Ae,aH,At,b1];rfl,λz hz=>by
    rcases A8.1 hz with h|h
    ·exact aJ z h
    ·rw[Ay.1 h];exact⟨k,_,ht,AF hq⟩,H.tail⟩,F.toD (by repeat(first|exact trivial|refine Le.cons rfl ?_))⟩
  have aL:k=x.length:=O
  refine gg 2 λa F=>?_
  subst aL
  have aM:E.map PlP.path=UF g x:=by rw[aH,<-Nu aR,FT]
  have c5:u.length<4096:=by
   have h9:=a9.length_le
   rw[AK]at h9
   have h8:u.length=M.length:=by have:=congrArg List.length aA;simpa using this
   have h7:(JA (g.map List.length)).length<=4096:=by rw[<-XpX,aB];exact aE
   have h6:[x].length=1:=rfl
   omega
  refine gg 1 λa F=>?_
  refine zLd F (H.cell 8 Z Z) λa F=>?_
  refine gg 1 λa F=>?_
  refine Xi call60 F Z (XaT G LC IC cC LA IA AC p.init E _ (H.arg hL) (H.arg hI) (RowsAt.own bL H) (H.rowsAt 0 Z Xrm O) (λq hq=>by obtain⟨i,t,h1,h2⟩:=aJ q hq;exact(Xnw (hd:=[_,_,_,_,_,_,_,_,_]) H h1).2 q h2) (λq hq=>by
   obtain⟨i,t,h1,h2⟩:=aJ q hq
   exact U _ (by rw[<-a3];exact AT.2 ⟨t,AF h1,Z⟩) _ (AT.2 ⟨q,h2,Z⟩)) hv O) ?_
  rintro e w a7
  obtain⟨mc,ok,ns,a5,aP,rfl,H2,I⟩:=XpU a7
  rw[aM]at I
  replace H:=(H.join H2).perm Fe
  clear H2 a7
  replace H:Own y none w (.rws 148 12 (.slice AC E.length cC) (E.map PlP.cells)::([.blk gD (Ji x) 3,.rws 99 336 (.slice N u.length P) (u.map (MxP.cells p.init)),.blk C [.slice N u.length P] 94,.rws 140 1 (.slice n b.length o) (b.map ThP.hd),.blk R [.slice n b.length o] 139,.blk J [.bool false] 4,.blk L [.slice none 0 0] 94,.blk Q [Vc G 0] 47]++(b.flatMap ThP.res++(u.flatMap (MxP.res p.init)++(qs++ns))))):=by
   simpa only[AO,Au,FI]using H
  refine zq λa F=>?_
  refine gg 3 λa F=>?_
  refine zAl zeroValue99 H F λbJ a w F H=>?_
  refine sSr H 0 ?si F Z Z Z ?s1 Z (by rw[EV,Mx.len,a5];rfl) ?_
  case si=>rw[a5];exact VT sizeOf99
  case s1=>exact aP
  clear H;intro w H
  refine gg 2 λa F=>?_
  rw[EV,Ju (cs:=(zM 0).cells) (by rw[Mx.len,a5])]at H
  refine gg 7 λa F=>zi (λa1=>?_) λa1=>?_
  ·
   have a6:48<V1 p.init (UF g x) (UF g x).length:=by
    rcases I with⟨_,h⟩|⟨h,_⟩
    ·exact h
    ·rw[h]at a1;cases a1
   refine gg 2 λa F=>?_
   refine zSt H 8 F λw H=>?_
   refine zSt H 7 F λw H=>?_
   refine gg 1 λa F=>?_
   replace H:Own y none w ([.blk bJ mc 99,.rws 148 12 (.slice AC E.length cC) (E.map PlP.cells)]++([.blk gD (Ji x) 3,.rws 99 336 (.slice N u.length P) (u.map (MxP.cells p.init)),.blk C [.slice N u.length P] 94,.rws 140 1 (.slice n b.length o) (b.map ThP.hd),.blk R [.slice n b.length o] 139,.blk J [.bool false] 4,.blk L [.slice none 0 0] 94,.blk Q [Vc G 0] 47]++(b.flatMap ThP.res++(u.flatMap (MxP.res p.init)++(qs++ns))))):=H
   refine gg 1 λa F=>?_
   exact Xq7 _ ⟨Z,⟨x,by simp,a6⟩,[],Z⟩ (H.subl Xid)
  obtain⟨aX,q,aS,bH,rfl,rfl⟩:V1 p.init (UF g x) (UF g x).length<=48/\∃q:MxP,q.ps=UF g x/\q.ok p.init/\mc=q.cells p.init/\ns=q.res p.init:=by
   rcases I with⟨h,_⟩|⟨_,h1,h2⟩
   ·rw[h]at a1;cases a1
   ·exact⟨h1,h2⟩
  refine gg 3 λa F=>?_
  refine sLr underlying99 Z ?si F Z Z Z (H.whole 0 Z) ?_
  case si=>rw[a5];exact VT sizeOf99
  clear F a;intro a F;refine XeM H underlying94 sizeOf99 zeroValue99 Z F Z Z Z (by rw[a5]) Z λcB a w F H=>?_
  refine G7 (bytes:=2488) H 4 underlying94 typeInfo99 Z Z Z Z Z Z F Z Z Z Z Z (H.whole 0 Z) Z ?s1 ?s2 ?_
  case s1=>exact aP
  case s2=>(rw[AH];omega)
  clear F a H;intro X W a w F H
  refine zSt H 5 F λw H=>?_
  refine gg 1 λa F=>?_
  repeat(first|rw[if_pos rfl]|rw[if_neg (by decide)])
  have e3:u.map (MxP.cells p.init)++[q.cells p.init]=(u++[q]).map (MxP.cells p.init):=by simp
  have e4:(u.map (MxP.cells p.init)++[q.cells p.init]).length=(u++[q]).length:=by simp
  rw[e4,e3]at H
  replace H:Own y none w ([.blk gD (Ji x) 3,.rws 99 336 (.slice X (u++[q]).length W) ((u++[q]).map (MxP.cells p.init)),.blk C [.slice X (u++[q]).length W] 94,.rws 140 1 (.slice n b.length o) (b.map ThP.hd),.blk R [.slice n b.length o] 139,.blk J [.bool false] 4,.blk L [.slice none 0 0] 94,.blk Q [Vc G 0] 47]++(b.flatMap ThP.res++(u.flatMap (MxP.res p.init)++(qs++q.res p.init)))):=H.tail.tail.tail
  have HP:Own y none w ([.blk gD (Ji x) 3,.rws 99 336 (.slice X (u++[q]).length W) ((u++[q]).map (MxP.cells p.init)),.blk C [.slice X (u++[q]).length W] 94,.rws 140 1 (.slice n b.length o) (b.map ThP.hd),.blk R [.slice n b.length o] 139,.blk J [.bool false] 4,.blk L [.slice none 0 0] 94,.blk Q [Vc G 0] 47]++(b.flatMap ThP.res++(u.flatMap (MxP.res p.init)++(q.res p.init++qs)))):=H.perm (List.Perm.append_left _ (List.Perm.append_left _ (List.Perm.append_left _ Fe)))
  refine Xbt _ ⟨u++[q],X,W,by rw[Ae,aA,Ae,Iv,Iv,aS],λz hz=>?_,Z⟩ ?_
  ·rcases A8.1 hz with h|h
   ·exact aI z h
   ·rw[Ay.1 h];exact⟨bH,by rw[aS];exact aX⟩
  ·simpa only[AO,Au,FI,Fl,F4,List.flatMap_nil,Ak]using HP
 ·
  intro D w T hi H
  obtain⟨u,N,P,aA,aI,rfl⟩:=hi
  refine gg 3 λa F=>?_
  refine zSt H 6 F λw H=>?_
  refine zSt H 5 F λw H=>?_
  refine gg 2 λa F=>?_
  refine XcN ?_;refine LD H 0 Z λw H=>?_;refine Mz results33 F Z Z isAgg94 isAgg4 H 6 5 Z Z ?_
  exact .inr ⟨u,N,P,λl h9=>aD l (by rw[FT];exact h9),by rw[v];exact aA,aI,Z,H.subl Xo6⟩
 ·
  intro D c M w T a9 hi H
  obtain⟨rfl,⟨d,hd,a6⟩,aC,rfl⟩:=hi
  refine gg 1 λa F=>?_
  refine XcN ?_;refine LD H 0 Z λw H=>?_;refine Mz results33 F Z Z isAgg94 isAgg4 H 2 1 Z Z ?_
  (refine .inl ⟨?_,Z,H.below⟩
   exact .inr (.inr ⟨d,by rw[v];exact a9.subset hd,by rw[v];exact a6⟩))
end Md
def Q9:Nat->Nat
 |0=>1
 |n+1=>(n+1)*Q9 n
theorem Xbd{α:Type}{f:α->Nat}{c:Nat}:∀{l:List α},(∀x∈l,f x=c)->(l.map f).sum=l.length*c
 | [],_=>by simp
 |x::l,h=>by
  rw[FH,List.sum_cons,Xbd (λy b=>h y (by simp[b])),h x (by simp),AY,FB,Ht,Ij]
theorem Xfq{q:Rl}{x:Nat}(g:has s x=true)(h:∀y,has s y=true->q.to y&&&s=0):∀y,has (del s x) y=true->q.to y&&&del s x=0:=λy d=>by
 have c:=Ca g
 rw[JD c,AJ]at d
 have j:=h y d.1
 refine Q8 λi _=>?_
 have b:has (q.to y&&&s) i=false:=by rw[j,V8]
 rw[JE]at b;rw[JE,JD c,V8]
 cases e:has (q.to y) i with
 |false=>rfl
 |true=>rw[e]at b;simp at b;simp[b]
theorem XnU(h:¬s=0):els s≠[]:=λe=>h (Q8 λi _=>by
 rw[V8]
 cases b:has s i with
 |false=>rfl
 |true=>have:=mem_els.2 b;rw[e]at this;cases this)
theorem XjV{q:Rl}:∀(f:Nat)(s:UInt64)(l:List Nat),(∀x,has s x=true->q.to x&&&s=0)->(els s).length<f->(Lh q f s l).length=Q9 (els s).length
 |0,_,_,_,h=>O
 |f+1,s,l,e,h=>by
  rw[Lh]
  split
  ·rename_i d;subst d;rw[Jr];rfl
  ·rename_i d
   have m:=List.length_pos_iff.2 (XnU d)
   obtain⟨k,i⟩:∃k,(els s).length=k+1:=⟨(els s).length-1,O⟩
   rw[It,Xbd (c:=Q9 k),i]
   ·rfl
   ·intro x g
    have b:=mem_els.1 g
    have j:=EP b
    rw[if_pos (e x b),XjV f (del s x) _ (Xfq b e) O]
    congr 1;omega
theorem Xfy{q:Rl}:∀(f:Nat)(s:UInt64)(l o:List Nat),(∀x,has s x=true->q.to x&&&s=0)->(els s).length<f->o.Perm (els s)->l++o∈Lh q f s l
 |0,_,_,_,_,h,_=>O
 |f+1,s,l,o,g,h,c=>by
  rw[Lh]
  split
  ·rename_i d;subst d
   rw[Jr]at c
   rw[c.eq_nil,Ak];exact Ay.2 Z
  ·rename_i d
   cases o with
   |nil=>exact absurd c.symm.eq_nil (XnU d)
   |cons x o=>
    have e:x∈els s:=c.mem_iff.1 (by simp)
    have b:=mem_els.1 e
    refine Hh.2 ⟨x,e,?_⟩
    rw[if_pos (g x b)]
    have i:=Xfy f (del s x) (l++[x]) o (Xfq b g) (by have:=EP b;omega) (by
     rw[MV b]
     have:=c.erase x
     rwa [List.erase_cons_head]at this)
    rwa [AO]at i
theorem XnW{x:Nat}(c:n+1<=48)(d:has s 0=false):(bkR (crs (n+1))).to x&&&s=0:=Q8 λi _=>by
 have e:=(XkB (Ck c)).has i x
 rw[JE,show has ((bkR (crs (n+1))).to x) i=(bkR (crs (n+1))).has x i from Z,e,D0 c,V8]
 by_cases b:i=0
 ·subst b;rw[d];simp
 ·simp[b]
theorem CU(c:n+1<=48):Xds (n+1)=Lh (bkR (crs (n+1))) (n+1) (del (QN ((n+1:Nat):Int)) 0) [0]:=by
 have g:Xds (n+1)=Lh (bkR (crs (n+1))) (n+1+1) (QN ((n+1:Nat):Int)) []:=rfl
 have b:has (QN ((n+1:Nat):Int)) 0=true:=by rw[Jp c];simp
 rw[g,Lh,if_neg (λh=>by rw[h,V8]at b;cases b),MU c,List.range_succ_eq_map,F4]
 have p:(bkR (crs (n+1))).to 0&&&QN ((n+1:Nat):Int)=0:=Q8 λi _=>by
  have d:=(XkB (Ck c)).has i 0
  rw[JE,show has ((bkR (crs (n+1))).to 0) i=(bkR (crs (n+1))).has 0 i from Z,d,D0 c,V8];simp
 have o:((List.range n).map Nat.succ).flatMap (λx=>if(bkR (crs (n+1))).to x&&&QN ((n+1:Nat):Int)=0 then Lh (bkR (crs (n+1))) (n+1) (del (QN ((n+1:Nat):Int)) x) ([]++[x])else[])=[]:=by
  rw[List.flatMap_eq_nil_iff]
  intro x q
  obtain⟨y,m,rfl⟩:=AT.1 q
  have j:=Ab.1 m
  rw[if_neg]
  intro h
  have d:=(XkB (Ck c)).has 0 y.succ
  have e:has ((bkR (crs (n+1))).to y.succ&&&QN ((n+1:Nat):Int)) 0=false:=by rw[h,V8]
  rw[JE,b,show has ((bkR (crs (n+1))).to y.succ) 0=(bkR (crs (n+1))).has y.succ 0 from Z,d,D0 c]at e
  simp at e;omega
 rw[if_pos p,o,Ak];rfl
theorem XaD(d:n+1<=48):has (del (QN ((n+1:Nat):Int)) 0) 0=false/\(els (del (QN ((n+1:Nat):Int)) 0)).length=n/\els (del (QN ((n+1:Nat):Int)) 0)=(List.range n).map Nat.succ:=by
 have b:has (QN ((n+1:Nat):Int)) 0=true:=by rw[Jp d];simp
 have c:els (del (QN ((n+1:Nat):Int)) 0)=(List.range n).map Nat.succ:=by rw[MV b,MU d,List.range_succ_eq_map,List.erase_cons_head]
 exact⟨by rw[JD (by decide)];simp,by rw[c];simp,c⟩
theorem XiJ(b:n<=48):(Xds n).length=Q9 (n-1):=by
 cases n with
 |zero=>rfl
 |succ n=>
  obtain⟨d,c,_⟩:=XaD b
  rw[CU b,XjV _ _ _ (λx _=>XnW b d) O,c];rfl
theorem XlB(b:n+1<=48){o:List Nat}(h:o.Perm ((List.range n).map Nat.succ)):0::o∈Xds (n+1):=by
 obtain⟨c,e,d⟩:=XaD b
 rw[CU b]
 exact Xfy _ _ [0] o (λx _=>XnW b c) O (by rw[d];exact h)
theorem XlA(c:n+1<=48){o:List Nat}(h:o∈Xds (n+1)):∃b,o=0::b:=by
 rw[CU c]at h
 obtain⟨b,rfl,_⟩:=XdV _ _ _ _ (by have:=(XaD c).2.1;omega) h
 exact⟨b,Z⟩
theorem C9{b:Nat}:∀(l:List Nat)(c:Nat),(∀k∈l,1<=k)->l.foldl (Xgx b) (min c b)=min (l.foldl (· * ·) c) b
 | [],_,_=>rfl
 |k::l,c,h=>by
  have d:=h k (by simp)
  rw[Fa,Fa,<-C9 l (c*k) (λy e=>h y (by simp[e]))]
  congr 1
  unfold Xgx
  rcases Nat.le_total c b with h1|h1
  ·rw[Fv h1]
  ·rw[Nat.min_eq_right h1,Nat.min_eq_right (IM _ d),Nat.min_eq_right (AW h1 (IM _ d))]
theorem Xb9:∀(n c:Nat),(List.range' 2 n).foldl (· * ·) c=c*Q9 (n+1)
 |0,c=>by simp[Q9]
 |n+1,c=>by
  rw[List.range'_concat,Fs,Xb9 n]
  show c*Q9 (n+1)*(2+1*n)=c*((n+2)*Q9 (n+1))
  rw[Nat.mul_assoc,IH (Q9 (n+1))];congr 2;omega
theorem Xpr{d c b:Nat}:Xqd d (min c d) b=min (c*Q9 (b-1)) d:=by
 unfold Xqd
 rw[C9 _ _ (λk g=>by have:=List.mem_range'.1 g;omega)]
 congr 1
 rcases AN b 2 with h|h
 ·have e:b-2=0:=O
  have i:b-1=0:=O
  rw[e,i];simp[Q9]
 ·rw[Xb9];congr 2;omega
theorem Xfx{b:Nat}:∀(l:List Nat)(c:Nat),l.foldl (Xqd b) (min c b)=min ((l.map λn=>Q9 (n-1)).foldl (· * ·) c) b
 | [],_=>rfl
 |n::l,c=>by rw[Fa,Xpr,Xfx l];rfl
theorem Xr3{v:List UInt8}{b:List PathP}{c:Nat}(p:1<=c)(d:(UE v b b.length).length<=48):Xr4 ((Gv (UE v b b.length)).map List.length) ((Qn (UE v b b.length) v.length).map List.length) c=min (UG v b).length c:=by
 unfold Xr4 UG
 rw[AH]
 split
 ·rename_i g
  rw[EE _ (by unfold szL;exact II _ g)];simp
 ·rename_i g
  have o:(1:Nat)=min 1 c:=O
  rw[o,C9 _ _ (λk m=>Nat.pos_of_ne_zero λe=>g (e▸m)),Xfx]
  congr 1
  have h:=MH (szL (UE v b b.length) v.length) 1
  rw[Ht]at h
  rw[<-h];unfold szL
  rw[Fs,Fj]
  congr 1
  refine H9 λw j=>?_
  obtain⟨i, -,rfl⟩:=AT.1 j
  show Q9 ((wrL (UE v b b.length) i).length-1)=(GG _).length
  unfold GG
  rw[AH,XiJ (n:=(wrL (UE v b b.length) i).length) (AW GH d)]
theorem XdC:∀{S:List Nat}{s:Nat},0∉S->s∈S->s<=(JA S).length
 |n::r,s,c,g=>by
  have e:=MH (n::r) 1
  rw[Ht,Fa,Ht,MH]at e
  have i:1<=n:=Nat.pos_of_ne_zero λe=>c (by simp[e])
  have b:0∉r:=λh=>c (by simp[h])
  have d:1<=(JA r).length:=by rw[MG r b];simp
  rw[<-e]
  rcases Ap.1 g with h|h
  ·rw[h];exact IM _ d
  ·exact AW (XdC b h) (Nat.le_mul_of_pos_left _ i)
/-! ### What is marked -/
def QS(W:Nat->Bool):List Value:=(List.range 256).map λv=>.bool (W v)
theorem Xhr{W:Nat->Bool}(h:k<256):(QS W)[k]?=some (.bool (W k)):=by
 unfold QS;rw[AD,Av h];rfl
theorem Xqu{W:Nat->Bool}(h:k<256):(QS W).set k (.bool true)=QS λv=>W v||v==k:=by
 refine Ar λi=>?_
 rcases AN i 256 with hi|hi
 ·rw[Am,Xhr hi]
  by_cases b:k=i
  ·subst b
   rw[if_pos Z,if_pos (by simp[QS,h]),Xhr hi,beq_self_eq_true,Bool.or_true]
  ·rw[if_neg b,Xhr hi]
   have:(i==k)=false:=by simpa using λe:i=k=>b e.symm
   rw[this,Bool.or_false]
 ·rw[AV (by simp[QS];omega),AV (by simp[QS];omega)]
def evW(e:Ev)(v:Nat):Bool:=e.kind==2&&v==e.val.toNat
def wrote(r:RunP)(j v:Nat):Bool:=(List.range j).any λk=>evW (r.ev k) v
def UZ(b:List RunP)(v:Nat):Bool:=b.any λr=>wrote r r.many v
theorem BA(r:RunP)(j v:Nat):wrote r (j+1) v=(wrote r j v||evW (r.ev j) v):=by
 unfold wrote;rw[HB,List.any_append];simp
theorem XcS(b:List RunP)(r:RunP)(v:Nat):UZ (b++[r]) v=(UZ b v||wrote r r.many v):=by
 unfold UZ;rw[List.any_append];simp
def byW(k:Nat)(W:Nat->Bool):List UInt8:=((List.range k).filter W).map UInt8.ofNat
theorem byW_T{W:Nat->Bool}(h:W k=true):byW (k+1) W=byW k W++[UInt8.ofNat k]:=by
 unfold byW;rw[HB,Fz];simp[h]
theorem Xr7{W:Nat->Bool}(h:W k=false):byW (k+1) W=byW k W:=by
 unfold byW;rw[HB,Fz];simp[h]
theorem Xn2(k:Nat)(W:Nat->Bool):(byW k W).length<=k:=by
 unfold byW;rw[AH]
 exact AW (Fy _ _) (by simp)
def Gd(l:List Ins)(b:List UInt8):List UInt8×Bool:=if 4096<(JH l b).length then([],false)else(byW 256 (UZ (JH l b)),true)
theorem XmD{w:World}{b:Nat}{r:RunP}(e:Qm w b r)(hm:r.many<=24){j:Nat}(g:j<r.many):w.rangeAt b (19+j*7) (r.ev j).cells:=λi v c=>by
 have d:i<7:=(AB.1 c).1
 rw[Ev.cells_at _ d]at c
 obtain rfl:=Ac c
 exact e.cell _ (Xkt r O d)
theorem Xqv:(Value.agg zeroCells201).cells.toList=QS λ_=>false:=by kernel_rfl
def Xhe(q:List UInt8×Bool)(b:World)(e:Ending)(c:World):Prop:=
 ∃(A:Option Addr)(C:Nat),e=.returned (.tuple #[.slice A q.1.length C,.bool q.2])/\Own b none c [.rws 5 1 (.slice A q.1.length C) (q.1.map λx=>[b8 x])]
namespace Md
theorem writes_any(l:List Ins)(d:List UInt8)(hl:Ua 6 l=true)(A:Option Addr)(C:Nat)(J:Option Addr)(V:Nat)(o:World)(hA:RowsAt o A 10 (l.map Ins.cells))(hD:BytesAt o J d)(W:d.length<=1000000):
 Calls prog 57 #[.slice A l.length C,.slice J d.length V] o (Xhe (Gd l d) o):=by
 have H:=Own.start o none
 have a2:=NW hl
 refine Ec func57 Z ntmps57 Z (λa F=>?_)
 refine gg 2 λa F=>?_
 refine zAl zeroValue23 H F λL a w F H=>?_
 refine zAl zeroValue4 H F λI a w F H=>?_
 refine gg 3 λa F=>?_
 refine zAl zeroValue201 H F λN a w F H=>?_
 rw[Xqv]at H
 refine gg 3 λa F=>?_
 refine zAl zeroValue3 H F λS a w F H=>?_
 refine zSt H 0 F λw H=>?_
 refine gg 6 λa F=>?_
 refine Xi call110 F Z (Xax A l.length C J d.length V _) ?_;rintro e w ⟨b2,b3,rfl,H2⟩;replace H:=H.join H2;clear H2
 refine zq λa F=>?_
 refine gg 2 λa F=>?_
 have X:=(H.sel [2,3,5,4,1,0] Z Z)
 refine Xiz 4 F Z Z (enters_of func167 Y Z) X (DS l d hl A C J V o hA W _ b2 b3 (λw H=>H.cell 0 Z Z) (λw H=>H.cell 1 Z Z) (λw H=>hD.own H)) (λb n=>n=[.blk S [Ve (b.length:Int)] 3,.blk N (QS (UZ b)) 201,.blk L [.slice none 0 0] 23,.blk I [.bool false] 4]/\b.length<=4096) (λc b n=>c=.ret/\n=[.blk S [Ve ((b.length-1:Nat):Int)] 3,.blk N (QS (UZ (b.take (b.length-1)))) 201,.blk L [.slice none 0 0] 23,.blk I [.bool false] 4]/\4096<b.length) (⟨Z,AU _⟩) (λv=>[(8,v)]) ?_ ?_ ?_ ?_
 ·
  clear X H F a;intro P a w v K y hK;refine Md.cReg ?_;refine sAs y Z Z Z λa y=>?_
  refine Md.sNil ?_ y
  exact hK _ y
 ·
  clear X H F a;intro P b x bx w a8 qs a E r t H F
  obtain⟨rfl,B⟩:=E
  have s:x.many<=24:=by have:=t.many;have:=t.pc;omega
  refine gg 8 λa F=>zi (λM=>?_) λM=>?_
  ·
   refine gg 2 λa F=>?_
   refine zSt H 3 F λw H=>?_
   refine zSt H 4 F λw H=>?_
   refine gg 2 λa F=>?_
   exact Xq7 _ ⟨Z,Z,by rw[AK,FQ];omega⟩ (by rw[AK,FQ,HQ,List.take_left' Z];exact H)
  refine gg 4 λa F=>?_
  refine Xh F Z Z (JN ?_) ?_
  focus omega
  clear F a;intro a F
  refine zSt H 1 F λw H=>?_
  refine gg 2 λa F=>?_
  refine cRegRO Y H ?_;replace H:=H.drew
  refine gg 6 λa F=>?_
  refine Xe 6 Z F Z Z (λw H=>rLd isAgg3 F Z (show _=some (Ve (x.many:Int))from H.cell 0 Z (M3 x))) H qq0 λa F=>?_
  refine Xa (k:=7) (i:=7) Z F Z Z (λw H=>XiG underlying209 sizeOf156 F Z Z ?_) H (λ_ _ _ h=>h) ?_
  focus(omega)
  clear F a;intro a F
  refine gg 4 λa F=>?_
  refine cLoopS [4,5,6,29,30] (λm g w=>∃j:Nat,m=x.many-j/\g=[(31,Ve ((j:Nat):Int))]/\j<=x.many/\Own o none w (.blk bx x.cells 212:: .blk S [Ve ((b.length+1:Nat):Int)] 3:: .blk N (QS λv=>UZ b v||wrote x j v) 201:: .blk L [.slice none 0 0] 23:: .blk I [.bool false] 4::qs)) F (x.many) [(31,Ve ((0:Nat):Int))] ?_ ?_
  ·have e0:(λv=>UZ b v||wrote x 0 v)=UZ b:=funext λv=>by simp[wrote]
   refine⟨0,Z,Z,AU _,?_⟩
   rw[e0]
   exact H
  clear F H;intro m g a w U F
  obtain⟨j,rfl,rfl,hj,H⟩:=U
  refine gg 6 λa F=>zi (λR=>?_) λR=>?_
  ·
   refine gg 6 λa F=>?_
   refine sLr underlying156 Z ?si F Z Z Z (XmD (H.blk 0 Z) s O) ?_
   case si=>exact VT sizeOf156
   clear F a;intro a F
   refine zAl zeroValue156 H F λa4 a w F H=>?_
   refine sSr H 0 ?si F Z Z Z ?s1 Z Z ?_
   case si=>exact VT sizeOf156
   case s1=>rfl
   clear H;intro w H
   refine gg 8 λa F=>zi (λq=>?_) λq=>?_
   ·
    have T:(λv=>(UZ b v||wrote x j v)||v==(x.ev j).val.toNat)=λv=>UZ b v||wrote x (j+1) v:=funext λv=>by
     rw[BA,Bool.or_assoc,evW,q];rfl
    refine gg 3 λa F=>?_
    refine XqS underlying201 sizeOf4 F Z Z Z Z ?_ ?_
    focus exact UInt8.toNat_lt _
    clear F a;intro a F;refine sSt H 3 sizeOf4 F Z Z Z Z Z (Xhr (UInt8.toNat_lt _)) λw H=>?_;rw[Xqu (UInt8.toNat_lt _)]at H
    refine gg 5 λa F=>?_
    rw[T]at H
    exact⟨_,O,_,⟨j+1,Z,Z,O,H.tail⟩,F.toD (by repeat(first|exact trivial|refine Le.cons rfl ?_))⟩
   have T:(λv=>UZ b v||wrote x j v)=λv=>UZ b v||wrote x (j+1) v:=funext λv=>by
    have:((x.ev j).kind==2)=false:=by simpa using q
    rw[BA,evW,this];simp
   refine gg 5 λa F=>?_
   rw[T]at H
   exact⟨_,O,_,⟨j+1,Z,Z,O,H.tail⟩,F.toD (by repeat(first|exact trivial|refine Le.cons rfl ?_))⟩
  refine gg 1 λa F=>?_
  repeat(first|rw[if_pos rfl]|rw[if_neg (by decide)])
  obtain rfl:j=x.many:=O
  have el:(λv=>UZ b v||wrote x x.many v)=UZ (b++[x]):=funext λv=>(XcS b x v).symm
  rw[el]at H
  exact Xbt _ ⟨Z,by rw[AK,FQ];omega⟩ (by rw[AK,FQ];exact H)
 ·
  intro D w n E H
  obtain⟨rfl,B⟩:=E
  refine gg 3 λa F=>?_
  replace H:=H.nilRws 5 1
  refine gg 8 λa F=>?_
  refine cLoopS [4,5,42] (λm g w=>∃(k:Nat)(z:Option Addr)(G:Nat),m=256-k/\g=[(11,.slice z (byW k (UZ (JH l d))).length G),(43,Ve ((k:Nat):Int))]/\k<=256/\Own o none w [.rws 5 1 (.slice z (byW k (UZ (JH l d))).length G) ((byW k (UZ (JH l d))).map λx=>[YtajfpcgbnflceaaGreatDoor.b8 x]),.obj D (.deferred (some [])),.blk L [.slice none 0 0] 23,.blk I [.bool false] 4]) F (256) [(11,.slice none 0 0),(43,Ve ((0:Nat):Int))] ?_ ?_
  ·exact⟨0,none,0,Z,Z,AU _,H.sel [0,1,4,5] Z Z⟩
  clear F H;intro m g a w U F
  obtain⟨k,z,G,rfl,rfl,hk,H⟩:=U
  refine gg 6 λa F=>zi (λa1=>?_) λa1=>?_
  ·
   refine gg 6 λa F=>?_
   refine sIdG underlying201 sizeOf4 isAgg4 F Z Z Z Z O (Xhr O) λa F=>?_
   refine gg 7 λa F=>?_
   refine cIf F Z (λp=>?_) (λp=>?_)
   ·
    refine gg 4 λa F=>?_
    refine XeN H underlying23 sizeOf5 zeroValue5 Z F Z Z Z Z λa7 a w F H=>?_
    refine G7 (bytes:=1) H 1 underlying23 typeInfo5 Z Z Z Z Z Z F Z Z Z Z Z (H.whole 0 Z) Z ?s1 ?s2 ?_
    case s1=>rfl
    case s2=>(rw[AH];have:=Xn2 k (UZ (JH l d));omega)
    clear F a H;intro a6 a5 a w F H
    refine gg 6 λa F=>?_
    (have Q:UZ (JH l d) k=true:=p
     have e9:((byW k (UZ (JH l d))).map λx=>[YtajfpcgbnflceaaGreatDoor.b8 x])++[[Value.int .u8 ((UInt8.ofNat k).toNat:Int)]]=(byW (k+1) (UZ (JH l d))).map λx=>[YtajfpcgbnflceaaGreatDoor.b8 x]:=by rw[byW_T Q,Ae];rfl
     have e8:((byW (k+1) (UZ (JH l d))).map λx=>[YtajfpcgbnflceaaGreatDoor.b8 x]).length=(byW (k+1) (UZ (JH l d))).length:=AH _
     rw[e9,e8]at H F
     exact⟨_,O,_,⟨k+1,_,_,Z,Z,O,H.tail.sel [0,1,2,3] Z Z⟩,F.toD (by repeat(first|exact trivial|refine Le.cons rfl ?_))⟩)
   refine gg 5 λa F=>?_
   (have u:UZ (JH l d) k=false:=p
    refine⟨_,?_,_,⟨k+1,z,G,Z,Z,O,?_⟩,?_⟩
    ·omega
    ·rw[Xr7 u];exact H
    ·rw[Xr7 u];exact F.toD (by repeat(first|exact trivial|refine Le.cons rfl ?_)))
  refine gg 4 λa F=>?_
  refine zSt H 2 F λw H=>?_
  refine zSt H 3 F λw H=>?_
  refine gg 2 λa F=>?_
  refine XcN ?_;refine LD H 1 Z λw H=>?_;refine Mz results57 F Z Z isAgg23 isAgg4 H 2 3 Z Z ?_
  (obtain rfl:k=256:=O
   have e:Gd l d=(byW 256 (UZ (JH l d)),true):=by unfold Gd;rw[if_neg O]
   rw[e]
   exact⟨z,G,Z,H.sel [0] Z Z⟩)
 ·
  intro D c b w n r E H
  obtain⟨rfl,rfl,B⟩:=E
  have a3:=r.length_le
  refine gg 1 λa F=>?_
  refine XcN ?_;refine LD H 0 Z λw H=>?_;refine Mz results57 F Z Z isAgg23 isAgg4 H 3 4 Z Z ?_
  (have e:Gd l d=([],false):=by unfold Gd;rw[if_pos O]
   rw[e]
   exact⟨none,0,Z,(H.nilRws 5 1).sel [0] Z Z⟩)
end Md
theorem Qs(h:VX p=0)(o:p.threads[k]?=some l):Ua 6 l=true:=by
 have t:=valid h
 have m:J7 p=true:=U3 h 3 O
 simp only[J7,Ah]at m
 have e:=m l (AF o)
 simp only[Ua,AJ,decide_eq_true_eq]at e⊢
 have u:=t.locs6
 refine⟨e.1,?_⟩
 have b:∀(n:Nat)(q:List Ins)(i:Nat),GK (p.locs.length:Int) n i q=true->GK 6 n i q=true:=by
  intro n q
  induction q with
  |nil=>intro i _;rfl
  |cons x q s=>
   intro i c
   simp only[GK,AJ]at c⊢
   refine⟨?_,s _ c.2⟩
   have d:=c.1
   unfold LF at d⊢
   rw[Ah]at d⊢
   intro j r
   have g:=d j r
   match j,g with
   |0,h|1,h|2,h|4,h|5,h|6,h|7,h=>exact h
   |3,h=>
    simp only[Jt,FM,decide_eq_true_eq]at h⊢
    rcases h with h|h
    ·exact .inl h
    ·exact .inr O
   |j+8,_=>rfl
 exact b _ _ _ e.2
theorem Xke{a b:List UInt8}(h:∀x∈a,x∈b):(Um a).length<=(Um b).length:=by
 unfold Um
 rw[<-IP,<-IP]
 refine List.countP_mono_left λx _ c=>?_
 simp only[Ik]at c⊢
 exact h x c
theorem M0(l:List UInt8):Um (Um l)=Um l:=(Xkd (l:=Um l) (m:=Um l) (XfB l) λ_=>Iff.rfl).symm
def EY(p:Prg)(vals:List UInt8):Option (List UInt8):=
 if p.threads.all (λl=>(Gd l vals).2)=true then some (Um (vals++p.threads.flatMap λl=>(Gd l vals).1))else none
def goV(p:Prg)(most:Int):Nat->List UInt8->List UInt8×Nat
 |0,_=>([],5)
 |f+1,vals=>if most<(vals.length:Int)then([],5)else match EY p vals with
  |none=>([],5)
  |some b=>if b.length=vals.length then(vals,0)else goV p most f b
def V5(p:Prg)(most:Int):List UInt8×Nat:=if most<0\/16<most\/VX p≠0 then([],2)else goV p most 18 (Um p.init)
theorem Xml(h:most<(vals.length:Int)):goV p most f vals=([],5):=by
 cases f with
 |zero=>rfl
 |succ f=>unfold goV;rw[if_pos h]
theorem Xmk(h:EY p vals=none):goV p most f vals=([],5):=by
 cases f with
 |zero=>rfl
 |succ f=>
  unfold goV
  split
  ·rfl
  ·rw[h]
theorem Xpm{b:List UInt8}(h:¬most<(vals.length:Int))(hs:EY p vals=some b)(c:b.length=vals.length):goV p most (f+1) vals=(vals,0):=by
 unfold goV;rw[if_neg h,hs];show(if b.length=vals.length then _ else _)=_;rw[if_pos c]
theorem XrR{b:List UInt8}(h:¬most<(vals.length:Int))(hs:EY p vals=some b)(c:¬b.length=vals.length):goV p most (f+1) vals=goV p most f b:=by
 rw[goV,if_neg h,hs];show(if b.length=vals.length then _ else _)=_;rw[if_neg c]
theorem Lk(h:most<0\/16<most\/VX p≠0):V5 p most=([],2):=by unfold V5;rw[if_pos h]
theorem XhC(d:¬most<0)(b:¬16<most)(c:VX p=0):V5 p most=goV p most 18 (Um p.init):=by
 unfold V5;rw[if_neg (by rintro(h|h|h);exact d h;exact b h;exact h c)]
theorem Xa3(l:List Ins)(b:List UInt8):(Gd l b).1.length<=256:=by
 unfold Gd;split
 ·exact AU _
 ·exact Xn2 _ _
def Qz(p:Prg)(vals:List UInt8)(j:Nat):List UInt8:=vals++(p.threads.take j).flatMap λl=>(Gd l vals).1
theorem Xgt{j:Nat}(h:p.threads[j]?=some l):Qz p vals (j+1)=Qz p vals j++(Gd l vals).1:=by
 unfold Qz;rw[At,h,Fl];simp
theorem Xe7(p:Prg)(vals:List UInt8):∀j,(Qz p vals j).length<=vals.length+256*j:=λj=>by
 have h:∀(q:List (List Ins)),(q.flatMap λl=>(Gd l vals).1).length<=256*q.length:=λq=>by
  induction q with
  |nil=>simp
  |cons l q c=>
   rw[F4,AK,AY]
   have:=Xa3 l vals
   omega
 unfold Qz
 rw[AK]
 have d:=h (p.threads.take j)
 have b:(p.threads.take j).length<=j:=by rw[Aj];omega
 have:256*(p.threads.take j).length<=256*j:=Nat.mul_le_mul_left _ b
 omega
theorem Xf1(c:l∈p.threads)(h:(Gd l vals).2=false):EY p vals=none:=by
 unfold EY
 rw[if_neg]
 intro b
 have:=Ah.1 b l c
 rw[h]at this;cases this
theorem BH(h:∀l∈p.threads,(Gd l vals).2=true):EY p vals=some (Um (Qz p vals p.threads.length)):=by
 unfold EY Qz
 rw[if_pos (Ah.2 h),FT]
theorem Xox(hd:Um vals=vals)(j:Nat):vals.length<=(Um (Qz p vals j)).length:=by
 rw[<-congrArg List.length hd]
 exact Xke λx b=>II _ b
abbrev Bd(l:List UInt8):List (List Value):=l.map λx=>[b8 x]
def Cs(q:List UInt8×Nat)(b:World)(e:Ending)(c:World):Prop:=
 ∃(A:Option Addr)(C:Nat),e=.returned (.tuple #[.slice A q.1.length C,.int .i64 (q.2:Int)])/\Own b none c [.rws 5 1 (.slice A q.1.length C) (Bd q.1)]
theorem Q4{c w:World}{d:List Res}(H:Own c none w d)(b:Nat):Cs ([],b) c (.returned (.tuple #[.slice none 0 0,Ve (b:Int)])) w:=
 ⟨none,0,Z,(H.nilRws 5 1).sel [0] Z Z⟩
theorem Ql{l:List UInt8}:∀r∈Bd l,r.length=1:=λ_ b=>XkI b
theorem Xhb{l:List UInt8}:∀r∈Bd l,r.all (·.oneCell')=true:=λr b=>by
 obtain⟨x,_,rfl⟩:=AT.1 b;rfl
theorem Xhf(cs:List Value)(p:Prg)(most:Int)(B:World)(hP:ProgAt B cs p)(hN:NeedsAt B):
 Calls prog 32 #[.agg cs.toArray,Ve most] B (Cs (V5 p most) B):=by
 have H:=Own.start B none
 have Q:=hP
 obtain⟨LA,LC,W,N,TA,TC,h,a2,G⟩:=hP
 obtain⟨d1,d2,d3,d4,d5,rfl⟩:=Xa2 (Uk G.cond)
 have R:=G.cs
 subst R
 have hn:=G.threadsN
 refine VU func32 Z ntmps32 Z (λa F=>?_)
 refine gg 2 λa F=>?_
 refine zBx H F λb2 a w F H=>?_
 refine gg 9 λa F=>?_
 refine zSp 14 F (λC F=>?_) λC F=>?_
 ·
  refine gg 9 λa F=>?_
  refine cIfT F Z ?_
  refine gg 6 λa F=>?_
  refine Gy results32 F Z Z ?_
  (rw[Lk (.inl C)];exact Q4 H 2)
 refine gg 4 λa F=>?_
 refine zSp 18 F (λE F=>?_) λE F=>?_
 ·
  refine gg 5 λa F=>?_
  refine cIfT F Z ?_
  refine gg 6 λa F=>?_
  refine Gy results32 F Z Z ?_
  (rw[Lk (.inr (.inl E))];exact Q4 H 2)
 refine gg 1 λa F=>?_
 refine zCa F (Qb _ p _ (Q.own H) (hN.own H)) H λa w F H=>?_
 refine gg 4 λa F=>zi (λA=>?_) λA=>?_
 ·
  refine gg 6 λa F=>?_
  refine Gy results32 F Z Z ?_
  (rw[Lk (.inr (.inr A))];exact Q4 H 2)
 have y:VX p=0:=A
 have J:=valid y
 refine gg 5 λa F=>?_
 refine Xi call55 F Z (Nb W N p.init _ (RowsAt.own G.init H) (by have:=J.init;have:=J.locs6;omega)) ?_;rintro e w ⟨g,d,rfl,c⟩;replace H:=H.join c;clear c
 refine zq λa F=>?_
 refine gg 3 λa F=>?_
 refine cLoopS [1,2] (λm b w=>∃(f:Nat)(vals:List UInt8)(g:Option Addr)(d:Nat),m=f/\b=[(6,.slice g vals.length d)]/\Um vals=vals/\18<=vals.length+f/\goV p most f vals=V5 p most/\Own B none w [.rws 5 1 (.slice g vals.length d) (Bd vals),.blk b2 ([.string p.name,.slice LA p.locs.length LC,.slice W p.init.length N,.slice TA p.threads.length TC,YtajfpcgbnflceaaGreatDoor.b8 p.ask]++[d1,d2,d3,d4,d5]) 29]) F (18) [(6,.slice g (Um p.init).length d)] ?_ ?_
 ·exact⟨18,Um p.init,g,d,Z,Z,M0 _,O,(XhC C E y).symm,H⟩
 clear F H;intro m b a w X F
 obtain⟨f,vals,g,d,rfl,rfl,T,a3,o,H⟩:=X
 refine gg 10 λa F=>zi (λD=>?_) λD=>?_
 ·
  refine gg 6 λa F=>?_
  refine Gy results32 F Z Z ?_
  (rw[<-o,Xml D];exact Q4 H 5)
 have q:¬most<(vals.length:Int):=O
 obtain⟨f,rfl⟩:∃f',m=f'+1:=⟨m-1,O⟩
 refine gg 4 λa F=>?_
 refine Xi call56 F Z (LQ g d vals _ (H.rowsAt 0 Z Ql O) O) ?_;rintro e w ⟨s,u,rfl,c⟩;replace H:=H.join c;clear c
 refine zq λa F=>?_
 refine gg 11 λa F=>?_
 refine cLoopS [1,2,6,33,34] (λm b w=>∃(j:Nat)(s:Option Addr)(u:Nat),m=p.threads.length-j/\b=[(7,.slice s (Qz p vals j).length u),(35,Ve ((j:Nat):Int))]/\j<=p.threads.length/\(∀i l,i<j->p.threads[i]?=some l->(Gd l vals).2=true)/\Own B none w [.rws 5 1 (.slice s (Qz p vals j).length u) (Bd (Qz p vals j)),.rws 5 1 (.slice g vals.length d) (Bd vals),.blk b2 ([.string p.name,.slice LA p.locs.length LC,.slice W p.init.length N,.slice TA p.threads.length TC,YtajfpcgbnflceaaGreatDoor.b8 p.ask]++[d1,d2,d3,d4,d5]) 29]) F (p.threads.length) [(7,.slice s vals.length u),(35,Ve ((0:Nat):Int))] ?_ ?_
 ·have e0:Qz p vals 0=vals:=by simp[Qz]
  refine⟨0,s,u,Z,by rw[e0],AU _,λi l z=>O,?_⟩
  rw[e0];exact H
 clear F H;intro m b a w X F
 obtain⟨j,s,u,rfl,rfl,hj,r,H⟩:=X
 refine gg 6 λa F=>zi (λK=>?_) λK=>?_
 ·
  have M:j<p.threads.length:=O
  obtain⟨l,n⟩:∃l,p.threads[j]?=some l:=⟨_,AA M⟩
  obtain⟨bT,oT,BT,CT,rfl,a5,L,a1⟩:=G.threads j l n
  have U:=Qs y n
  refine gg 13 λa F=>?_
  refine Xi call57 F Z (Md.writes_any l vals U BT CT g d _ (L.own H) (H.rowsAt 1 Z Ql O) O) ?_;rintro e w ⟨A5,c5,rfl,c⟩;replace H:=H.join c;clear c
  refine zq λa F=>?_
  refine gg 13 λa F=>zi (λv=>?_) λv=>?_
  ·
   refine gg 6 λa F=>?_
   refine Gy results32 F Z Z ?_
   (rw[<-o,Xmk (Xf1 (AF n) v)];exact Q4 H 5)
  refine gg 4 λa F=>?_
  refine XqV (bytes:=1) (sz:=1) H 1 underlying23 typeInfo5 Z Z Z Z Z Z F Z Z Z Z Z ?hm ((H.rowsAt 0 Z Ql O)) (Ql) (Xhb) ?hb ?_
  case hm=>(simp;done)
  case hb=>exact((by rw[AH];have:=Xe7 p vals j;have:=Xa3 l vals;have:=J.thr4;omega))
  clear F a H;intro V S a w F H
  refine gg 6 λa F=>?_
  have e9:Bd (Qz p vals j)++Bd (Gd l vals).1=Bd (Qz p vals (j+1)):=by rw[Xgt n];simp[Bd]
  have e8:(Bd (Qz p vals (j+1))).length=(Qz p vals (j+1)).length:=AH _
  rw[e9,e8]at H F
  refine⟨_,O,_,⟨j+1,V,S,Z,Z,O,λi l' z I=>?_,H.tail⟩,F.tt⟩
  rcases AN i j with hij|hij
  ·exact r i l' hij I
  ·obtain rfl:i=j:=O
   obtain rfl:=Ac (n.symm.trans I)
   exact v
 obtain rfl:j=p.threads.length:=O
 refine gg 4 λa F=>?_
 refine Xi call55 F Z (Nb s u (Qz p vals p.threads.length) _ (H.rowsAt 0 Z Ql O) (by have:=Xe7 p vals p.threads.length;have:=J.thr4;omega)) ?_;rintro e w ⟨A6,c6,rfl,c⟩;replace H:=H.join c;clear c
 refine zq λa F=>?_
 refine gg 12 λa F=>zi (λP=>?_) λP=>?_
 ·
  have t:=BH (p:=p) (vals:=vals) (λl n=>by obtain⟨i,z⟩:=Af.1 n;exact r i l (AB.1 z).1 z)
  refine gg 7 λa F=>?_
  refine Gy results32 F Z Z ?_
  (rw[<-o,Xpm q t O];exact⟨g,d,Z,H.sel [2] Z Z⟩)
 have t:=BH (p:=p) (vals:=vals) (λl n=>by obtain⟨i,z⟩:=Af.1 n;exact r i l (AB.1 z).1 z)
 refine gg 5 λa F=>?_
 have a4:=Xox T (p:=p) p.threads.length
 exact⟨f,O,_,⟨f,Um (Qz p vals p.threads.length),A6,c6,Z,Z,M0 _,O,by rw[<-o,XrR q t O],H.sel [0,3] Z Z⟩,F.tt⟩
end Go.Proofs.YtajfpcgbnflceaaGreatDoor
