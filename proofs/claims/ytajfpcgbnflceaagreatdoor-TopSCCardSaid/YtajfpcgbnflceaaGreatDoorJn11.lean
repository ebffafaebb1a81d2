/- WALK2. Package cand: candidates; the orders of each location in memory; a call of yield in a round. Conditions: those of each theorem. -/
import Derived.Test.YtajfpcgbnflceaaGreatDoorJn10
set_option linter.unusedSimpArgs false
set_option linter.unusedVariables false
namespace Go.Proofs.YtajfpcgbnflceaaGreatDoor
open Go.Proofs.Tryz
open Go.RowKit
set_option maxRecDepth 100000
set_option maxHeartbeats 4000000
variable{i j n:Nat}{l:List Ins}{p:Prg}{ps:List PathP}{row:Option Nat}{rs:List Res}{tss:List (List PathP)}{v:List UInt8}{w w0:World}{z:RunP}
theorem XlI{qs:List Res}(h:qs.Sublist rs):∀b:List Res,Own w0 row w (b++rs)->Own w0 row w (b++qs):=by
 induction h with
 |slnil=>exact λ_ H=>H
 |cons a _ c=>exact λb H=>c b (H.perm FS).tail
 |cons_cons a _ c=>
  intro b H
  have h:=c (b++[a]) (by rw[AO];exact H)
  rw[AO]at h;exact h
theorem Own.subl{qs:List Res}(H:Own w0 row w rs)(h:qs.Sublist rs):Own w0 row w qs:=XlI h [] H
theorem Xrn{α:Type}(A B C R:List α):(A++(B++(C++R))).Perm (C++(A++(B++R))):=by
 rw[<-AO A B,<-AO A B]
 exact H8 _ _ _
theorem Xbb{a b c d B:Res}{e ps ts zs:List Res}(H:Own w0 row w (d::(([a,b,c,B]++(e++(ps++ts)))++zs))):Own w0 row w (ps++(B::ts)):=by
 have i:Own w0 row w (B::(e++(ps++ts))):=(Own.front (xs:=[a,b,c,B]++(e++(ps++ts))) H.tail).tail.tail.tail
 have g:Own w0 row w (e++(B::(ps++ts))):=i.perm FS.symm
 exact(Own.suf g).perm FS.symm
section
variable{x:Xc}{a j A B:Nat}{s:UInt64}{u:UInt8}
theorem Xqp:x.cells=(x.ev::x.po.cells)++(x.rf.cells++(x.co.cells++(x.da.cells++(x.ct.cells++(x.rm.cells++bs 38 x.fi))))):=rfl
theorem Xqr:x.cells=(x.ev::(x.po.cells++x.rf.cells))++(x.co.cells++(x.da.cells++(x.ct.cells++(x.rm.cells++bs 38 x.fi)))):=by
 unfold Xc.cells;simp only[Au,AO]
theorem Xqq:x.cells=(x.ev::(x.po.cells++(x.rf.cells++(x.co.cells++(x.da.cells++(x.ct.cells++x.rm.cells))))))++bs 38 x.fi:=by
 unfold Xc.cells;simp only[Au,AO]
theorem Xhm:(x.ev::x.po.cells).length=50:=by rw[AY,Rl.len]
theorem Xog:(x.ev::(x.po.cells++x.rf.cells)).length=99:=by simp only[AY,AK,Rl.len]
theorem Xhn:(x.ev::(x.po.cells++(x.rf.cells++(x.co.cells++(x.da.cells++(x.ct.cells++x.rm.cells)))))).length=295:=by simp only[AY,AK,Rl.len]
theorem Xq5(b:a<48):x.cells[50+1+a]?=some (d8 (x.rf.to a)):=by rw[Xqp];exact XhW Xhm b
theorem Xq3(b:a<48):x.cells.set (50+1+a) (d8 s)=({x with rf:=x.rf.put a s}:Xc).cells:=by
 conv=>lhs;rw[Xqp]
 rw[Xda Xhm b];rfl
theorem XpG{l:List Nat}(h:∀y∈l,y<48):(lnS 99 x.cells l).1=({x with co:=(Ej (x.co,0) l).1}:Xc).cells:=by
 unfold lnS
 conv=>lhs;rw[Xqr]
 rw[Xaj Xog l _ _ h,Xqr (x:={x with co:=_})]
theorem XrV(c:j<38):x.cells.set (295+j) (b8 u)=({x with fi:=put x.fi j u}:Xc).cells:=by
 conv=>lhs;rw[Xqq]
 rw[HM _ _ (by rw[Xhn];omega),Xhn,show 295+j-295=j by omega,XfJ,Xqq (x:={x with fi:=_})]
end
theorem Xh1(E:List EvT)(i:Nat):(QQ E i).length<=E.length:=by
 unfold QQ
 split
 ·exact AW (Fy _ _) GH
 ·exact AU _
theorem XqF{E:List EvT}{s:Nat}(h:s∈QQ E i):s<E.length:=by
 unfold QQ at h
 split at h
 ·exact(mem_pl.1 (Az.1 h).1).1
 ·cases h
theorem hs2r{E:List EvT}{r:Nat}{b:List Nat}(h:(Gv E)[j]?=some b)(c:(rdL E)[j]?=some r):b=QQ E r:=by
 unfold Gv at h
 rw[AD,c]at h
 exact(Ac h).symm
def XkU(E:List EvT)(v:List UInt8)(ps:List PathP)(b c:Rl)(f:By):XcV:=⟨E,poR E,b,c,rlK E.length v ps PathP.data ps.length,rlK E.length v ps PathP.ctrl ps.length,rlK E.length v ps PathP.rmw ps.length,f⟩
structure RkP where
 A:Option Addr
 c:Nat
 xs:List Ln
def RkP.hd(r:RkP):List Value:=[.slice r.A r.xs.length r.c]
def RkP.res(r:RkP):List Res:=.rws 70 1 (.slice r.A r.xs.length r.c) (r.xs.map Ln.hd)::r.xs.map Ln.part
section
variable{w0 w:World}{row:Option Nat}{hd qs:List Res}{rs:List RkP}{r:RkP}{l:Nat}
theorem XeY(H:Own w0 row w (hd++(rs.flatMap RkP.res++qs)))(h:rs[l]?=some r):RowsAt w r.A 1 (r.xs.map Ln.hd)/\∀x∈r.xs,RowsAt w x.A 1 (Uo x.l):=by
 obtain⟨d,rfl⟩:=AB.1 h
 have e:rs=rs.take l++rs[l]::rs.drop (l+1):=by rw[<-FA d,FL]
 have p:rs.flatMap RkP.res=(rs.take l).flatMap RkP.res++(rs[l].res++(rs.drop (l+1)).flatMap RkP.res):=by
  conv=>lhs;rw[e]
  rw[Fl,F4]
 have b:Own w0 row w rs[l].res:=by
  refine Own.front (xs:=rs[l].res) (ys:=hd++((rs.take l).flatMap RkP.res++((rs.drop (l+1)).flatMap RkP.res++qs))) (H.perm ?_);rw[p]
  have o:(hd++((rs.take l).flatMap RkP.res++(rs[l].res++(rs.drop (l+1)).flatMap RkP.res)++qs))=(hd++(rs.take l).flatMap RkP.res)++(rs[l].res++((rs.drop (l+1)).flatMap RkP.res++qs)):=by simp only[AO]
  have g:rs[l].res++(hd++((rs.take l).flatMap RkP.res++((rs.drop (l+1)).flatMap RkP.res++qs)))=rs[l].res++((hd++(rs.take l).flatMap RkP.res)++((rs.drop (l+1)).flatMap RkP.res++qs)):=by simp only[AO]
  rw[o,g]
  exact H8 _ _ _
 refine⟨b.rowsAt 0 Z XnL O,λx m=>?_⟩
 obtain⟨i,j⟩:=List.getElem?_of_mem m
 refine b.rowsAt (i+1) (e:=3) (n:=x.l.length) (c:=x.c) ?_ Uu O
 show(rs[l].xs.map Ln.part)[i]?=_
 rw[AD,j];rfl
theorem XiR{R:Res}{x:Ln}(H:Own w0 row w (hd++(rs.flatMap RkP.res++qs)))(h:rs[l]?=some r)(d:x∈r.xs)(b:R∈hd):Own w0 row w [R,x.part]:=by
 refine H.subl ?_
 have c:x.part∈rs.flatMap RkP.res:=Hh.2 ⟨r,AF h,IV _ (AT.2 ⟨x,d,Z⟩)⟩
 exact(Id.2 b).append ((Id.2 c).trans (F6 _ _))
theorem Own.addRk(H:Own w0 row w (r.res++(hd++(rs.flatMap RkP.res++qs)))):Own w0 row w (hd++((rs++[r]).flatMap RkP.res++qs)):=by
 refine H.perm ?_
 have e:(rs++[r]).flatMap RkP.res=rs.flatMap RkP.res++r.res:=by simp
 rw[e]
 have b:(r.res++(hd++(rs.flatMap RkP.res++qs))).Perm (hd++(r.res++(rs.flatMap RkP.res++qs))):=by
  have:=List.Perm.append_right (rs.flatMap RkP.res++qs) (Fe (l₁:=r.res) (l₂:=hd))
  simpa[AO]using this
 have c:(r.res++(rs.flatMap RkP.res++qs)).Perm (rs.flatMap RkP.res++r.res++qs):=by
  have:=List.Perm.append_right qs (Fe (l₁:=r.res) (l₂:=rs.flatMap RkP.res))
  simpa[AO]using this
 exact b.trans (c.append_left hd)
end
section
variable{w:World}{b o l:Nat}{v:List UInt8}{q:MxP}{x:Ln}
theorem MixAt.c0(h:MixAt w b o v q):w.cell? ⟨b,o+0,none⟩=some (.slice q.A (V1 v q.ps q.ps.length) q.c):=h.cells 0 _ Z
theorem MixAt.c1(h:MixAt w b o v q):w.cell? ⟨b,o+333,none⟩=some (.slice q.A1 (rdL (q.evs v)).length q.c1):=h.cells 333 _ (Dn 0)
theorem MixAt.c2(h:MixAt w b o v q):w.cell? ⟨b,o+334,none⟩=some (.slice q.A2 q.ss.length q.c2):=h.cells 334 _ (Dn 1)
theorem MixAt.c3(h:MixAt w b o v q):w.cell? ⟨b,o+335,none⟩=some (Vd q.g 0 v.length v.length):=h.cells 335 _ (Dn 2)
theorem MixAt.exec(h:MixAt w b o v q):w.rangeAt b o (XkE q.A q.c v q.ps).cells:=λj u d=>h.cells j u (by
 unfold MxP.cells Mx.cells
 rw[AP (AB.1 d).1];exact d)
theorem MixAt.own(h:MixAt w0 b o v q)(H:Own w0 none w rs):MixAt w b o v q:=
 ⟨H.argR h.cells,h.evs.own H,h.rd.own H,h.sr.own H,λx c=>(h.srs x c).own H,h.wr.own H,λx c=>(h.wrs x c).own H⟩
theorem MixAt.hd(h:MixAt w b o v q)(i:q.ws[l]?=some x):w.cell? ⟨q.g,0+l*1,none⟩=some (.slice x.A x.l.length x.c):=by
 obtain⟨j,m,e,d⟩:=h.wr l x.hd (by rw[AD,i];rfl)
 cases e;exact d 0 _ Z
theorem MixAt.sc(h:MixAt w b o v q)(j:q.ss[l]?=some x):∃g d,q.A2=some ⟨g,d,none⟩/\w.cell? ⟨g,d+l*1,none⟩=some (.slice x.A x.l.length x.c):=by
 obtain⟨i,n,e,m⟩:=h.sr l x.hd (by rw[AD,j];rfl)
 exact⟨i,n,e,m 0 _ Z⟩
end
namespace Md
variable{P:Program}{l:List Oper}{Q:Exit->Act->World->Prop}{N:Nat}{a:Act}{env:List (Nat×Value)}{w:World}{ds:List Deferred}{rest:List Oper}{d:Tmp}{ty:TypeId}{pos:String}{af:Array Edge}{g:Option (Nat×Bool)}
theorem iYr{x:Operand}{n:List Operand}{q s:Nat}{r:List Value}{R:Ending->World->Prop}(F:Has N a env)(A:V2 l env g=true)(C:Nat.blt d N=true)(B:ev env x=some (.func (.yield q) #[] #[]))(u:evL env n=some r){ts:Array TypeId}(G:YieldAt Fence.wide 0 P q r.toArray w R)(K:∀e w,R e w->∃v,e=.returned v/\∀a,Has N a ((d,v)::env)->wpListIn (Fence.wide.inRound s) 0 P l.toArray Q rest (wD a ds) w):
 wpListIn (Fence.wide.inRound s) 0 P l.toArray Q (⟨some d,.call ⟨.value x,n.toArray,ts⟩,ty,pos,af,g⟩::rest) (wD a ds) w:=by
 unfold wpListIn
 rw[if_pos (UB (o:=⟨some d,.call ⟨.value x,n.toArray,ts⟩,ty,pos,af,g⟩) F A)]
 refine⟨λf _=>trivial,?_⟩
 obtain⟨y,m,p,j,i,b⟩:=G
 have z:(execOp a.eval ⟨some d,.call ⟨.value x,n.toArray,ts⟩,ty,pos,af,g⟩).run P w=.ok (.round q y m p j) w:=by
  simp only[execOp,resolve,FK,F.evals u,F.eval B]
  simp[Deferred.ofValue,invoke,i,go_sem]
 rw[Oper.semAt_eq _ _ _ (λc h=>by cases h),Jk,z,Oper.uponIn_round]
 refine⟨λh=>(by cases h),b.mono λe t E=>?_⟩
 obtain⟨v,rfl,D⟩:=K e t E
 show wpListIn _ _ _ _ _ _ ((wD a ds).put _ _) _
 rw[QY]
 exact D _ (F.put C)
end Md
theorem Bu(b o:Nat)(w0:World):
 Calls prog 36 #[Vc b o] w0 λe d=>∃c,e=.returned (.func (.func 61) #[] #[Vc c 0])/\Own w0 none d [.blk c [Vc b o] 151]:=by
 refine Vb func36 ntmps36 λH a F=>?_
 refine gg 2 λa F=>?_
 refine zBx H F λc a w F H=>?_
 refine gg 9 λa F=>?_
 exact⟨_,Z,H⟩
namespace Md
theorem cand_iter(v:List UInt8)(q:MxP)(G M I:Nat)(w0:World)(b:List Res)(hM:MixAt w0 G M v q)(bI:q.ok v)(hT:Tab6At w0)(hv:1<=v.length/\v.length<=6)(E:List EvT)(hE:q.evs v=E)(aA:E.length<=48)(hm:∀ws∈Qn E v.length,(Xds ws.length).length<=10000)(h1:∀ws∈Qn E v.length,1<=ws.length):
 XkT prog 61 #[Vc I 0] YX (UG v q.ps) w0 none (.blk I [Vc G M] 151::b):=by
 intro Q J Jx w1 ps H hJ hY
 refine callsIn_wide.2 ?_
 show Calls prog 61 #[.func (.yield Q) #[] #[],Vc I 0] w1 _
 replace H:Own w0 none w1 (.blk I [Vc G M] 151::(ps++b)):=H.perm FS
 obtain⟨aG,a6⟩:=bI
 rw[hE]at aG a6
 have dA:q.ws.length=v.length:=by have:=congrArg List.length aG;simpa using this
 have a5:q.ss.length=(rdL E).length:=by have:=congrArg List.length a6;simpa using this
 have aP:UG v q.ps=(JA (szL E v.length)).map (Uq v q.ps):=by subst hE;rfl
 have aT:1<=E.length:=by
  obtain⟨l, -,e⟩:=AT.1 (Ff (l:=Qn E v.length) (n:=0) (by simp[Qn];omega))
  have:=h1 _ (Ff (l:=Qn E v.length) (n:=0) (by simp[Qn];omega))
  rw[<-e]at this
  exact AW this GH
 have aV:E.map EvT.cells≠[]:=λh=>by rw[List.map_eq_nil_iff]at h;rw[h]at aT;exact absurd aT (by decide)
 have d7:(rdL E).length<=48:=AW GH aA
 have B:((Gv E).map List.length)=q.ss.map (λx=>x.l.length):=by unfold Gv;rw[<-a6,Fj];rfl
 refine Ec func61 Z ntmps61 Z (λa F=>?_)
 refine gg 2 λa F=>?_
 refine zBx H F λS a w F H=>?_
 refine gg 4 λa F=>?_
 replace H:=H.nilRws 3 1
 refine gg 7 λa F=>?_
 refine zLd F (H.arg hM.c2) λa F=>?_
 refine gg 4 λa F=>?_
 refine cLoopS [1,2,20,21] (λm N w=>∃(j:Nat)(AZ:Option Addr)(cZ:Nat),m=q.ss.length-j/\N=[(3,.slice AZ j cZ),(22,Ve ((j:Nat):Int))]/\j<=q.ss.length/\Own w0 none w (.rws 3 1 (.slice AZ j cZ) (Uo (((Gv E).map List.length).take j)):: .blk S [.func (.yield Q) #[] #[]] 106:: .blk I [Vc G M] 151::(ps++b))) F (q.ss.length) [(3,.slice none 0 0),(22,Ve ((0:Nat):Int))] ?_ ?_
 ·exact⟨0,none,0,Z,Z,AU _,H⟩
 clear F H;intro m N a w hI F
 obtain⟨j,AZ,cZ,rfl,rfl,hj,H⟩:=hI
 refine gg 6 λa F=>zi (λcL=>?_) λcL=>?_
 ·
  have T:j<q.ss.length:=O
  obtain⟨x,hx⟩:∃x,q.ss[j]?=some x:=⟨_,AA T⟩
  obtain⟨bS,oS,a7,hS⟩:=hM.sc hx
  rw[a7]at F
  have aS:((Gv E).map List.length)[j]?=some x.l.length:=by rw[B,AD,hx];rfl
  refine gg 6 λa F=>?_
  refine zLd F (H.arg hS) λa F=>?_
  refine gg 6 λa F=>?_
  refine XeN H underlying70 sizeOf3 zeroValue3 Z F Z Z Z Z λd9 a w F H=>?_
  refine G7 (bytes:=8) H 1 underlying70 typeInfo3 Z Z Z Z Z Z F Z Z Z Z Z (H.whole 0 Z) Z ?s1 ?s2 ?_
  case s1=>rfl
  case s2=>(rw[Uz,Aj];omega)
  clear F a H;intro cH bE a w F H
  refine gg 6 λa F=>?_
  rw[<-a7]at F
  have e1:Uo (((Gv E).map List.length).take j)++[[Ve (x.l.length:Int)]]=Uo (((Gv E).map List.length).take (j+1)):=by rw[At,aS];unfold Uo;rw[Ae];rfl
  have e2:(Uo (((Gv E).map List.length).take j)++[[Ve (x.l.length:Int)]]).length=j+1:=by rw[AK,Uz,Aj,B,AH];simp;omega
  rw[e2]at F;rw[e2,e1]at H
  exact⟨_,O,_,⟨j+1,cH,bE,Z,Z,O,H.tail⟩,F.toD (by repeat(first|exact trivial|refine Le.cons rfl ?_))⟩
 have T:j=q.ss.length:=O
 refine gg 3 λa F=>?_
 refine zAl zeroValue152 H F λU a w F H=>?_
 refine gg 1 λa F=>?_
 replace H:Own w0 none w (.blk U [.slice none 0 0] 152:: .rws 3 1 (.slice AZ j cZ) (Uo (((Gv E).map List.length).take j)):: .blk S [.func (.yield Q) #[] #[]] 106:: .blk I [Vc G M] 151::(ps++b)):=H
 refine gg 6 λa F=>?_
 refine zLd F (H.arg hM.c3) λa F=>?_
 refine gg 4 λa F=>?_
 have cM:j=(rdL E).length:=O
 subst cM
 have bT:((Gv E).map List.length).take (rdL E).length=(szL E v.length).take ((rdL E).length+0):=by
  have:(rdL E).length=((Gv E).map List.length).length:=by rw[B,AH,a5]
  rw[FF];unfold szL
  rw[this,List.take_left,FD (AI _)]
 rw[bT]at H
 replace H:Own w0 none w ([.rws 3 1 (.slice AZ (rdL E).length cZ) (Uo ((szL E v.length).take ((rdL E).length+0))),.rws 97 1 (.slice none 0 0) [],.blk U [.slice none 0 0] 152,.blk S [.func (.yield Q) #[] #[]] 106,.blk I [Vc G M] 151]++(([]:List RkP).flatMap RkP.res++(ps++b))):=(H.nilRws 97 1).swapN 2 1
 refine cLoopS [1,2,6,35,36] (λm N w=>∃(j:Nat)(rs:List RkP)(AZ:Option Addr)(cZ:Nat)(t:Option Addr)(p:Nat),m=v.length-j/\N=[(3,.slice AZ ((rdL E).length+j) cZ),(37,Ve ((j:Nat):Int))]/\j<=v.length/\rs.map (λr=>r.xs.map Ln.l)=((Qn E v.length).take j).map GG/\Own w0 none w ([.rws 3 1 (.slice AZ ((rdL E).length+j) cZ) (Uo ((szL E v.length).take ((rdL E).length+j))),.rws 97 1 (.slice t rs.length p) (rs.map RkP.hd),.blk U [.slice t rs.length p] 152,.blk S [.func (.yield Q) #[] #[]] 106,.blk I [Vc G M] 151]++(rs.flatMap RkP.res++(ps++b)))) F (v.length) [(3,.slice AZ (rdL E).length cZ),(37,Ve ((0:Nat):Int))] ?_ ?_
 ·exact⟨0,[],AZ,cZ,none,0,Z,Z,AU _,Z,H⟩
 clear F H;intro m N a w hI F
 obtain⟨j,rs,AZ,cZ,t,p,rfl,rfl,hj,aN,H⟩:=hI
 have d1:rs.length=j:=by have:=congrArg List.length aN;simp[Qn]at this;omega
 refine gg 6 λa F=>zi (λbM=>?_) λbM=>?_
 ·
  have T:j<v.length:=O
  obtain⟨⟨xA,xc,xl⟩,hx⟩:∃x,q.ws[j]?=some x:=⟨_,AA O⟩
  have aM:(Qn E v.length)[j]?=some xl:=by unfold Qn;rw[<-aG,AD,hx];rfl
  have aF:=AF aM
  have aX:xl.length<=48:=by
   obtain⟨l, -,rfl⟩:=AT.1 aF
   exact AW GH aA
  refine gg 6 λa F=>?_
  refine zLd F (H.arg (hM.hd hx)) λa F=>?_
  refine gg 5 λa F=>?_
  refine Xi call62 F Z (XdB xl xA xc _ ((hM.wrs _ (AF hx)).own H) (h1 _ aF) aX (hm _ aF) (hT.own H)) ?_;rintro e w ⟨xs,A2,C2,cQ,rfl,H2⟩
  replace H:=Own.addRk (r:=⟨A2,C2,xs⟩) (hd:=[_,_,_,_,_]) (H.join H2)
  clear H2
  refine zq λa F=>?_
  refine gg 6 λa F=>?_
  refine XeN H underlying152 sizeOf97 zeroValue97 Z F Z Z Z Z λd2 a w F H=>?_
  refine G7 (bytes:=24) H 2 underlying152 typeInfo97 Z Z Z Z Z Z F Z Z Z Z Z (H.whole 0 Z) Z ?s1 ?s2 ?_
  case s1=>rfl
  case s2=>(rw[AH];omega)
  clear F a H;intro bD bQ a w F H
  refine zSt H 3 F λw H=>?_
  refine gg 1 λa F=>?_
  have e3:rs.map RkP.hd++[[Value.slice A2 xs.length C2]]=(rs++[(⟨A2,C2,xs⟩:RkP)]).map RkP.hd:=by simp[RkP.hd]
  have e4:(rs.map RkP.hd++[[Value.slice A2 xs.length C2]]).length=(rs++[(⟨A2,C2,xs⟩:RkP)]).length:=by simp
  rw[e4,e3]at H
  replace H:=H.tail
  refine gg 4 λa F=>?_
  refine XeN H underlying70 sizeOf3 zeroValue3 Z F Z Z Z Z λd3 a w F H=>?_
  refine G7 (bytes:=8) H 1 underlying70 typeInfo3 Z Z Z Z Z Z F Z Z Z Z Z (H.whole 0 Z) Z ?s1 ?s2 ?_
  case s1=>rfl
  case s2=>(rw[Uz,Aj];omega)
  clear F a H;intro bF bN a w F H
  refine gg 6 λa F=>?_
  have b5:xs.map Ln.l=GG xl:=cQ
  have bZ:xs.length=(GG xl).length:=by rw[<-b5,AH]
  have hs:(szL E v.length)[(rdL E).length+j]?=some xs.length:=by
   unfold szL
   rw[AQ (by rw[B,AH];omega),B,AH,a5,Fq,AD,aM,bZ];rfl
  have e5:Uo ((szL E v.length).take ((rdL E).length+j))++[[Ve (xs.length:Int)]]=Uo ((szL E v.length).take ((rdL E).length+(j+1))):=by
   rw[<-FY,At,hs];unfold Uo;rw[Ae];rfl
  have bO:=(AB.1 hs).1
  have e6:(Uo ((szL E v.length).take ((rdL E).length+j))++[[Ve (xs.length:Int)]]).length=(rdL E).length+(j+1):=by
   rw[AK,Uz,Aj,Fv (IS bO)];rfl
  rw[e6]at F;rw[e6,e5]at H
  exact⟨_,O,_,⟨j+1,rs++[(⟨A2,C2,xs⟩:RkP)],bF,bN,bD,bQ,Z,Z,O,by rw[Ae,aN,At,aM,FW,Ae,Iv,Iv,b5],H.tail⟩,F.toD (by repeat(first|exact trivial|refine Le.cons rfl ?_))⟩
 have T:j=v.length:=O
 refine gg 2 λa F=>?_
 subst T
 have bV:(rdL E).length+v.length=(szL E v.length).length:=by unfold szL;rw[AK,B,AH,a5];simp[Qn]
 rw[bV]at F H;rw[FT]at H
 have cT:(szL E v.length).length<=1000:=O
 have cF:∀s∈szL E v.length,s<=1000000:=λs hs=>by
  unfold szL at hs
  rcases A8.1 hs with h|h
  ·obtain⟨l,hl,rfl⟩:=AT.1 h
   obtain⟨i, -,rfl⟩:=AT.1 hl
   have:=Xh1 E i;omega
  ·obtain⟨l,hl,rfl⟩:=AT.1 h
   have:=hm l hl
   unfold GG;rw[AH];omega
 have aB:rs.map (λr=>r.xs.map Ln.l)=(Qn E v.length).map GG:=by rw[aN,FD (by simp[Qn])]
 refine gg 2 λa F=>?_
 refine Xi call59 F Z (L7 AZ (szL E v.length).length cZ _) ?_;rintro e w ⟨b9,rfl,H2⟩;replace H:=H.join H2;clear H2
 refine zq λa F=>?_
 refine gg 2 λa F=>?_
 have HU:Own w0 none w (([.rws 97 1 (.slice t rs.length p) (rs.map RkP.hd),.blk U [.slice t rs.length p] 152,.blk S [.func (.yield Q) #[] #[]] 106,.blk I [Vc G M] 151]++(rs.flatMap RkP.res++(ps++b)))++[.blk b9 [.slice AZ (szL E v.length).length cZ] 70,.rws 3 1 (.slice AZ (szL E v.length).length cZ) (Uo (szL E v.length))]):=H.perm (Fe (l₁:=[_,_]))
 refine Xiy (pl:=[55]) F (by decide) (λ_ _ _ h=>by obtain⟨_,h,_⟩:=h;rw[h];rfl) Z (enters_of func113 Y Z) HU (Md.odo_iter (szL E v.length) AZ cZ w0 cT cF _ b9 (λw H=>H.cell 0 Z Z) (λw H=>H.rowsAt 1 Z Uu O))
  (λP a3=>∃g,J (P.map (Uq v q.ps)) g/\a3=[.rws 97 1 (.slice t rs.length p) (rs.map RkP.hd),.blk U [.slice t rs.length p] 152,.blk S [.func (.yield Q) #[] #[]] 106,.blk I [Vc G M] 151]++(rs.flatMap RkP.res++(g++b)))
  (λc P a3=>c=.ret/\∃g,Jx (P.map (Uq v q.ps)) g/\a3=[.rws 97 1 (.slice t rs.length p) (rs.map RkP.hd),.blk U [.slice t rs.length p] 152,.blk S [.func (.yield Q) #[] #[]] 106,.blk I [Vc G M] 151]++(rs.flatMap RkP.res++(g++b)))
  ⟨ps,hJ,Z⟩ (λvs=>[(10,vs.getD 0 undef)]) ?_ ?_ ?_ ?_
 ·
  clear H F a;intro bW a w vs K cO hF hK
  obtain⟨v0,rfl⟩:=XgI cO
  refine Md.cReg ?_;refine sAs hF Z Z Z λa hF=>?_
  refine Md.sNil ?_ hF
  exact hK _ hF
 ·
  clear H F a;intro bW P x cW yr w d5 qs a hi a8 cC H F
  obtain⟨g,a4,rfl⟩:=hi
  obtain⟨gD,rfl,rfl⟩:=cC
  have c5:x∈JA (szL E v.length):=a8.subset (by simp)
  obtain⟨aS,aQ⟩:=mem_odo.1 c5
  replace H:Own w0 none w ([.blk gD (Ji x) 3,.rws 97 1 (.slice t rs.length p) (rs.map RkP.hd),.blk U [.slice t rs.length p] 152,.blk S [.func (.yield Q) #[] #[]] 106,.blk I [Vc G M] 151]++(rs.flatMap RkP.res++(g++(b++qs)))):=by
   simpa only[AO,Au,FI]using H
  refine gg 6 λa F=>?_
  refine sLr underlying65 Z ?si F Z Z Z (show World.rangeAt _ G (M+0) _ from H.argR hM.exec) ?_
  case si=>rw[Xc.len];exact VT sizeOf65
  clear F a;intro a F
  refine zAl zeroValue65 H F λu a w F H=>?_
  refine sSr H 0 ?si F Z Z Z ?s1 Z (by rw[Li,Xc.len,Xc.len];rfl) ?_
  case si=>rw[Xc.len];exact VT sizeOf65
  case s1=>exact Xe2 Z
  clear H;intro w H
  refine gg 1 λa F=>?_
  rw[Li,Xnn (Xc.len _)]at H
  refine gg 3 λa F=>?_
  refine sLd isAgg53 F Z Z Z (show _=some (Value.slice q.A E.length q.c)from by rw[<-hE];exact H.cell 0 Z Z) λa F=>?_;refine Xi call63 F Z (Xg3 q.A q.c E _ ((hE▸hM.evs).own H) O) ?_;rintro e w ⟨AE,C,rfl,H2⟩;replace H:=H.join H2;clear H2
  refine zq λa F=>?_
  refine gg 1 λa F=>?_
  refine zSt H 1 F λw H=>?_
  refine gg 1 λa F=>?_
  have bJ:(XkE q.A q.c v q.ps).cells.set 0 (.slice AE E.length C)=((XkU E v q.ps (zR E.length) (zR E.length) (fiK q.ps q.ps.length)).at AE C).cells:=by subst hE;rfl
  replace H:Own w0 none w ([.rws 156 7 (.slice AE E.length C) (E.map EvT.cells),.blk u ((XkE q.A q.c v q.ps).cells.set 0 (.slice AE E.length C)) 65]++([.blk gD (Ji x) 3,.rws 97 1 (.slice t rs.length p) (rs.map RkP.hd),.blk U [.slice t rs.length p] 152,.blk S [.func (.yield Q) #[] #[]] 106,.blk I [Vc G M] 151]++(rs.flatMap RkP.res++(g++(b++qs))))):=H
  rw[bJ]at H
  obtain⟨L,rfl⟩:=JR H 0 Z aV
  refine gg 6 λa F=>?_
  refine sLd isAgg70 F Z Z Z (show _=some (Value.slice q.A1 (rdL E).length q.c1)from by rw[<-hE];exact H.arg hM.c1) λa F=>?_
  refine gg 4 λa F=>?_
  refine cLoopS [1,2,6,10,11,67,68] (λm N w=>∃j:Nat,m=(rdL E).length-j/\N=[(69,Ve ((j:Nat):Int))]/\j<=(rdL E).length/\Own w0 none w ([.rws 156 7 (Vd L 0 E.length C) (E.map EvT.cells),.blk u ((XkU E v q.ps (rfJ E x j) (zR E.length) (fiK q.ps q.ps.length)).at (some ⟨L,0,none⟩) C).cells 65]++([.blk gD (Ji x) 3,.rws 97 1 (.slice t rs.length p) (rs.map RkP.hd),.blk U [.slice t rs.length p] 152,.blk S [.func (.yield Q) #[] #[]] 106,.blk I [Vc G M] 151]++(rs.flatMap RkP.res++(g++(b++qs)))))) F ((rdL E).length) [(69,Ve ((0:Nat):Int))] ?_ ?_
  ·exact⟨0,Z,Z,AU _,H⟩
  clear F H;intro m N a w hI F
  obtain⟨j,rfl,rfl,hj,H⟩:=hI
  refine gg 6 λa F=>zi (λcN=>?_) λcN=>?_
  ·
   have T:j<(rdL E).length:=O
   obtain⟨r,hr⟩:∃r,(rdL E)[j]?=some r:=⟨_,AA T⟩
   have d6:r<E.length:=(mem_pl.1 (AF hr)).1
   obtain⟨bR,oR,aU,bP⟩:=hM.rd j [Ve (r:Int)] (by rw[hE];exact UQ hr)
   rw[aU]at F
   obtain⟨⟨sA,sc,sl⟩,hs⟩:∃y,q.ss[j]?=some y:=⟨_,AA O⟩
   have aD:(Gv E)[j]?=some sl:=by unfold Gv;rw[<-a6,AD,hs];rfl
   obtain⟨bS,oS,a7,cA⟩:=hM.sc hs
   obtain⟨d,hd⟩:∃d,x[j]?=some d:=⟨_,AA O⟩
   have c4:d<sl.length:=aQ j d sl.length hd (by
    unfold szL
    rw[AP (by rw[B,AH];omega),AD,aD];rfl)
   obtain⟨s,aE⟩:∃s,sl[d]?=some s:=⟨_,AA c4⟩
   have bH:Xbh E x j=s:=by unfold Xbh;rw[AS,AS,AS,aD,hd];show(sl[d]?).getD 0=s;rw[aE];rfl
   have cX:s<E.length:=XqF (hs2r aD hr▸AF aE)
   obtain⟨bL,oL,aH,hL⟩:=hM.srs _ (AF hs) d [Ve (s:Int)] (UQ aE)
   have aH:sA=some ⟨bL,oL,none⟩:=aH
   subst aH
   have cP:rfJ E x (j+1)=(rfJ E x j).put s ((rfJ E x j).to s|||bit r):=by rw[rfJ,bH,AS,hr];rfl
   refine gg 7 λa F=>?_
   refine zLd F (H.arg (bP 0 _ Z)) λa F=>?_
   refine gg 3 λa F=>?_
   refine cRegRO Y H ?_;replace H:=H.drew
   refine gg 3 λa F=>?_
   refine Xe 3 Z F Z Z (λw H=>rLd isAgg97 F Z (show _=some (Value.slice (some ⟨bS,oS,none⟩) q.ss.length q.c2)from a7▸H.arg hM.c2)) H qq0 λa F=>?_
   refine gg 2 λa F=>?_
   refine Xe 6 Z F Z Z (λw H=>rLd isAgg70 F Z (H.arg cA)) H qq0 λa F=>?_
   refine gg 3 λa F=>?_
   refine Xe 10 Z F Z Z (λw H=>rLd isAgg3 F Z (H.cell 2 Z (N4 hd))) H qq0 λa F=>?_
   refine gg 1 λa F=>?_
   refine Xe 12 Z F Z Z (λw H=>rLd isAgg3 F Z (H.arg (hL 0 _ Z))) H qq0 λa F=>?_
   refine gg 3 λa F=>?_
   refine Xe 16 Z F Z Z (λw H=>rLd isAgg55 F Z (H.cell 1 Z (Xq5 O))) H qq0 λa F=>?_
   refine gg 1 λa F=>?_
   refine Xf (k:=18) (i:=18) Z F Z (λw=>Gt F Z Z (Xef ?_)) H (λ_ _ _ h=>h) ?_
   focus omega
   clear F a;intro a F;refine Xb 19 Z F Z (λw=>Gt F Z Z (XcF)) H qq0 λa F=>?_
   refine gg 3 λa F=>?_
   refine Xd (k:=23) (i:=23) Z F (oSt H 1 sizeOf55 F Z Z Z Z (Xq5 O) λw H=>?_)
   refine gg 2 λa F=>?_
   replace H:Own w0 none w ([.rws 156 7 (Vd L 0 E.length C) (E.map EvT.cells),.blk u (((XkU E v q.ps (rfJ E x j) (zR E.length) (fiK q.ps q.ps.length)).at (some ⟨L,0,none⟩) C).cells.set (50+1+s) (d8 ((rfJ E x j).to s|||bit r))) 65]++([.blk gD (Ji x) 3,.rws 97 1 (.slice t rs.length p) (rs.map RkP.hd),.blk U [.slice t rs.length p] 152,.blk S [.func (.yield Q) #[] #[]] 106,.blk I [Vc G M] 151]++(rs.flatMap RkP.res++(g++(b++qs))))):=H
   rw[Xq3 O]at H
   replace H:Own w0 none w ([.rws 156 7 (Vd L 0 E.length C) (E.map EvT.cells),.blk u ((XkU E v q.ps (rfJ E x (j+1)) (zR E.length) (fiK q.ps q.ps.length)).at (some ⟨L,0,none⟩) C).cells 65]++([.blk gD (Ji x) 3,.rws 97 1 (.slice t rs.length p) (rs.map RkP.hd),.blk U [.slice t rs.length p] 152,.blk S [.func (.yield Q) #[] #[]] 106,.blk I [Vc G M] 151]++(rs.flatMap RkP.res++(g++(b++qs))))):=by rw[cP];exact H
   refine gg 4 λa F=>?_
   rw[<-aU]at F
   exact⟨_,O,_,⟨j+1,Z,Z,O,H⟩,F.toD (by repeat(first|exact trivial|refine Le.cons rfl ?_))⟩
  have T:j=(rdL E).length:=O
  refine gg 3 λa F=>?_
  subst T
  have cG:x.length=(rdL E).length+v.length:=O
  refine gg 5 λa F=>?_
  refine sLd isAgg70 F Z Z Z (show _=some (Value.slice q.A1 (rdL E).length q.c1)from by rw[<-hE];exact H.arg hM.c1) λa F=>?_
  refine gg 1 λa F=>?_
  refine sSlF underlying70 sizeOf3 F Z Z Z Z ?_ ?_
  focus((rw[cG];omega))
  clear F a;intro a F
  refine gg 3 λa F=>?_
  have cU:(if x.length=(rdL E).length then some (⟨gD,0,none⟩:Addr)else Option.map (·.add ((rdL E).length*1)) (some (⟨gD,0,none⟩:Addr)))=some ⟨gD,0+(rdL E).length*1,none⟩:=by
   rw[if_neg O]
   show some (Addr.add _ _)=_
   unfold Addr.add
   split
   ·rename_i h;rw[h]
   ·rfl
  have bX:x.length-(rdL E).length=v.length:=O
  rw[cU,bX]at F
  refine gg 1 λa F=>?_
  refine cLoopS [2,6,11,104,105] (λm N w=>∃l:Nat,m=v.length-l/\N=[(106,Ve ((l:Nat):Int))]/\l<=v.length/\Own w0 none w ([.rws 156 7 (Vd L 0 E.length C) (E.map EvT.cells),.blk u ((XkU E v q.ps (rfJ E x (rdL E).length) (coJ E v.length x l) (fiJ E v.length x (fiK q.ps q.ps.length) l)).at (some ⟨L,0,none⟩) C).cells 65]++([.blk gD (Ji x) 3,.rws 97 1 (.slice t rs.length p) (rs.map RkP.hd),.blk U [.slice t rs.length p] 152,.blk S [.func (.yield Q) #[] #[]] 106,.blk I [Vc G M] 151]++(rs.flatMap RkP.res++(g++(b++qs)))))) F (v.length) [(106,Ve ((0:Nat):Int))] ?_ ?_
  ·exact⟨0,Z,Z,AU _,H⟩
  clear F H;intro m N a w hI F
  obtain⟨l,rfl,rfl,hl,H⟩:=hI
  refine gg 5 λa F=>?_
  refine cIf F Z (λX=>?_) (λX=>?_)
  ·
   replace X:=of_decide_eq_true X
   have a9:l<v.length:=O
   obtain⟨d,hd⟩:∃d,x[(rdL E).length+l]?=some d:=⟨_,AA O⟩
   obtain⟨wl,a1⟩:∃wl,(Qn E v.length)[l]?=some wl:=⟨_,AA (by simpa[Qn]using a9)⟩
   have aI:=AF a1
   have aC:∀y∈wl,y<E.length:=by
    obtain⟨i, -,rfl⟩:=AT.1 aI
    exact λy hy=>(mem_pl.1 hy).1
   have bU:wl.length<=48:=by
    obtain⟨i, -,rfl⟩:=AT.1 aI
    exact AW GH aA
   have d4:=h1 wl aI
   have dC:d<(GG wl).length:=aQ _ d _ hd (by
    unfold szL
    rw[AQ (by rw[B,AH];omega),B,AH,a5,Fq,AD,a1];rfl)
   obtain⟨⟨rA,rc,aK⟩,hr⟩:∃r,rs[l]?=some r:=by
    have:rs.length=(Qn E v.length).length:=by have:=congrArg List.length aB;simpa using this
    exact⟨_,AA (by rw[this];simpa[Qn]using a9)⟩
   have aJ:aK.map Ln.l=GG wl:=by
    have h9:(rs.map (λr=>r.xs.map Ln.l))[l]?=((Qn E v.length).map GG)[l]?:=by rw[aB]
    rw[AD,AD,hr,a1]at h9
    exact Ac h9
   obtain⟨⟨yA,yc,yl⟩,hy⟩:∃y,aK[d]?=some y:=⟨_,AA (by have:=congrArg List.length aJ;rw[AH]at this;omega)⟩
   have b7:(GG wl)[d]?=some yl:=by rw[<-aJ,AD,hy];rfl
   have aW:rkD E v.length x l=yl:=by unfold rkD;rw[AS,AS,AS,a1,hd];show((GG wl)[d]?).getD []=yl;rw[b7];rfl
   have aL:=MA bU (AF b7)
   have dB:yl.length=wl.length:=aL.length_eq
   have b3:∀z∈yl,z<48:=λz hz=>FC (aC z (aL.mem_iff.1 hz)) aA
   have bG:(Ji x)[0+(rdL E).length*1+l*1]?=some (Ve (d:Int)):=by rw[show 0+(rdL E).length*1+l*1=0+((rdL E).length+l)*1 by omega];exact N4 hd
   have aR:=XeY (hd:=[_,_,_,_,_,_,_]) H hr
   have cJ:=XiR (hd:=[_,_,_,_,_,_,_]) (R:=.blk u ((XkU E v q.ps (rfJ E x (rdL E).length) (coJ E v.length x l) (fiJ E v.length x (fiK q.ps q.ps.length) l)).at (some ⟨L,0,none⟩) C).cells 65) H hr (AF hy) (by simp)
   obtain⟨gR,rfl⟩:=JR H 3 Z (λh9=>by
    have h8:=(AB.1 hr).1
    have h7:=congrArg List.length h9
    rw[AH]at h7
    have h6:rs.length=0:=h7
    omega)
   obtain⟨bK,oK,aO,hK⟩:=aR.1 d [.slice yA yl.length yc] (by rw[AD,hy];rfl)
   have aO:rA=some ⟨bK,oK,none⟩:=aO
   subst aO
   have bB:RowsAt w yA 1 (Uo yl):=aR.2 _ (AF hy)
   obtain⟨z,hz⟩:∃z,yl[yl.length-1]?=some z:=⟨_,AA O⟩
   have aY:z<E.length:=aC z (aL.mem_iff.1 (AF hz))
   obtain⟨e,he⟩:∃e,E[z]?=some e:=⟨_,AA aY⟩
   have cV:Bn E yl=e.ev.val:=by unfold Bn;rw[AS,hz];show(match E[z]? with|some e=>e.ev.val|none=>0)=_;rw[he]
   have cS:=Xdj cJ 1 0 Z Z Uu O (by decide)
   obtain⟨bY,oY,cB,aZ,cY⟩:=cS 0 _ (UQ (AA (show 0<yl.length by omega)))
   obtain rfl:yA=some ⟨bY,oY,none⟩:=cB
   refine gg 7 λa F=>?_
   refine zLd F (H.cell 2 Z bG) λa F=>?_
   refine gg 8 λa F=>?_
   refine sLd isAgg97 F Z Z Z (GI H 3 Z (λr hr=>by obtain⟨x,_,rfl⟩:=AT.1 hr;rfl) (show(rs.map RkP.hd)[l]?=some [Vd bK oK aK.length rc] by rw[AD,hr];rfl)) λa F=>?_
   refine gg 1 λa F=>?_
   refine sIx underlying97 sizeOf70 F Z Z Z Z ?_ ?_
   focus(have:=congrArg List.length aJ;rw[AH]at this;omega)
   clear F a;intro a F
   refine zLd F (hK 0 _ Z) λa F=>?_
   refine gg 6 λa F=>?_
   refine Xi call64 F Z (line_any u 99 _ _ (some ⟨bY,oY,none⟩) yc yl _ (H.blk 1 Z) bB (λb' o h=>by cases h;exact aZ) O b3 (by rw[Xc.len];decide)) ?_;rintro e w ⟨rfl,H2⟩
   replace H:=H.turned 1 Z H2;clear H2
   refine zq λa F=>?_
   refine gg 1 λa F=>?_
   have bC:coJ E v.length x (l+1)=XbQ (coJ E v.length x l) yl:=by rw[coJ,aW]
   rw[XpG (λy hy=>b3 y (List.mem_reverse.1 hy))]at H
   replace H:Own w0 none w ([.rws 156 7 (Vd L 0 E.length C) (E.map EvT.cells),.blk u ((XkU E v q.ps (rfJ E x (rdL E).length) (coJ E v.length x (l+1)) (fiJ E v.length x (fiK q.ps q.ps.length) l)).at (some ⟨L,0,none⟩) C).cells 65]++([.blk gD (Ji x) 3,.rws 97 1 (Vd gR 0 rs.length p) (rs.map RkP.hd),.blk U [Vd gR 0 rs.length p] 152,.blk S [.func (.yield Q) #[] #[]] 106,.blk I [Vc G M] 151]++(rs.flatMap RkP.res++(g++(b++qs))))):=by rw[bC];exact H
   refine cRegRO Y H ?_;replace H:=H.drew
   refine gg 8 λa F=>?_
   refine Xa (k:=8) (i:=8) Z F Z Z (λw H=>rLd isAgg3 F Z (by
  have b4:RowsAt _ (some ⟨bY,oY,none⟩) 1 (Uo yl):=(XeY (hd:=[_,_,_,_,_,_,_]) H hr).2 _ (AF hy)
  obtain⟨b9,o9,h9,h8⟩:=b4 _ _ (UQ hz)
  cases h9;exact h8 0 _ Z)) H (λ_ _ _ h=>h) ?_;clear F a;intro a F
   refine Xf (k:=9) (i:=9) Z F Z (λw=>rIx underlying53 sizeOf156 F Z Z ?_) H (λ_ _ _ h=>h) ?_
   focus exact aY
   clear F a;intro a F
   refine gg 1 λa F=>?_
   refine Xa (k:=11) (i:=11) Z F Z Z (λw H=>rLd isAgg5 F Z (by
  obtain⟨b9,o9,h9,h8⟩:=H.rowsAt 0 Z Xpx O z e.cells (by rw[AD,he];rfl)
  cases h9;exact h8 3 _ Z)) H (λ_ _ _ h=>h) ?_;clear F a;intro a F
   refine gg 3 λa F=>?_
   refine Xd (k:=15) (i:=15) Z F (oSt H 1 sizeOf5 F Z Z Z Z (AA (by rw[Xc.len];omega)) ?_)
   clear H;intro w H
   refine gg 2 λa F=>?_
   have cD:fiJ E v.length x (fiK q.ps q.ps.length) (l+1)=put (fiJ E v.length x (fiK q.ps q.ps.length) l) (32+l) e.ev.val:=by rw[fiJ,aW,cV]
   replace H:Own w0 none w ([.rws 156 7 (Vd L 0 E.length C) (E.map EvT.cells),.blk u (((XkU E v q.ps (rfJ E x (rdL E).length) (coJ E v.length x (l+1)) (fiJ E v.length x (fiK q.ps q.ps.length) l)).at (some ⟨L,0,none⟩) C).cells.set (295+32+l) (YtajfpcgbnflceaaGreatDoor.b8 e.ev.val)) 65]++([.blk gD (Ji x) 3,.rws 97 1 (Vd gR 0 rs.length p) (rs.map RkP.hd),.blk U [Vd gR 0 rs.length p] 152,.blk S [.func (.yield Q) #[] #[]] 106,.blk I [Vc G M] 151]++(rs.flatMap RkP.res++(g++(b++qs))))):=H
   rw[FY 295,XrV O]at H
   replace H:Own w0 none w ([.rws 156 7 (Vd L 0 E.length C) (E.map EvT.cells),.blk u ((XkU E v q.ps (rfJ E x (rdL E).length) (coJ E v.length x (l+1)) (fiJ E v.length x (fiK q.ps q.ps.length) (l+1))).at (some ⟨L,0,none⟩) C).cells 65]++([.blk gD (Ji x) 3,.rws 97 1 (Vd gR 0 rs.length p) (rs.map RkP.hd),.blk U [Vd gR 0 rs.length p] 152,.blk S [.func (.yield Q) #[] #[]] 106,.blk I [Vc G M] 151]++(rs.flatMap RkP.res++(g++(b++qs))))):=by rw[cD];exact H
   refine gg 4 λa F=>?_
   exact⟨_,O,_,⟨l+1,Z,Z,O,H⟩,F.toD (by repeat(first|exact trivial|refine Le.cons rfl ?_))⟩
  replace X:=of_decide_eq_false X
  have a9:l=v.length:=O
  refine gg 2 λa F=>?_
  subst a9
  have c6:XkU E v q.ps (rfJ E x (rdL E).length) (coJ E v.length x v.length) (fiJ E v.length x (fiK q.ps q.ps.length) v.length)=Uq v q.ps x:=by subst hE;rfl
  rw[c6]at H
  have bA:P.map (Uq v q.ps)++[Uq v q.ps x] <+: UG v q.ps:=by
   obtain⟨z,hz⟩:=a8
   exact⟨z.map (Uq v q.ps),by rw[aP,<-hz];simp⟩
  have HY:Own w0 none w ([(XcP.mk (Uq v q.ps x) (some ⟨L,0,none⟩) C).part]++(g++(.blk u ((Uq v q.ps x).at (some ⟨L,0,none⟩) C).cells 65::([.blk gD (Ji x) 3,.rws 97 1 (.slice t rs.length p) (rs.map RkP.hd),.blk U [.slice t rs.length p] 152,.blk S [.func (.yield Q) #[] #[]] 106,.blk I [Vc G M] 151]++(rs.flatMap RkP.res++(b++qs)))))):=by
   have c7:(XcP.mk (Uq v q.ps x) (some ⟨L,0,none⟩) C).part=.rws 156 7 (Vd L 0 E.length C) (E.map EvT.cells):=by unfold XcP.part;rw[show(Uq v q.ps x).evs=E from hE]
   rw[c7]
   have HH:Own w0 none w (.rws 156 7 (Vd L 0 E.length C) (E.map EvT.cells)::((.blk u ((Uq v q.ps x).at (some ⟨L,0,none⟩) C).cells 65::[.blk gD (Ji x) 3,.rws 97 1 (.slice t rs.length p) (rs.map RkP.hd),.blk U [.slice t rs.length p] 152,.blk S [.func (.yield Q) #[] #[]] 106,.blk I [Vc G M] 151])++(rs.flatMap RkP.res++(g++(b++qs))))):=H
   exact HH.perm (List.Perm.cons _ (Xrn _ _ _ _))
  refine wpIn_region_lit ?_;refine iV F Z Z Z (λc h=>by cases h) (rLd isAgg106 F Z (H.cell 5 Z Z)) λa F=>?_;refine iV F Z Z Z (λc h=>by cases h) (rLr underlying65 Z (by rw[Xc.len];exact VT sizeOf65) F Z (H.whole 1 Z)) λa F=>?_;refine iYr F Z Z Z Z (hY (P.map (Uq v q.ps)) (Uq v q.ps x) [.agg ((Uq v q.ps x).at (some ⟨L,0,none⟩) C).cells.toArray] _ [] _ g _ a4 bA ⟨_,_,Z,Z,Z⟩ HY) ?_;rintro e w ⟨W,H2,hc⟩
  clear H HY
  obtain⟨c9,rfl,a2⟩:∃c9:Bool,e=.returned (.bool c9)/\((c9=true/\J (P.map (Uq v q.ps)++[Uq v q.ps x]) W)\/(c9=false/\Jx (P.map (Uq v q.ps)++[Uq v q.ps x]) W)):=by
   rcases hc with⟨h1,h2⟩|⟨h1,h2⟩
   ·exact⟨_,h1,.inl ⟨Z,h2⟩⟩
   ·exact⟨_,h1,.inr ⟨Z,h2⟩⟩
  refine zq λa F=>?_
  refine iV F Z Z Z (λc h=>by cases h) (Xp6 F Z) λa F=>?_;refine iNil ?_
  have H:Own w0 none w (.blk u ((Uq v q.ps x).at (some ⟨L,0,none⟩) C).cells 65::([.blk gD (Ji x) 3,.rws 97 1 (.slice t rs.length p) (rs.map RkP.hd),.blk U [.slice t rs.length p] 152,.blk S [.func (.yield Q) #[] #[]] 106,.blk I [Vc G M] 151]++(rs.flatMap RkP.res++(W++(b++qs))))):=by
   have HH:Own w0 none w (W++((.blk u ((Uq v q.ps x).at (some ⟨L,0,none⟩) C).cells 65::[.blk gD (Ji x) 3,.rws 97 1 (.slice t rs.length p) (rs.map RkP.hd),.blk U [.slice t rs.length p] 152,.blk S [.func (.yield Q) #[] #[]] 106,.blk I [Vc G M] 151])++(rs.flatMap RkP.res++(b++qs)))):=H2
   exact HH.perm (Xrn _ _ _ _).symm
  refine gg 0 λa F=>?_
  refine cIf F Z (λV=>?_) (λV=>?_)
  ·
   replace a2:Jx (P.map (Uq v q.ps)++[Uq v q.ps x]) W:=by
    rcases a2 with⟨h1,h2⟩|⟨_,h2⟩
    ·rw[h1]at V;cases V
    ·exact h2
   refine gg 1 λa F=>?_
   exact Xq7 _ ⟨Z,W,by rw[Ae];exact a2,Z⟩ (by simpa only[AO,Au,FI]using H.tail)
  replace a2:J (P.map (Uq v q.ps)++[Uq v q.ps x]) W:=by
   rcases a2 with⟨h1,h2⟩|⟨h1,_⟩
   ·exact h2
   ·rw[h1]at V;cases V
  refine gg 1 λa F=>?_
  repeat(first|rw[if_pos rfl]|rw[if_neg (by decide)])
  exact Xbt _ ⟨W,by rw[Ae];exact a2,Z⟩ (by simpa only[AO,Au,FI]using H.tail)
 ·
  intro D w a3 hi H
  obtain⟨g,a4,rfl⟩:=hi
  refine endM ?_;refine LD H 0 Z λw H=>?_;refine XoO results61 ?_
  exact⟨⟨_,Z⟩,g,Xbb H,.inl (by rw[aP];exact a4)⟩
 ·
  intro D c P w a3 a8 hi H
  obtain⟨rfl,g,a4,rfl⟩:=hi
  refine gg 1 λa F=>?_
  refine XcN ?_;refine LD H 0 Z λw H=>?_;refine XoO results61 ?_
  obtain⟨z,hz⟩:=a8
  exact⟨⟨_,Z⟩,g,Xbb H,.inr ⟨_,⟨z.map (Uq v q.ps),by rw[aP,<-hz];simp⟩,a4⟩⟩
end Md
structure ThP where
 A:Option Addr
 c:Nat
 ps:List PlP
def ThP.hd(t:ThP):List Value:=[.slice t.A t.ps.length t.c]
def ThP.res(t:ThP):List Res:=.rws 148 12 (.slice t.A t.ps.length t.c) (t.ps.map PlP.cells)::t.ps.flatMap PlP.res
theorem CD{α β:Type}{f:α->List β}{l:List α}{x:α}(h:x∈l):(f x).Sublist (l.flatMap f):=by
 obtain⟨s,t,rfl⟩:=List.append_of_mem h
 rw[Fl,F4]
 exact(F6 _ _).trans (HF _ _)
theorem evC7{l:List Ev}:∀r∈l.map Ev.cells,r.length=7:=λr b=>by obtain⟨x,_,rfl⟩:=AT.1 b;rfl
theorem prC2{l:List Pr}:∀r∈l.map prC,r.length=2:=λr b=>by obtain⟨x,_,rfl⟩:=AT.1 b;rfl
theorem Xrm{l:List PlP}:∀r∈l.map PlP.cells,r.length=12:=λr b=>by obtain⟨x,_,rfl⟩:=AT.1 b;rfl
section
variable{w0 w:World}{row:Option Nat}{hd qs:List Res}{ts:List ThP}{t:ThP}{q:PlP}{k:Nat}
theorem Xrl(H:Own w0 row w q.res):PlAt w q:=⟨H.rowsAt 0 Z evC7 O,H.rowsAt 1 Z prC2 O,H.rowsAt 2 Z prC2 O,H.rowsAt 3 Z prC2 O⟩
theorem Xnw(H:Own w0 row w (hd++(ts.flatMap ThP.res++qs)))(h:ts[k]?=some t):RowsAt w t.A 12 (t.ps.map PlP.cells)/\∀q∈t.ps,PlAt w q:=by
 have c:t.res.Sublist (hd++(ts.flatMap ThP.res++qs)):=(CD (AF h)).trans ((F6 _ _).trans (HF _ _))
 have b:=H.subl c
 refine⟨b.rowsAt 0 Z Xrm O,λq d=>Xrl (w0:=w0) (row:=row) (b.tail.subl (CD d))⟩
theorem Own.addTh(H:Own w0 row w (t.res++(hd++(ts.flatMap ThP.res++qs)))):Own w0 row w (hd++((ts++[t]).flatMap ThP.res++qs)):=by
 refine H.perm ?_
 have e:(ts++[t]).flatMap ThP.res=ts.flatMap ThP.res++t.res:=by simp
 rw[e]
 have b:(t.res++(hd++(ts.flatMap ThP.res++qs))).Perm (hd++(t.res++(ts.flatMap ThP.res++qs))):=H8 _ _ _
 refine b.trans (List.Perm.append_left hd ?_);rw[AO]
 exact H8 _ _ _
end
theorem XeU{dom:List UInt8}:(UI l dom 4096).1.length<=4096:=by
 unfold UI
 split
 ·exact AU _
 ·split
  ·exact AU _
  ·show((JH l (Um dom)).map Ul).length<=4096
   rw[AH];omega
theorem Xo9{α:Type}{a b o z:α}{l:List α}:([a,b]++([o]++(z::l))).Perm (([a,b]++l)++[o,z]):=by
 rw[AO]
 exact List.Perm.append_left _ (Fe (l₁:=[o,z]))
def UF(tss:List (List PathP))(d:List Nat):List PathP:=List.zipWith (λps i=>ps.getD i Xne) tss d
theorem D5{d:List Nat}{k:Nat}{q:PathP}(b:tss[k]?=some ps)(e:d[k]?=some i)(c:ps[i]?=some q):(UF tss d)[k]?=some q:=by
 unfold UF
 rw[List.getElem?_zipWith,b,e]
 show some (ps.getD i Xne)=some q
 rw[AS,c];rfl
theorem Nu{d:List Nat}(h:d.length=tss.length):(UF tss d).length=d.length:=by unfold UF;rw[List.length_zipWith];omega
def Xhh(tss:List (List PathP)):Nat->Nat
 |0=>1
 |j+1=>Xhh tss j*(tss.getD j []).length
theorem MH:∀(S:List Nat)(c:Nat),S.foldl (· * ·) c=c*(JA S).length
 | [],c=>by simp[JA]
 |n::r,c=>by
  have e:(JA (n::r)).length=n*(JA r).length:=by
   rw[JA,It]
   simp only[AH,List.map_const',Aq,List.sum_replicate_nat]
  rw[Fa,MH r,e,Nat.mul_assoc]
theorem XfQ{tss:List (List PathP)}:∀j,j<=tss.length->Xhh tss j=((tss.map List.length).take j).foldl (· * ·) 1
 |0,_=>rfl
 |j+1,h=>by
  have b:tss[j]?=some tss[j]:=AA O
  rw[Xhh,XfQ j O,At,AD,b,H7,FW,Fs,AS,b];rfl
theorem XpX:Xhh tss tss.length=(JA (tss.map List.length)).length:=by
 rw[XfQ _ (AI _),FD (by simp),MH,Ht]
def NC(p:Prg)(b:List UInt8):List (List PathP):=p.threads.map λl=>(UI l b 4096).1
def XaX(p:Prg)(b:List UInt8):Prop:=
 (∃l∈p.threads,(UI l b 4096).2≠0)\/(∃j,j<=p.threads.length/\4096<Xhh (NC p b) j)\/(∃d∈JA ((NC p b).map List.length),48<V1 p.init (UF (NC p b) d) (UF (NC p b) d).length)
def XcL(p:Prg)(b:List UInt8)(w0:World)(e:Ending)(d:World):Prop:=
 (XaX p b/\e=.returned (.tuple #[.slice none 0 0,.bool false])/\Below w0.heap.size w0 d) \/
 ∃(c:List MxP)(A:Option Addr)(C:Nat),(∀l∈p.threads,(UI l b 4096).2=0)/\c.map MxP.ps=(JA ((NC p b).map List.length)).map (UF (NC p b))/\(∀m∈c,m.ok p.init/\V1 p.init m.ps m.ps.length<=48)/\e=.returned (.tuple #[.slice A c.length C,.bool true]) /\
  Own w0 none d (.rws 99 336 (.slice A c.length C) (c.map (MxP.cells p.init))::c.flatMap (MxP.res p.init))
theorem Xid{α:Type}{a b c d e f g h i j:α}{q r s t:List α}:([c,h,i]++q).Sublist ([a,b,c,d,e,f,g,h,i,j]++(r++(s++(q++t)))):=
 List.Sublist.append (.cons _ (.cons _ (.cons_cons _ (.cons _ (.cons _ (.cons _ (.cons _ (.cons_cons _ (.cons_cons _ (.cons _ .slnil)))))))))) ((F6 q t).trans ((HF _ _).trans (HF _ _)))
theorem Xo6{α:Type}{a b c d e f g h:α}{q r z:List α}:(a::q).Sublist (d::(([a,b,c,e,f,g,h]++(r++q))++z)):=
 .cons _ (.cons_cons _ (.cons _ (.cons _ (.cons _ (.cons _ (.cons _ (.cons _ ((HF r q).trans (F6 _ z)))))))))
theorem XrE(v:List UInt8)(q:MxP):(q.cells v).all (·.oneCell')=true:=XbD Z Z Z Z
theorem XnB(v:List UInt8)(q:MxP):(q.cells v).length=336:=Mx.len
theorem XpU{d:World}{e:Ending}(h:Bh v ps w0 e d):∃(b:List Value)(c:Bool)(g:List Res),b.length=336/\b.all (·.oneCell')=true/\e=.returned (.tuple #[.agg b.toArray,.bool c])/\Own w0 none d g /\
 ((c=false/\48<V1 v ps ps.length)\/(c=true/\V1 v ps ps.length<=48/\∃q:MxP,q.ps=ps/\q.ok v/\b=q.cells v/\g=q.res v)):=by
 unfold Bh at h
 split at h
 ·rename_i i
  exact⟨_,false,[],Mx.len,XbD Z Z Z Z,h.1,(Own.start w0 none).grow h.2,.inl ⟨Z,i⟩⟩
 ·rename_i i
  obtain⟨q,n,j,o,m⟩:=h
  exact⟨_,true,_,XnB v q,XrE v q,o,m,.inr ⟨Z,O,q,n,j,Z,Z⟩⟩
def EvG(n:Nat)(e:Ev):Prop:=((e.kind=1\/e.kind=2)/\e.loc.toNat<n)\/(e.kind=3/\e.loc=0/\e.val=0)
theorem XlS{x:Ins}(d:UW x.op 2=true->x.loc.toNat<n)(v:UInt8)(r:RunP):∀e∈U1 x v r,EvG n e:=by
 have c:∀{o:UInt8},x.op=o->UW o 2=true->x.loc.toNat<n:=λe h=>d (e▸h)
 unfold U1
 intro e he
 split at he
 next h=>
  have b:=c h Z
  rw[Ay.1 he];exact .inl ⟨.inl Z,b⟩
 next=>
 split at he
 next h=>
  have b:=c h Z
  rw[Ay.1 he];exact .inl ⟨.inr Z,b⟩
 next=>
 split at he
 next=>cases he
 next=>
 split at he
 next h=>
  have b:=c h Z
  rcases Ap.1 he with he|he
  ·rw[he];exact .inl ⟨.inl Z,b⟩
  ·rw[Ay.1 he];exact .inl ⟨.inr Z,b⟩
 next=>
 split at he
 next h=>
  have b:=c h Z
  rcases Ap.1 he with he|he
  ·rw[he];exact .inl ⟨.inl Z,b⟩
  ·rw[Ay.1 he];exact .inl ⟨.inr Z,b⟩
 next=>
 split at he
 next h=>
  have b:=c h Z
  split at he
  ·rw[Ay.1 he];exact .inl ⟨.inl Z,b⟩
  ·rcases Ap.1 he with he|he
   ·rw[he];exact .inl ⟨.inl Z,b⟩
   ·rw[Ay.1 he];exact .inl ⟨.inr Z,b⟩
 next=>
 split at he
 ·rw[Ay.1 he];exact .inr ⟨Z,Z,Z⟩
 ·cases he
theorem Valid.loc(b:Valid p){t k:Nat}{x:Ins}(c:p.threads[t]?=some l)(d:l[k]?=some x)(hb:UW x.op 2=true):x.loc.toNat<p.init.length:=by
 have h:=Ah.1 (show(List.range 8).all _=true from Jo (b.ins t l c) d) 3 (by decide)
 have h:(!UW x.op 2||decide ((x.loc.toNat:Int)<(p.locs.length:Int)))=true:=h
 rw[hb,I6,Ho]at h
 have:=of_decide_eq_true h
 rw[b.init];omega
structure EndG (n:Nat) (l:List Ins) (z:RunP):Prop where
 inv:InvR l z
 invH:InvH z
 evs:∀e∈GL z,EvG n e
 len:l.length<=12
theorem Xay(g:Valid p){t:Nat}{b:List UInt8}(c:p.threads[t]?=some l)(hl:Ua 6 l=true)(h:PathD l b zRun z):EndG p.init.length l z where
 inv:=h.keep (I:=InvR l) (λ_ _ v hx hi=>EO v hi hl hx) (Xfj l)
 invH:=h.invH XjA
 evs:=h.keep (I:=λr=>∀e∈GL r,EvG p.init.length e) (λr x v hx hi e he=>by
  rw[JV]at he
  rcases A8.1 he with he|he
  ·exact hi e he
  ·exact XlS (λd=>g.loc c hx d) v r e he) (λe he=>by
  have:GL zRun=[]:=rfl
  rw[this]at he;cases he)
 len:=NW hl
theorem EndG.many(h:EndG n l z):z.many<=24:=by
 have:=h.inv.many;have:=h.inv.pc;have:=h.len;omega
theorem EndG.good(h:EndG n l z):GoodP n (Ul z):=by
 obtain⟨i,d,p⟩:=h.invH.pairs h.many h.inv.sets
 have r:=h.many
 have b:∀{j:Nat}{ps:List Pr},PairsOk j (Ul z).evs ps->∀q∈ps,q.1.toNat<(Ul z).evs.length/\q.2.toNat<(Ul z).evs.length:=λ{j ps} m q g=>by
  have:=m.mem q g
  have t:=this.lt
  have u:=this.hi
  omega
 have c:∀{f:Nat->Nat},(∀k,f k<4294967296)->(Uv f z.many).length<=1000000:=λ{f} o=>by
  have:=Xbz o z.many;omega
 exact⟨by show(GL z).length<=24;rw[UA];exact r,b i,b d,b p,c h.inv.sets.data,c h.inv.sets.ctrl,c h.inv.sets.att,λe s hk=>by
  rcases h.evs e s with h4|h4
  ·exact h4.2
  ·rw[h4.1]at hk;rcases hk with hk|hk<;>cases hk⟩
theorem XeV{b:List UInt8}{q:PathP}(c:q∈(UI l b 4096).1):Ua 6 l=true/\∃z,PathD l (Um b) zRun z/\q=Ul z:=by
 unfold UI at c
 split at c
 ·cases c
 next e=>
  split at c
  ·cases c
  ·obtain⟨z,g,rfl⟩:=AT.1 c
   refine⟨?_,z,mem_ends.1 g,Z⟩
   cases d:Ua 6 l with
   |true=>rfl
   |false=>exact absurd (.inr (.inr d)) e
theorem Xgo(j:Valid p)(c:List UInt8):∀ps∈NC p c,∀q∈ps,GoodP p.init.length q:=λps b q d=>by
 unfold NC at b
 obtain⟨l,e,rfl⟩:=AT.1 b
 obtain⟨t,i⟩:=Af.1 e
 obtain⟨g,z,m,rfl⟩:=XeV d
 exact(Xay j i g m).good
theorem Xpi{x:UInt8}(h:v[i]?=some x):(JC v)[i]?=some ⟨-1,⟨2,UInt8.ofNat i,x,0,0,0⟩⟩:=by
 unfold JC
 rw[AD,List.getElem?_zipIdx,h]
 simp
theorem MN(v:List UInt8):(JC v).length=v.length:=by unfold JC;simp
theorem MT{v:List UInt8}{ps:List PathP}:∀j,JC v <+: UE v ps j
 |0=>ID _
 |j+1=>(MT j).trans (by rw[UE];exact IF _ _)
theorem GM{x:UInt8}(h:v[i]?=some x):(UE v ps j)[i]?=some ⟨-1,⟨2,UInt8.ofNat i,x,0,0,0⟩⟩:=by
 obtain⟨t,b⟩:=MT (v:=v) (ps:=ps) j
 have c:=(AB.1 h).1
 rw[<-b,AP (by rw[MN];exact c),Xpi h]
theorem B8(c:v.length<=6)(b:i<v.length):i∈wrL (UE v ps j) i:=by
 have h:=GM (ps:=ps) (j:=j) (AA b)
 refine mem_pl.2 ⟨(AB.1 h).1,_,h,?_⟩
 unfold wrF
 rw[AJ,beq_iff_eq,beq_iff_eq]
 exact⟨Z,ofN O⟩
theorem Xqs(d:v.length<=6):∀c∈Qn (UE v ps j) v.length,1<=c.length:=λc b=>by
 unfold Qn at b
 obtain⟨i,e,rfl⟩:=AT.1 b
 exact Ie (B8 d (Ab.1 e))
end Go.Proofs.YtajfpcgbnflceaaGreatDoor
