/- The last step of a row, from Below. And more of this kind. Conditions: those of each theorem. -/
import Derived.ProofKit
import Derived.OpenShut
import Derived.ShutString
import Derived.Below
import Derived.ChangeSame
import Derived.Deep.Slices
import Derived.Deep.Fields
import Derived.SizedLaws
import Derived.WideKeyArgs
import Derived.LaidMore
import Derived.Stop.Joined
import Derived.Test.YtajfpcgbnflceaaGreatDoorJn7
set_option linter.unusedSimpArgs false
set_option linter.unusedVariables false
namespace Go.Proofs.YtajfpcgbnflceaaGreatDoor
open Go.Proofs.Tryz
set_option maxRecDepth 100000
variable{W:World}
section
open Go.RowKit Go.WideShapes Go.ChangeShapes
section
variable{H:Type}{enc:TypeId×Value->H}{P:Program}
theorem CV{f:Func}{s:ChangeSpec}{n w d y:Bool}{A:World}{e:Array Value}{v:Value}{B G:List (DataW H)}{c pa pv:List MemPlace}(I:DataW.Whole enc P f.params.toList s.vars n W e.toList B G c)(q:∀(b:Nat)(z:Nat->Bool)(L:Bool),DataW.TrodAll enc P A b z L f.resultTypes.toList (v.resultList f.resultTypes.size) (s.fn H (B++G)).results [])(i:∀z:Nat->Bool,(∀p∈c,z p.block=true)->DataW.TrodAll enc P A 0 z true f.params.toList e.toList (s.fn H (B++G)).args pa)(m:∀z:Nat->Bool,(∀p∈c,z p.block=true)->DataW.TrodVars enc P A z s.vars (s.fn H (B++G)).vars pv)(o:c=pa++pv)(hb:Below W.heap.size W A)(J:∀(j:Nat)(t:TypeId)(r:Value),f.resultTypes[j]?=some t->(v.resultList f.resultTypes.size)[j]?=some r->Value.okWide P A .any 0 t r):
 s.post enc P f n w d y W e v A:=by
 have D:∀p∈c,p.block<W.heap.size:=λp g=>I.lt p g
 have u:∀p∈c,(λb=>decide (b<W.heap.size)) p.block=true:=λp g=>by simpa using D p g
 refine⟨B,G,c,[],pa,pv,I,q _ _ _,i _ u,m _ u,World.keptBut_mono (λp g=>⟨g,?_⟩) (hb.frame (· ∈ c)),λ_=>?_⟩
 ·rw[o,A8]at g
  exact Or.inr g
 ·obtain⟨_,_,_,_,_,M,N⟩:=I
  refine⟨J,_,_,([]++pa)++pv,⟨[]++pa,pv,trodAll_append (i _ (λ_ _=>rfl)) (q _ _ _),m _ (λ_ _=>rfl),Z,?_,?_⟩,?_⟩
  ·intro b C g
   have E:MemPlace.cell b C∈c:=by rw[o];simpa using g
   rw[hb.frozen (D _ E)]
   exact M b C E
  ·intro K
   have:=N K
   rw[o]at this
   simpa using this
  ·intro p g _
   rw[o]
   simpa using g
end
theorem Xln:ownKnob prog.godebug=none:=by kernel_rfl
end
section
open Go.ChangeShapes Go.WideShapes Go.ChangeAt Go.RowKit Go.Deep
section
variable{H:Type}{enc:TypeId×Value->H}{P:Program}{w:World}{spare:Nat->Bool}{held:Bool}{fuel:Nat}{t:TypeId}{cs:List Value}{x:DataW H×List MemPlace}
theorem EF{e:Array Field}(m:P.underlying t=some (.struct e))(h:DataW.trod enc P w 0 spare held fuel t cs=some x):
 cs.length=P.cellsOf t/\∃n,fuel=n+1/\∀(i:Nat)(f:Field),e[i]?=some f->∃y,DataW.trod enc P w 0 spare held n f.type ((cs.drop f.offset).take (P.cellsOf f.type))=some y:=by
 obtain⟨j,n,p,_,g,b,o⟩:=DataW.trod_struct m h
 refine⟨g,n,p,λi f d=>?_⟩
 have c:i<j.length:=by rw[b];exact(FJ.1 d).1
 exact⟨_,(o i f d).trans (AA c)⟩
theorem CY{e:TypeId}(N:P.underlying t=some (.slice e))(q:0<P.cellsOf e)(h:DataW.trod enc P w 0 spare held fuel t cs=some x):
 ∃A d g,cs=[.slice A d g]/\d<=g/\g<=maxLen/\(A=none->d=0/\g=0) /\
  ∃m,fuel=m+1/\∀i,i<d->∃b z c y,A=some ⟨b,z,none⟩/\b<w.heap.size/\c.length=P.cellsOf e/\w.rangeAt b (z+i*P.cellsOf e) c/\DataW.trod enc P w 0 spare held m e c=some y:=by
 rcases DataW.trod_slice N h with⟨rfl,_⟩|⟨a,d,g,D,L,n,R,rfl,_,V,S,Q,J,s,_,_⟩
 ·cases fuel with
  |zero=>simp[DataW.trod]at h
  |succ m=>exact⟨none,0,0,Z,AI _,AU _,λ_=>⟨Z,Z⟩,m,Z,λi M=>O⟩
 ·refine⟨some a,d,g,Z,S,Q,(λh=>by cases h),n,R,λi M=>?_⟩
  obtain⟨b,o,T⟩:=a
  have C:T=none:=by
   have r:=s 0 O
   rw[AA O]at r
   obtain⟨c,E,_⟩:=Option.bind_eq_some_iff.1 r
   obtain⟨_,u,p⟩:=World.cells?_some E
   have K:=p 0 q
   rw[AA O]at K
   simpa[Addr.add]using World.cell?_spot K
  subst C
  have r:=s i M
  rw[AA O]at r
  obtain⟨c,E,G⟩:=Option.bind_eq_some_iff.1 r
  obtain⟨_,u,p⟩:=World.cells?_some E
  have B:w.cell? ⟨b,o+i*P.cellsOf e+0,none⟩=some (c[0]'(by omega)):=by
   have:=p 0 q
   rw[AA O,Addr.add_mid,Addr.add_mid]at this
   exact this
  refine⟨b,o,c,_,Z,World.block_lt_of_cell? w _ B,u,λj v I=>?_,G⟩
  have U:j<c.length:=(AB.1 I).1
  have:=p j O
  rw[Addr.add_mid,Addr.add_mid,I]at this
  exact this
theorem Xrr(c:P.underlying t=some (.int .u8))(h:DataW.trod enc P w 0 spare held fuel t cs=some x):∃u:UInt8,cs=[b8 u]:=by
 obtain⟨n,rfl,_,b⟩:=DataW.trod_int c h
 simp only[Lit.wf,AJ,decide_eq_true_eq]at b
 rw[show IntKind.u8.min=0 from by decide,show IntKind.u8.max=255 from by decide]at b
 refine⟨UInt8.ofNat n.toNat,?_⟩
 have:(UInt8.ofNat n.toNat).toNat=n.toNat:=by rw[HZ];omega
 simp only[b8,this]
 rw[Int.toNat_of_nonneg b.1]
theorem Xrw(d:P.underlying t=some .bool)(h:DataW.trod enc P w 0 spare held fuel t cs=some x):∃b:Bool,cs=[.bool b]:=by
 obtain⟨b,c,_⟩:=DataW.trod_bool d h
 exact⟨b,c⟩
theorem Xrt(c:P.underlying t=some .string)(h:DataW.trod enc P w 0 spare held fuel t cs=some x):∃s:ByteArray,cs=[.string s]/\s.size<=maxLen:=by
 obtain⟨s,b,_,d⟩:=DataW.trod_string c h
 exact⟨s,b,d⟩
end
theorem len2{α:Type}{l:List α}(h:l.length=2):∃a b,l=[a,b]:=by
 match l,h with
 | [a,b],_=>exact⟨a,b,Z⟩
theorem XnF{α:Type}{l:List α}(h:l.length=10):∃c g i o n m b d e j,l=[c,g,i,o,n,m,b,d,e,j]:=by
 match l,h with
 | [c,g,i,o,n,m,b,d,e,j],_=>exact⟨c,g,i,o,n,m,b,d,e,j,Z⟩
theorem len5'{α:Type}{l:List α}(h:l.length=5):∃b e g d c,l=[b,e,g,d,c]:=by
 match l,h with
 | [b,e,g,d,c],_=>exact⟨b,e,g,d,c,Z⟩
instance:Inhabited Ins:=⟨⟨0,0,0,false,0,false,0,0,0,0⟩⟩
instance:Inhabited Cnd:=⟨.mk 0 0 0 0 []⟩
theorem cU8:prog.cellsOf 5=1:=by kernel_rfl
theorem cBool:prog.cellsOf 4=1:=by kernel_rfl
theorem cStr:prog.cellsOf 9=1:=by kernel_rfl
theorem cArg:prog.cellsOf 41=2:=by kernel_rfl
theorem cIns:prog.cellsOf 43=10:=by kernel_rfl
theorem Xn1:prog.cellsOf 33=1:=by kernel_rfl
theorem XpJ:prog.cellsOf 24=1:=by kernel_rfl
theorem cStrs:prog.cellsOf 22=1:=by kernel_rfl
theorem cU8s:prog.cellsOf 23=1:=by kernel_rfl
theorem Xm0:prog.cellsOf 27=5:=by kernel_rfl
theorem Xr6:prog.cellsOf 25=1:=by kernel_rfl
theorem cProg:prog.cellsOf 29=10:=by kernel_rfl
section
variable{H:Type}{enc:TypeId×Value->H}{w:World}{spare:Nat->Bool}{held:Bool}{fuel:Nat}{cs:List Value}{x:DataW H×List MemPlace}
theorem o_arg(h:DataW.trod enc prog w 0 spare held fuel 41 cs=some x):∃(r:Bool)(n:UInt8),cs=[.bool r,b8 n]:=by
 obtain⟨g,m,_,i⟩:=EF X8 h
 rw[cArg]at g
 obtain⟨a,b,rfl⟩:=len2 g
 obtain⟨p,c⟩:=i 0 _ Z
 obtain⟨o,d⟩:=i 1 _ Z
 replace c:DataW.trod enc prog w 0 spare held m 4 (([a,b].drop 0).take (prog.cellsOf 4))=_:=c
 replace d:DataW.trod enc prog w 0 spare held m 5 (([a,b].drop 1).take (prog.cellsOf 5))=_:=d
 rw[cBool]at c;rw[cU8]at d
 obtain⟨r,e⟩:=Xrw underlying4 c
 obtain⟨n,j⟩:=Xrr Xq d
 simp only[List.drop,List.take,List.cons.injEq,and_true]at e j
 exact⟨r,n,by rw[e,j]⟩
theorem o_ins(h:DataW.trod enc prog w 0 spare held fuel 43 cs=some x):∃i:Ins,cs=i.cells:=by
 obtain⟨R,m,_,d⟩:=EF Xy h
 rw[cIns]at R
 obtain⟨A,t,B,G,E,D,j,p,s,C,rfl⟩:=XnF R
 have b:∀o,DataW.trod enc prog w 0 spare held m 5 (([A,t,B,G,E,D,j,p,s,C].drop o).take (prog.cellsOf 5))≠none->∃u:UInt8,([A,t,B,G,E,D,j,p,s,C].drop o).take 1=[b8 u]:=by
  intro o J
  obtain⟨y,g⟩:=Is.1 J
  rw[cU8]at g
  exact Xrr Xq g
 have c:∀o,DataW.trod enc prog w 0 spare held m 41 (([A,t,B,G,E,D,j,p,s,C].drop o).take (prog.cellsOf 41))≠none->∃(r:Bool)(n:UInt8),([A,t,B,G,E,D,j,p,s,C].drop o).take 2=[.bool r,b8 n]:=by
  intro o J
  obtain⟨y,g⟩:=Is.1 J
  rw[cArg]at g
  exact o_arg g
 have e:∀{z:Option (DataW H×List MemPlace)},(∃y,z=some y)->z≠none:=λ⟨y,g⟩=>by rw[g];exact λh=>by cases h
 obtain⟨X,M⟩:=b 0 (e (d 0 _ Z))
 obtain⟨U,N⟩:=b 1 (e (d 1 _ Z))
 obtain⟨V,Q⟩:=b 2 (e (d 2 _ Z))
 obtain⟨r3,W,v⟩:=c 3 (e (d 3 _ Z))
 obtain⟨r4,n4,q⟩:=c 5 (e (d 4 _ Z))
 obtain⟨u5,P⟩:=b 7 (e (d 5 _ Z))
 obtain⟨u6,L⟩:=b 8 (e (d 6 _ Z))
 obtain⟨T,S⟩:=b 9 (e (d 7 _ Z))
 simp only[List.drop,List.take,List.cons.injEq,and_true]at M N Q v q P L S
 obtain⟨v,K⟩:=v
 obtain⟨q,I⟩:=q
 subst M N Q v K q I P L S
 exact⟨⟨X,U,V,r3,W,r4,n4,u5,u6,T⟩,Z⟩
theorem Xnz{α:Type}[Inhabited α]{t e:TypeId}{f:α->List Value}{n:Nat}(G:prog.underlying t=some (.slice e))(M:prog.cellsOf e=n)(v:0<n)(B:∀{fuel:Nat}{cs:List Value}{x:DataW H×List MemPlace},DataW.trod enc prog w 0 spare held fuel e cs=some x->∃a,cs=f a)(h:DataW.trod enc prog w 0 spare held fuel t cs=some x):∃A C,∃l:List α,cs=[.slice A l.length C]/\RowsAt w A n (l.map f)/\l.length<=C/\C<=maxLen/\(A=none->C=0):=by
 obtain⟨A,o,s,rfl,N,P,K,m,_,z⟩:=CY G O h
 rw[M]at z
 obtain⟨T,Q⟩:=choose_lt (p:=λi (a:α)=>∃b d,A=some ⟨b,d,none⟩/\w.rangeAt b (d+i*n) (f a)) (λi r=>by
  obtain⟨b,d,E,y,L,_,_,I,D⟩:=z i r
  obtain⟨a,rfl⟩:=B D
  exact⟨a,b,d,L,I⟩)
 refine⟨A,s,(List.range o).map T,by simp,λj c u=>?_,by simpa using N,P,λh=>(K h).2⟩
 rw[Fj,AD]at u
 obtain⟨q,J,rfl⟩:=FN.1 u
 obtain⟨g,rfl⟩:=AB.1 J
 rw[Aq]at g;rw[Hm]
 exact Q j g
theorem XoY(h:DataW.trod enc prog w 0 spare held fuel 23 cs=some x):∃A C,∃l:List UInt8,cs=[.slice A l.length C]/\RowsAt w A 1 (l.map λx=>[b8 x])/\l.length<=C/\C<=maxLen/\(A=none->C=0):=
 Xnz underlying23 cU8 O (λh=>Xrr Xq h) h
theorem XoX(h:DataW.trod enc prog w 0 spare held fuel 33 cs=some x):∃A C,∃l:List Ins,cs=[.slice A l.length C]/\RowsAt w A 10 (l.map Ins.cells)/\l.length<=C/\C<=maxLen/\(A=none->C=0):=
 Xnz Yh cIns O (λh=>o_ins h) h
theorem Xrs(h:DataW.trod enc prog w 0 spare held fuel 22 cs=some x):∃A C,∃l:List ByteArray,cs=[.slice A l.length C]/\StrsAt w A l/\(∀s∈l,s.size<=maxLen)/\l.length<=C/\C<=maxLen/\(A=none->C=0):=by
 obtain⟨A,o,n,rfl,z,I,L,m,_,u⟩:=CY X0 (by rw[cStr];omega) h
 rw[cStr]at u
 obtain⟨T,v⟩:=choose_lt (p:=λi (s:ByteArray)=>s.size<=maxLen/\∃b d,A=some ⟨b,d,none⟩/\w.rangeAt b (d+i*1) [.string s]) (λi g=>by
  obtain⟨b,d,D,y,M,_,_,J,B⟩:=u i g
  obtain⟨a,rfl,G⟩:=Xrt XY B
  exact⟨a,G,b,d,M,J⟩)
 refine⟨A,n,(List.range o).map T,by simp,λj c t=>?_,λs E=>?_,by simpa using z,I,λh=>(L h).2⟩
 ·rw[Fj,AD]at t
  obtain⟨q,K,rfl⟩:=FN.1 t
  obtain⟨e,rfl⟩:=AB.1 K
  rw[Aq]at e;rw[Hm]
  exact(v j e).2
 ·obtain⟨i,r,rfl⟩:=AT.1 E
  exact(v i (Ab.1 r)).1
theorem XiX(h:DataW.trod enc prog w 0 spare held fuel 24 cs=some x):∃A C,∃l:List (List Ins),cs=[.slice A l.length C]/\ThreadsAt w A l/\l.length<=C/\C<=maxLen/\(A=none->C=0):=by
 obtain⟨A,o,n,rfl,u,G,L,m,_,s⟩:=CY underlying24 (by rw[Xn1];omega) h
 rw[Xn1]at s
 obtain⟨T,I⟩:=choose_lt (p:=λi (t:List Ins)=>∃b d B C,A=some ⟨b,d,none⟩/\w.cell? ⟨b,d+i*1,none⟩=some (.slice B t.length C)/\RowsAt w B 10 (t.map Ins.cells)/\t.length<=9223372036854775807) (λi g=>by
  obtain⟨b,d,z,y,M,_,_,J,v⟩:=s i g
  obtain⟨B,C,l,rfl,D,N,E,_⟩:=XoX v
  exact⟨l,b,d,B,C,M,by have:=J 0 _ Z;rwa [FF]at this,D,by unfold maxLen at E;omega⟩)
 refine⟨A,n,(List.range o).map T,by simp,λj c r=>?_,by simpa using u,G,λh=>(L h).2⟩
 rw[AD]at r
 obtain⟨q,K,rfl⟩:=FN.1 r
 obtain⟨e,rfl⟩:=AB.1 K
 rw[Aq]at e;rw[Hm]
 exact I j e
theorem CondAt.succ:∀(h:Nat)(cs:List Value)(c:Cnd),CondAt w h cs c->CondAt w (h+1) cs c
 |0,_,_,i=>i.elim
 |h+1,cs,.mk k t n v m,i=>by
  obtain⟨A,C,y,s,p⟩:=i
  refine⟨A,C,y,s,λj d o=>?_⟩
  obtain⟨b,g,e,q,u,r⟩:=p j d o
  exact⟨b,g,e,q,u,CondAt.succ h e d r⟩
theorem CondAt.mono{a b:Nat}(h:a<=b){cs:List Value}{c:Cnd}(e:CondAt w a cs c):CondAt w b cs c:=by
 induction h with
 |refl=>exact e
 |step _ d=>exact CondAt.succ _ _ _ d
theorem Xrv:∀(fuel:Nat){cs:List Value}{x:DataW H×List MemPlace},DataW.trod enc prog w 0 spare held fuel 27 cs=some x->∃c:Cnd,CondAt w fuel cs c:=by
 intro fuel
 induction fuel using Nat.strongRecOn with
 |ind fuel ih=>
  intro cs x h
  obtain⟨V,m,rfl,n⟩:=EF underlying27 h
  rw[Xm0]at V
  obtain⟨E,B,J,L,K,rfl⟩:=len5' V
  have e:∀o,DataW.trod enc prog w 0 spare held m 5 (([E,B,J,L,K].drop o).take (prog.cellsOf 5))≠none->∃u:UInt8,([E,B,J,L,K].drop o).take 1=[b8 u]:=by
   intro o ho
   obtain⟨y,t⟩:=Is.1 ho
   rw[cU8]at t
   exact Xrr Xq t
  have v:∀{z:Option (DataW H×List MemPlace)},(∃y,z=some y)->z≠none:=λ⟨y,t⟩=>by rw[t];exact λh=>by cases h
  obtain⟨u0,Q⟩:=e 0 (v (n 0 _ Z))
  obtain⟨X,R⟩:=e 1 (v (n 1 _ Z))
  obtain⟨u2,S⟩:=e 2 (v (n 2 _ Z))
  obtain⟨u3,P⟩:=e 3 (v (n 3 _ Z))
  obtain⟨y4,s⟩:=n 4 _ Z
  replace s:DataW.trod enc prog w 0 spare held m 25 (([E,B,J,L,K].drop 4).take (prog.cellsOf 25))=_:=s
  rw[Xr6]at s
  obtain⟨A,C,I,N,a6,hc,hA,U,rfl,W⟩:=CY underlying25 (by rw[Xm0];omega) s
  rw[Xm0]at W
  simp only[List.drop,List.take,List.cons.injEq,and_true]at Q R S P N
  subst Q R S P N
  obtain⟨T,hT⟩:=choose_lt (p:=λi (c:Cnd)=>∃b g d,A=some ⟨b,g,none⟩/\w.rangeAt b (g+i*5) d/\CondAt w (U+1) d c) (λi G=>by
   obtain⟨b,g,d,y,h1,_,_,h2,h3⟩:=W i G
   obtain⟨c,D⟩:=ih U O h3
   exact⟨c,b,g,d,h1,h2,D.mono O⟩)
  refine⟨.mk u0 X u2 u3 ((List.range C).map T),A,I,by simp,by rw[AH,Aq];unfold maxLen at hc;omega,λj a5 M=>?_⟩
  rw[AD]at M
  obtain⟨q,hq,rfl⟩:=FN.1 M
  obtain⟨r,rfl⟩:=AB.1 hq
  rw[Aq]at r;rw[Hm]
  exact hT j r
theorem Xru(h:DataW.trod enc prog w 0 spare held fuel 29 cs=some x):∃p:Prg,ProgAt w cs p:=by
 obtain⟨N,m,_,r⟩:=EF XJ h
 rw[cProg]at N
 obtain⟨t,q,u,y,v,o,g,i,j,n,rfl⟩:=XnF N
 obtain⟨y0,B⟩:=r 0 _ Z
 obtain⟨y1,E⟩:=r 1 _ Z
 obtain⟨y2,C⟩:=r 2 _ Z
 obtain⟨y3,z⟩:=r 3 _ Z
 obtain⟨y4,A⟩:=r 4 _ Z
 obtain⟨y5,D⟩:=r 5 _ Z
 replace B:DataW.trod enc prog w 0 spare held m 9 (([t,q,u,y,v,o,g,i,j,n].drop 0).take (prog.cellsOf 9))=_:=B
 replace E:DataW.trod enc prog w 0 spare held m 22 (([t,q,u,y,v,o,g,i,j,n].drop 1).take (prog.cellsOf 22))=_:=E
 replace C:DataW.trod enc prog w 0 spare held m 23 (([t,q,u,y,v,o,g,i,j,n].drop 2).take (prog.cellsOf 23))=_:=C
 replace z:DataW.trod enc prog w 0 spare held m 24 (([t,q,u,y,v,o,g,i,j,n].drop 3).take (prog.cellsOf 24))=_:=z
 replace A:DataW.trod enc prog w 0 spare held m 5 (([t,q,u,y,v,o,g,i,j,n].drop 4).take (prog.cellsOf 5))=_:=A
 replace D:DataW.trod enc prog w 0 spare held m 27 (([t,q,u,y,v,o,g,i,j,n].drop 5).take (prog.cellsOf 27))=_:=D
 rw[cStr]at B;rw[cStrs]at E;rw[cU8s]at C;rw[XpJ]at z;rw[cU8]at A;rw[Xm0]at D
 obtain⟨s,K,R⟩:=Xrt XY B
 obtain⟨W,LC,d,L,l1,l2,Q,T,_⟩:=Xrs E
 obtain⟨IA,IC,e,M,X,i2,S,_⟩:=XoY C
 obtain⟨V,TC,b,J,t1,t2,U,_⟩:=XiX z
 obtain⟨G,I⟩:=Xrr Xq A
 obtain⟨c,P⟩:=Xrv m D
 simp only[List.drop,List.take,List.cons.injEq,and_true]at K L M J I P
 subst K L M J I
 unfold maxLen at T S U
 exact⟨⟨s,d,e,b,G,c⟩,W,LC,IA,IC,V,TC,m,[o,g,i,j,n],Z,R,l1,by show d.length<=_;omega,Q,l2,X,by show e.length<=_;omega,t1,by show b.length<=_;omega,P⟩
end
theorem Xma:laidOutB prog=true:=by kernel_rfl
end
section
open Go.ChangeShapes Go.WideShapes Go.ChangeAt Go.RowKit Go.Deep
def Dv: List (String × DataW Unit) := [("math/bits.deBruijn32tab", Rows.laid_math_bits_deBruijn32tab), ("math/bits.deBruijn64tab", Rows.laid_math_bits_deBruijn64tab), ("seisin/check.needs", Rows.laid_seisin_check_needs)]
theorem XdM{P:Program}{W:World}{n:String}{d:DataW Unit}:∀{l:List (String×DataW Unit)} {c:List MemPlace},DataW.LaidVars P W l c->(n,d)∈l ->
 ∃g t cs fuel p,P.globalNamed n=some g/\(P.globals[g]?).map (·.type)=some t/\W.var? P n=some cs/\DataW.trod (λ_=>()) P W 0 (λ_=>true) false fuel t cs.toList=some (d,p)
 | [],_,_,b=>by cases b
 |(u,v)::r,c,⟨g,t,cs,f,p,q,s,m,i,j,o,_⟩,b=>by
  rcases Ap.1 b with e|e
  ·cases e;exact⟨g,t,cs,f,p,s,m,i,j⟩
  ·exact XdM o e
theorem gNeeds: prog.globalNamed "seisin/check.needs" = some 0 := by kernel_rfl
theorem tNeeds:(prog.globals[0]?).map (·.type)=some 274:=by kernel_rfl
theorem C7(h:laidMetH prog Dv W):NeedsAt W:=by
 rw[MakeChecks.laidMetH_plain _ _ _ Y]at h
 obtain⟨ps,hps,_,_⟩:=h
 obtain ⟨g0, t0, cs0, f0, p0, hg0, ht0, hv0, hd0⟩ := XdM (n := "seisin/check.needs") (d := Rows.laid_seisin_check_needs) hps (by unfold Dv; exact .tail _ (.tail _ (.head _)))
 obtain rfl:=Ac (gNeeds.symm.trans hg0)
 obtain rfl:=Ac (tNeeds.symm.trans ht0)
 obtain⟨xs,m1,rfl,hx1,hlen,hn3,hel⟩:=DataW.trod_array underlying274 hd0
 have key:∀i,i<9->∃n,cs0[i]?=some (.int .u8 n)/\(xs.map (·.1))[i]?=some (.lit (.int .u8 n)):=λi hi=>by
  have h1:=hel i hi
  rw[cU8,AA O]at h1
  obtain⟨n,e1,e2,_⟩:=DataW.trod_int Xq h1
  refine⟨n,?_,?_⟩
  ·have:(((cs0.toList.drop (i*1)).take 1))[0]?=some (.int .u8 n):=by rw[e1];rfl
   rw[FV,if_pos O,Fi,FZ,FF,F8]at this
   exact this
  ·rw[AD,AA O,e2];rfl
 simp only[Prod.mk.injEq]at hx1
 have hl:xs.map (·.1)=[.lit (.int .u8 0),.lit (.int .u8 35),.lit (.int .u8 38),.lit (.int .u8 29),.lit (.int .u8 7),.lit (.int .u8 7),.lit (.int .u8 15),.lit (.int .u8 32),.lit (.int .u8 92)]:=by
  have:=hx1.1
  simp only[Rows.laid_seisin_check_needs,DataW.agg.injEq]at this
  exact this.symm
 rw[hl]at key
 have fin:∀i:UInt8,i<9->∀n:Int,(([.lit (.int .u8 0),.lit (.int .u8 35),.lit (.int .u8 38),.lit (.int .u8 29),.lit (.int .u8 7),.lit (.int .u8 7),.lit (.int .u8 15),.lit (.int .u8 32),.lit (.int .u8 92)]:List (DataW Unit))[i.toNat]?=some (.lit (.int .u8 n)))->Value.int .u8 n=b8 (Xfb i):=by
  intro i hi n hn
  have h9:i.toNat<9:=Aa.1 hi
  have hi2:i=UInt8.ofNat i.toNat:=by simp
  generalize i.toNat=k at h9 hn hi2
  subst hi2
  match k,h9 with
  |0,_=>simp at hn;subst hn;rfl
  |1,_=>simp at hn;subst hn;rfl
  |2,_=>simp at hn;subst hn;rfl
  |3,_=>simp at hn;subst hn;rfl
  |4,_=>simp at hn;subst hn;rfl
  |5,_=>simp at hn;subst hn;rfl
  |6,_=>simp at hn;subst hn;rfl
  |7,_=>simp at hn;subst hn;rfl
  |8,_=>simp at hn;subst hn;rfl
  |k+9,h=>omega
 intro i hi
 obtain⟨n,h1,h2⟩:=key i.toNat (Aa.1 hi)
 rw[World.var?_cell hg0 hv0,h1,fin i hi n h2]
section
variable{H:Type}{enc:TypeId×Value->H}{W:World}{v:Value}{d:DataW H}{p:List MemPlace}
theorem Xsg(e:Value.okWide prog W .any 0 29 v)(h:DataW.Trod enc prog W 0 (λ_=>true) true 29 v d p):∃cs q,v=.agg cs.toArray/\ProgAt W cs q:=by
 obtain⟨cs,rfl,_⟩:=okWide_struct XJ e
 obtain⟨fuel,b⟩:=h
 obtain⟨q,c⟩:=Xru b
 exact⟨cs.toList,q,by simp,c⟩
end
open Go.ChangeShapes Go.WideShapes Go.ChangeAt Go.RowKit Go.Deep
theorem XhU{nm:String}{g m:Nat}{t:TypeId}{L:List Nat}{d:DataW Unit}(h:laidMetH prog Dv W)(hm:(nm,d)∈Dv)(I:prog.globalNamed nm=some g)(D:(prog.globals[g]?).map (·.type)=some t)(J:prog.underlying t=some (.array m 5))(hd:d=.agg (L.map λn:Nat=>.lit (.int .u8 (n:Int))))(S:L.length=m)(hb:∀n∈L,n<256):∀i,i<m->W.cell? ⟨g,i,none⟩=some (b8 (UInt8.ofNat (L.getD i 0))):=by
 rw[MakeChecks.laidMetH_plain _ _ _ Y]at h
 obtain⟨Q,s,_,_⟩:=h
 obtain⟨P,T,j,N,R,p,v,w,y⟩:=XdM s hm
 obtain rfl:=Ac (I.symm.trans p)
 obtain rfl:=Ac (D.symm.trans v)
 obtain⟨B,M,rfl,c,A,K,z⟩:=DataW.trod_array J y
 have o:∀i,i<m->∃n,j[i]?=some (.int .u8 n)/\(B.map (·.1))[i]?=some (.lit (.int .u8 n)):=λi u=>by
  have q:=z i u
  rw[cU8,AA O]at q
  obtain⟨n,E,G,_⟩:=DataW.trod_int underlying5 q
  refine⟨n,?_,?_⟩
  ·have:(((j.toList.drop (i*1)).take 1))[0]?=some (.int .u8 n):=by rw[E];rfl
   rw[FV,if_pos O,Fi,FZ,FF,F8]at this
   exact this
  ·rw[AD,AA O,G];rfl
 simp only[Prod.mk.injEq]at c
 have r:B.map (·.1)=L.map λn:Nat=>.lit (.int .u8 (n:Int)):=by
  have:=c.1
  rw[hd,DataW.agg.injEq]at this
  exact this.symm
 rw[r]at o
 intro i u
 obtain⟨n,q,C⟩:=o i u
 rw[World.var?_cell p w,q]
 have b:i<L.length:=O
 rw[AD,AA b]at C
 have e:n=((L[i]:Nat):Int):=by
  have:=Ac C
  injection this with this
  injection this with _ this
  exact this.symm
 have hd:L.getD i 0=L[i]:=by rw[AS,AA b];rfl
 unfold b8
 rw[e,hd,HZ,Fg (show L[i]<2^8 from hb _ (Ff b))]
theorem Xc9(h:laidMetH prog Dv W):TabAt W:=
 XhU (nm := "math/bits.deBruijn32tab") (L := tabL) h (by unfold Dv; exact .head _) Y Y underlying334 Z Z (by decide)
theorem Xbc(h:laidMetH prog Dv W):Tab6At W:=
 XhU (nm := "math/bits.deBruijn64tab") (L := tab6L) h (by unfold Dv; exact .tail _ (.head _)) Y Y underlying335 Z Z (by decide)
end
end Go.Proofs.YtajfpcgbnflceaaGreatDoor
