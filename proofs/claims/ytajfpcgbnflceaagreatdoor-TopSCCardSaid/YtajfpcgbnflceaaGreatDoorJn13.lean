/- WALK2. Package cand: Cands. Conditions: the program is valid, and lies in memory beside three tables; its paths are good. -/
import Derived.Test.YtajfpcgbnflceaaGreatDoorJn12
set_option linter.unusedSimpArgs false
set_option linter.unusedVariables false
namespace Go.Proofs.YtajfpcgbnflceaaGreatDoor
open Go.Proofs.Tryz
open Go.RowKit
set_option maxRecDepth 100000
set_option maxHeartbeats 4000000
variable{E:List EvT}{i j n x:Nat}{p:Prg}{w0:World}
theorem go_le:∀(f:Nat)(b:List UInt8),(goV p 16 f b).1.length<=16:=λf=>by
 induction f with
 |zero=>intro b;unfold goV;simp
 |succ f c=>
  intro b
  unfold goV
  split
  ·simp
  ·rename_i h
   split
   ·simp
   ·split
    ·show b.length<=16;omega
    ·exact c _
theorem Xop:(V5 p 16).1.length<=16:=by
 unfold V5
 split
 ·simp
 ·exact go_le _ _
def JT(p:Prg)(b:List UInt8):List (List PathP):=(JA ((NC p b).map List.length)).map (UF (NC p b))
def Uf(p:Prg):List XcV:=(JT p (V5 p 16).1).flatMap (UG p.init)
def JW(p:Prg)(b:Nat):Prop:=(V5 p 16).2≠0\/XaX p (V5 p 16).1\/b<(Uf p).length
structure CandGo (p:Prg) (most:Nat):Prop where
 vals:(V5 p 16).2=0
 paths:∀l∈p.threads,(UI l (V5 p 16).1 4096).2=0
 small:∀ps∈JT p (V5 p 16).1,V1 p.init ps ps.length<=48
 few:(Uf p).length<=most
def XcM(p:Prg)(b:Nat)(w0:World)(e:Ending)(d:World):Prop:=
 (JW p b/\e=.returned (.tuple #[.slice none 0 0,.int .i64 5])/\Below w0.heap.size w0 d) \/
 ∃(c:List XcP)(A:Option Addr)(C:Nat),c.map XcP.v=Uf p/\CandGo p b/\e=.returned (.tuple #[.slice A c.length C,.int .i64 0])/\Own w0 none d (.rws 65 333 (.slice A c.length C) (c.map XcP.cells)::c.map XcP.part)
section
variable{w0 w:World}{row:Option Nat}{hd qs:List Res}{v:List UInt8}{ms:List MxP}{q:MxP}{k n c g:Nat}
theorem XrI{v:List UInt8}{ms:List MxP}:∀r∈ms.map (MxP.cells v),r.length=336:=λr b=>by obtain⟨x,_,rfl⟩:=AT.1 b;exact XnB v x
theorem XiS(H:Own w0 row w (.rws 99 336 (Vd g 0 n c) (ms.map (MxP.cells v))::(ms.flatMap (MxP.res v)++qs)))(h:ms[k]?=some q):MixAt w g (0+k*336) v q:=by
 have B:=AF h
 have p:Own w0 row w (q.res v):=H.tail.subl ((CD B).trans (F6 _ _))
 obtain⟨b,o,e,D⟩:=H.rowsAt 0 Z XrI O k (q.cells v) (by rw[AD,h];rfl)
 cases e
 have m:∀x∈q.ws++q.ss,RowsAt w x.A 1 (Uo x.l):=λx d=>by
  have z:[x.part].Sublist (q.res v):=by
   refine List.Sublist.trans ?_ (HF _ _)
   rw[Ak,<-Ae]
   exact Id.2 (AT.2 ⟨x,d,Z⟩)
  exact(p.subl z).rowsAt 0 Z Uu O
 refine⟨D,p.rowsAt 3 Z Xpx O,p.rowsAt 0 Z Uu O,p.rowsAt 1 Z (λr y=>by obtain⟨x,_,rfl⟩:=AT.1 y;rfl) O,λx d=>m x (IG _ d),?_,λx d=>m x (II _ d)⟩
 intro j C t
 rw[AD]at t
 obtain⟨x,d,rfl⟩:=FN.1 t
 refine⟨q.g,0,Z,λi u s=>?_⟩
 cases i with
 |zero=>
  cases s
  have:=p.cell 2 (b:=q.g) (cs:=q.ws.map hdV) (j:=j) (v:=hdV x) Z (by rw[AD,d];rfl)
  simpa[hdV]using this
 |succ i=>simp[Ln.hd]at s
end
theorem Xo8{b:List UInt8}{j:World}{e:Ending}(h:XcL p b w0 e j):∃(ms:List MxP)(A:Option Addr)(C:Nat)(c:Bool),e=.returned (.tuple #[.slice A ms.length C,.bool c])/\Own w0 none j (.rws 99 336 (.slice A ms.length C) (ms.map (MxP.cells p.init))::ms.flatMap (MxP.res p.init)) /\
 ((c=false/\XaX p b)\/(c=true/\(∀l∈p.threads,(UI l b 4096).2=0)/\ms.map MxP.ps=JT p b/\∀m∈ms,m.ok p.init/\V1 p.init m.ps m.ps.length<=48)):=by
 rcases h with⟨g,d,i⟩|⟨ms,A,C,o,g,d,i,n⟩
 ·exact⟨[],none,0,false,d,((Own.start w0 none).grow i).nilRws 99 336,.inl ⟨Z,g⟩⟩
 ·exact⟨ms,A,C,true,i,n,.inr ⟨Z,o,g,d⟩⟩
theorem Xco{b o lim:Nat}{v:List UInt8}{q:MxP}(m:MixAt w0 b o v q)(w:q.ok v)(d:V1 v q.ps q.ps.length<=48)(z:1<=lim/\lim<=20001)(J:v.length<=6):
 Calls prog 34 #[Vc b o,Ve (lim:Int)] w0 λe C=>e=.returned (Ve ((min (UG v q.ps).length lim:Nat):Int))/\Below w0.heap.size w0 C:=by
 have d:(UE v q.ps q.ps.length).length<=48:=d
 obtain⟨y,n⟩:=w
 have B:q.ws.map (λx=>x.l.length)=(Qn (q.evs v) v.length).map List.length:=by unfold Qn;rw[<-y,Fj];rfl
 have D:q.ss.map (λx=>x.l.length)=(Gv (q.evs v)).map List.length:=by unfold Gv;rw[<-n,Fj];rfl
 have s:q.ws.length=v.length:=by have:=congrArg List.length y;simpa using this
 have E:q.ss.length<=48:=by have:=congrArg List.length n;simp at this;rw[this];exact AW GH d
 have t:∀x∈q.ws,x.l.length<=1000000:=λx j=>by
  have u:x.l∈(List.range v.length).map (wrL (q.evs v)):=y▸AT.2 ⟨x,j,Z⟩
  obtain⟨i, -,e⟩:=AT.1 u
  rw[<-e]
  exact AW (AW GH d) O
 have r:∀x∈q.ss,x.l.length<=1000000:=λx j=>by
  have u:x.l∈(rdL (q.evs v)).map (QQ (q.evs v)):=n▸AT.2 ⟨x,j,Z⟩
  obtain⟨i, -,e⟩:=AT.1 u
  rw[<-e]
  exact AW (AW (Xh1 _ i) d) O
 have h:=Xg1 b o lim q.c2 v.length q.A2 (some ⟨q.g,0,none⟩) (q.ss.map λx=>(x.A,x.l.length,x.c)) (q.ws.map λx=>(x.A,x.l.length,x.c)) w0 (by rw[AH];exact m.c2) (by rw[AH,s];exact m.c3)
  (by have e:hdR (q.ss.map λx=>(x.A,x.l.length,x.c))=q.ss.map Ln.hd:=by unfold hdR;rw[Fj];rfl
      rw[e];exact m.sr) (by have e:hdR (q.ws.map λx=>(x.A,x.l.length,x.c))=q.ws.map Ln.hd:=by unfold hdR;rw[Fj];rfl
                            rw[e];exact m.wr) z (λh p=>by obtain⟨x,j,rfl⟩:=AT.1 p;exact r x j) (λh p=>by obtain⟨x,j,rfl⟩:=AT.1 p;exact t x j) (by rw[AH];omega) (by rw[AH];omega)
 have G:XgH (q.ss.map λx=>(x.A,x.l.length,x.c))=(Gv (UE v q.ps q.ps.length)).map List.length:=by unfold XgH;rw[Fj];exact D
 have I:XgH (q.ws.map λx=>(x.A,x.l.length,x.c))=(Qn (UE v q.ps q.ps.length) v.length).map List.length:=by unfold XgH;rw[Fj];exact B
 rw[G,I,Xr3 z.1 d]at h
 exact h
theorem CC{α:Type}{f:α->Nat}:∀(l:List α)(j:Nat),((l.take j).map f).sum<=(l.map f).sum
 | [],j=>by simp
 |x::l,0=>by simp
 |x::l,j+1=>by rw[List.take_succ_cons,FH,FH,List.sum_cons,List.sum_cons];exact Nat.add_le_add_left (CC l j) _
theorem Xey{α:Type}{f:α->Nat}{l:List α}{x:α}(h:l[j]?=some x):((l.take (j+1)).map f).sum=((l.take j).map f).sum+f x:=by
 rw[At,h,FW,Ae,List.sum_append];simp
theorem Xkv(cs:List Value)(p:Prg)(c:Nat)(w0:World)(hP:ProgAt w0 cs p)(hr:VX p=0)(hN:NeedsAt w0)(hT:TabAt w0)(aL:Tab6At w0)(aF:c<=10000)(J:∀ps∈NC p (V5 p 16).1,∀q∈ps,GoodP p.init.length q)(a5:∀ps∈JT p (V5 p 16).1,∀I∈Qn (UE p.init ps ps.length) p.init.length,1<=I.length):
 Calls prog 14 #[.agg cs.toArray,Ve (c:Int)] w0 (XcM p c w0):=by
 have H:=Own.start w0 none
 have V:=hP
 have hV:=valid hr
 obtain⟨LA,LC,IA,IC,TA,TC,h,aP,hp⟩:=hP
 obtain⟨d1,d2,d3,d4,d5,rfl⟩:=Xa2 (Uk hp.cond)
 have aJ:=hp.cs
 subst aJ
 have a9:=hV.init
 have aN:=hV.locs6
 have aO:=hV.locs1
 refine VU func14 Z ntmps14 Z (λa F=>?_)
 refine gg 2 λa F=>?_
 refine zBx H F λb2 a w F H=>?_
 refine gg 9 λa F=>?_
 refine zSp 16 F (λaM F=>?_) λaM F=>?_
 ·
  omega
 refine gg 4 λa F=>?_
 refine zSp 20 F (λaG F=>?_) λaG F=>?_
 ·
  (have X:¬(20000:Int)<(c:Int):=O);exact absurd aG X
 refine gg 1 λa F=>?_
 refine zCa F (Qb _ p _ (V.own H) (hN.own H)) H λa w F H=>?_
 refine gg 4 λa F=>zi (λaI=>?_) λaI=>?_
 ·
  exact absurd hr O
 refine gg 4 λa F=>?_
 refine Xi call32 F Z (Xhf _ p 16 _ (V.own H) (hN.own H)) ?_;rintro e w ⟨A2,c2,rfl,s⟩;replace H:=H.join s;clear s
 refine zq λa F=>?_
 refine gg 13 λa F=>zi (λaK=>?_) λaK=>?_
 ·
  have G:(V5 p 16).2≠0:=O
  refine gg 6 λa F=>?_
  refine Gy results14 F Z Z ?_
  exact .inl ⟨.inl G,Z,H.below⟩
 have G:(V5 p 16).2=0:=O
 refine gg 4 λa F=>?_
 refine Xi call33 F Z (Md.mixes_cand b2 LC IC TC c2 LA IA TA A2 p (V5 p 16).1 _ (show _=some (Value.slice LA p.init.length LC)from by rw[a9];exact H.cell 1 Z Z) (H.cell 1 Z Z) (H.cell 1 Z Z) (RowsAt.own hp.init H) (hp.threads.own H) (H.rowsAt 0 Z Ql O) (AW Xop O) (hN.own H) (hT.own H) O hV.thr4 J) ?_;rintro e w z
 obtain⟨ms,AM,CM,ok,rfl,s,u⟩:=Xo8 z
 obtain⟨TL,HJ⟩:∃TL:List Res,Own w0 none w (.rws 99 336 (.slice AM ms.length CM) (ms.map (MxP.cells p.init))::(ms.flatMap (MxP.res p.init)++TL)):=⟨_,H.join s⟩
 clear H s z
 have H:=HJ
 clear HJ
 refine zq λa F=>?_
 refine gg 13 λa F=>zi (λt=>?_) λt=>?_
 ·
  have K:XaX p (V5 p 16).1:=by
   rcases u with⟨_,h⟩|⟨h,_⟩
   ·exact h
   ·rw[h]at t;cases t
  refine gg 6 λa F=>?_
  refine Gy results14 F Z Z ?_
  exact .inl ⟨.inr (.inl K),Z,H.below⟩
 obtain⟨a2,C,M⟩:(∀l∈p.threads,(UI l (V5 p 16).1 4096).2=0)/\ms.map MxP.ps=JT p (V5 p 16).1/\∀m∈ms,m.ok p.init/\V1 p.init m.ps m.ps.length<=48:=by
  rcases u with⟨h,_⟩|⟨_,h⟩
  ·rw[h]at t;cases t
  ·exact h
 have D:(Uf p).length=(ms.map λm=>(UG p.init m.ps).length).sum:=by
  unfold Uf
  rw[It,<-C,Fj];rfl
 refine gg 13 λa F=>?_
 refine cLoopS [1,8,40] (λm r w=>∃j n:Nat,m=ms.length-j/\r=[(10,Ve (n:Int)),(41,Ve ((j:Nat):Int))]/\j<=ms.length/\n=((ms.take j).map λm=>(UG p.init m.ps).length).sum/\n<=c/\Own w0 none w (.rws 99 336 (.slice AM ms.length CM) (ms.map (MxP.cells p.init))::(ms.flatMap (MxP.res p.init)++TL))) F (ms.length) [(10,Ve ((0:Nat):Int)),(41,Ve ((0:Nat):Int))] ?_ ?_
 ·exact⟨0,0,Z,Z,AU _,Z,AU _,H⟩
 clear F H;intro m r a w hI F
 obtain⟨j,n,rfl,rfl,hj,hn,a8,H⟩:=hI
 refine gg 6 λa F=>zi (λaH=>?_) λaH=>?_
 ·
  have d:j<ms.length:=O
  obtain⟨q,o⟩:∃q,ms[j]?=some q:=⟨_,AA d⟩
  obtain⟨gM,rfl⟩:=JR H 0 Z (λX=>by
   have T:=congrArg List.length X
   rw[AH]at T
   have h6:ms.length=0:=T
   omega)
  obtain⟨B,A⟩:=M q (AF o)
  have S:=Xey (f:=λm:MxP=>(UG p.init m.ps).length) o
  have L:=(H.rwsLen 0 Z).2
  simp only[maxLen]at L
  have aE:=CC (f:=λm:MxP=>(UG p.init m.ps).length) ms (j+1)
  refine gg 14 λa F=>?_
  refine zCa F (Xco (lim:=20001) (XiS H o) B A O O) H λa w F H=>?_
  refine gg 10 λa F=>zi (λaB=>?_) λaB=>?_
  ·
   refine gg 6 λa F=>?_
   refine Gy results14 F Z Z ?_
   exact .inl ⟨.inr (.inr (by rw[D];omega)),Z,H.below⟩
  refine gg 5 λa F=>?_
  exact⟨_,O,_,⟨j+1,n+min (UG p.init q.ps).length 20001,Z,Z,O,by rw[S];omega,O,H⟩,F.tt⟩
 have d:j=ms.length:=O
 refine gg 2 λa F=>?_
 subst d;rw[FT]at hn
 rename World=>W1
 have Q:=H
 have a4:∀(i:Nat)(q:MxP),ms[i]?=some q->∃g,AM=some ⟨g,0,none⟩/\MixAt W1 g (0+i*336) p.init q:=λi q o=>by
  obtain⟨gM,e⟩:=JR Q 0 Z (λX=>by
   have T:=congrArg List.length X
   rw[AH]at T
   have h6:ms.length=0:=T
   have:=(AB.1 o).1
   omega)
  refine⟨gM,e,?_⟩
  subst e
  exact XiS Q o
 clear H
 have H:=Own.start W1 none
 refine gg 2 λa F=>?_
 refine sMkC (bytes:=2416) (sz:=333) H underlying50 typeInfo65 Z Z Z F Z Z Z Z O (by(simp only[maxLen];omega)) λaD a w F H=>?_
 refine gg 10 λa F=>?_
 refine cLoopS [8,57] (λm r w=>∃(j:Nat)(b:List XcP)(P:Option Addr)(N:Nat),m=ms.length-j/\r=[(12,.slice P b.length N),(58,Ve ((j:Nat):Int))]/\j<=ms.length/\b.map XcP.v=(ms.take j).flatMap (λm=>UG p.init m.ps)/\Own W1 none w (.rws 65 333 (.slice P b.length N) (b.map XcP.cells)::(b.map XcP.part++[]))) F (ms.length) [(12,Vd aD 0 0 n),(58,Ve ((0:Nat):Int))] ?_ ?_
 ·exact⟨0,[],_,_,Z,Z,AU _,Z,H⟩
 clear F H;intro m r a w hI F
 obtain⟨j,b,P,N,rfl,rfl,hj,y,H⟩:=hI
 refine gg 6 λa F=>zi (λa3=>?_) λa3=>?_
 ·
  have d:j<ms.length:=O
  obtain⟨q,o⟩:∃q,ms[j]?=some q:=⟨_,AA d⟩
  obtain⟨gM,rfl,hM⟩:=a4 j q o
  obtain⟨B,A⟩:=M q (AF o)
  have S:=Xey (f:=λm:MxP=>(UG p.init m.ps).length) o
  have aE:=CC (f:=λm:MxP=>(UG p.init m.ps).length) ms (j+1)
  have aQ:b.length=((ms.take j).map λm=>(UG p.init m.ps).length).sum:=by
   have:=congrArg List.length y
   rwa [AH,It]at this
  have L:=(Q.rwsLen 0 Z).2
  simp only[maxLen]at L
  have U:(ms.take (j+1)).flatMap (λm=>UG p.init m.ps)=(ms.take j).flatMap (λm=>UG p.init m.ps)++UG p.init q.ps:=by
   rw[At,o,FW,Fl,F4,List.flatMap_nil,Ak]
  refine gg 14 λa F=>?_
  refine zCa F (Xco (lim:=1) (hM.own H) B A O O) H λa w F H=>?_
  refine gg 3 λa F=>zi (λaA=>?_) λaA=>?_
  ·
   refine gg 5 λa F=>?_
   (have h0:UG p.init q.ps=[]:=Al O
    exact⟨_,O,_,⟨j+1,b,P,N,Z,Z,O,by rw[U,h0,Ak];exact y,H⟩,F.tt⟩)
  have E:1<=(UG p.init q.ps).length:=O
  have aC:0∉szL (q.evs p.init) p.init.length:=λh0=>by
   have:UG p.init q.ps=[]:=by unfold UG;rw[show UE p.init q.ps q.ps.length=q.evs p.init from Z,EE _ h0];rfl
   rw[this]at E;exact absurd E (by decide)
  have R:∀I∈Qn (q.evs p.init) p.init.length,(Xds I.length).length<=10000:=λI a1=>by
   have h1:(GG I).length∈szL (q.evs p.init) p.init.length:=IG _ (AT.2 ⟨I,a1,Z⟩)
   have h2:=XdC aC h1
   have h3:(UG p.init q.ps).length=(JA (szL (q.evs p.init) p.init.length)).length:=AH _
   have h4:(GG I).length=(Xds I.length).length:=AH _
   omega
  have a7:q.ps∈JT p (V5 p 16).1:=C▸AT.2 ⟨q,AF o,Z⟩
  refine gg 6 λa F=>?_
  refine Xi call36 F Z (Bu gM (0+j*336) _) ?_;rintro e w ⟨b1,rfl,s⟩
  replace H:=(H.join s).swapN 1 1;clear s
  refine zq λa F=>?_
  refine Xi call35 F Z (Md.appendSeq_any P N _ _ b (UG p.init q.ps) W1 O _ _ H (Md.cand_iter p.init q gM (0+j*336) b1 W1 (b.map XcP.part++[]) hM B (aL.own Q) O _ Z A R (a5 _ a7)) (enters_of func61 Y Z)) ?_;rintro e w ⟨zs,A3,C3,a6,rfl,s⟩
  have H3:Own W1 none w (.rws 65 333 (.slice A3 (b++zs).length C3) ((b++zs).map XcP.cells)::(zs.map XcP.part++(b.map XcP.part++[]))):=s.subl (.cons_cons _ (List.Sublist.append (List.Sublist.refl _) (.cons _ (List.Sublist.refl _))))
  replace H:Own W1 none w (.rws 65 333 (.slice A3 (b++zs).length C3) ((b++zs).map XcP.cells)::((b++zs).map XcP.part++[])):=by
   rw[Ae (f:=XcP.part),AO]
   exact H3.perm (List.Perm.cons _ (H8 _ _ _))
  clear s H3
  refine zq λa F=>?_
  refine gg 6 λa F=>?_
  exact⟨_,O,_,⟨j+1,b++zs,A3,C3,Z,Z,O,by rw[U,Ae,y,a6],H⟩,F.tt⟩
 have d:j=ms.length:=O
 refine gg 8 λa F=>?_
 refine Gy results14 F Z Z ?_
 (subst d
  rw[FT]at y;rw[Ak]at H
  refine .inr ⟨b,P,N,?_,⟨O,a2,λps W=>?_,by rw[D,<-hn];exact a8⟩,Z,Own.front (Q.join H)⟩
  ·rw[y];unfold Uf
   rw[<-C,List.flatMap_map]
  ·rw[<-C]at W
   obtain⟨q,o,rfl⟩:=AT.1 W
   exact(M q o).2)
structure ExAt (w:World) (b o:Nat) (x:XcP):Prop where
 cells:w.rangeAt b o x.cells
 evs:RowsAt w x.A 7 (x.v.evs.map EvT.cells)
theorem ExAt.own{w:World}{c:List Res}{b o:Nat}{x:XcP}(h:ExAt w0 b o x)(H:Own w0 none w c):ExAt w b o x:=⟨H.argR h.cells,h.evs.own H⟩
section
variable{w:World}{b o k:Nat}{x:XcP}{pre post:List Value}
theorem Jc{cs:List Value}(h:w.rangeAt b o (pre++(cs++post)))(d:pre.length=k):w.rangeAt b (o+k) cs:=λj v c=>by
 rw[FY];refine h (k+j) v ?_
 rw[AQ O,d,Fq,AP (AB.1 c).1];exact c
theorem ExAt.c0(h:ExAt w b o x):w.cell? ⟨b,o+0,none⟩=some (.slice x.A x.v.evs.length x.c):=h.cells 0 _ Z
theorem ExAt.po(h:ExAt w b o x):w.rangeAt b (o+1) x.v.po.cells:=Jc (pre:=[_]) h.cells Z
theorem ExAt.rf(h:ExAt w b o x):w.rangeAt b (o+50) x.v.rf.cells:=Jc (pre:=_::x.v.po.cells) h.cells (by rw[AY,Rl.len])
theorem ExAt.co(h:ExAt w b o x):w.rangeAt b (o+99) x.v.co.cells:=by
 have c:=h.cells
 unfold XcP.cells Xc.cells at c
 rw[<-AO,<-Au]at c
 exact Jc c (by rw[AY,AK,Rl.len,Rl.len])
theorem ExAt.da(h:ExAt w b o x):w.rangeAt b (o+148) x.v.da.cells:=by
 have c:=h.cells
 unfold XcP.cells Xc.cells at c
 rw[<-AO,<-AO,<-Au]at c
 exact Jc c (by simp only[AY,AK,Rl.len])
theorem ExAt.ct(h:ExAt w b o x):w.rangeAt b (o+197) x.v.ct.cells:=by
 have c:=h.cells
 unfold XcP.cells Xc.cells at c
 rw[<-AO,<-AO,<-AO,<-Au]at c
 exact Jc c (by simp only[AY,AK,Rl.len])
theorem ExAt.fi(h:ExAt w b o x):w.rangeAt b (o+295) (bs 38 x.v.fi):=by
 have c:=h.cells
 unfold XcP.cells Xc.cells at c
 rw[<-AO,<-AO,<-AO,<-AO,<-AO,<-Ak (bs 38 _),<-Au]at c
 exact Jc c (by simp only[AY,AK,Rl.len])
theorem ExAt.rm(h:ExAt w b o x):w.rangeAt b (o+246) x.v.rm.cells:=by
 have c:=h.cells
 unfold XcP.cells Xc.cells at c
 rw[<-AO,<-AO,<-AO,<-AO,<-Au]at c
 exact Jc c (by simp only[AY,AK,Rl.len])
end
theorem EJ(b o i c:Nat)(r:Rl)(w0:World)(j:w0.rangeAt b o r.cells)(m:i<48)(n:c<64):
 Calls prog 75 #[Vc b o,Ve (i:Int),Ve (c:Int)] w0 λe g=>e=.returned (.bool (r.has i c))/\Below w0.heap.size w0 g:=by
 have H:=Own.start w0 none
 have d:w0.cell? ⟨b,o+1+i,none⟩=some (d8 (r.to i)):=by rw[FY];exact j _ _ (Qw m)
 refine VU func75 Z ntmps75 Z (λa F=>?_)
 refine gg 13 λa F=>?_
 refine Xh F Z Z (Xm6 ?_) ?_
 focus omega
 clear F a;intro a F;refine Xh F Z Z (NI (y:=1)) (Ei Z Z Z Z (XaS (y:=1)) λa F=>?_)
 refine gg 4 λa F=>?_
 refine⟨?_,H.below⟩
 rw[show r.has i c=(shr (r.to i) c&&&1==1)from has_shr.symm]
def PickF(v:Value)(n:Nat)(f:Nat->Nat->Bool)(w0:World):Prop:=∀a c w,a<n->c<n->Below w0.heap.size w0 w->JL prog v [.int .i64 (a:Int),.int .i64 (c:Int)] w λe b=>e=.returned (.bool (f a c))/\Below w.heap.size w b
theorem Do(n:Nat)(v:Value)(f:Nat->Nat->Bool)(w0:World)(M:n<=48)(K:PickF v n f w0):
 Calls prog 73 #[Ve (n:Int),v] w0 λe J=>∃q:Rl,q.n=n/\OkR q/\(∀a c,q.has a c=(decide (a<n)&&decide (c<n)&&f a c))/\e=.returned (.agg q.cells.toArray)/\Below w0.heap.size w0 J:=by
 refine Vb func73 ntmps73 λH a F=>?_
 refine gg 2 λa F=>?_
 refine zAl zeroValue58 H F λy a w F H=>?_
 refine gg 1 λa F=>?_
 replace H:Own w0 none w [.blk y (zR 0).cells 58]:=H
 refine gg 3 λa F=>?_
 refine sBd (cs:=(zR n).cells) (places:=[(0,1),(1,48)]) zeroValue58 underlying58 Y F Z Z Z Z λa F=>?_
 refine zAl zeroValue58 H F λz a w F H=>?_
 refine sSr H 0 ?si F Z Z Z ?s1 Z Z ?_
 case si=>exact VT sizeOf58
 case s1=>rfl
 clear H;intro w H
 refine gg 1 λa F=>?_
 replace H:Own w0 none w [.blk z (VZ (zR 0).cells 0 (zR n).cells) 58,.blk y (zR 0).cells 58]:=H
 rw[Us (Rl.len _)]at H
 refine gg 7 λa F=>?_
 refine cLoopS [0,1,4,5,10] (λm d w=>∃(j:Nat)(q:Rl),m=n-j/\d=[(11,Ve ((j:Nat):Int))]/\j<=n/\q.n=n/\(∀a c,q.has a c=(decide (a<j)&&decide (c<n)&&f a c))/\Own w0 none w [.blk z q.cells 58,.blk y (zR 0).cells 58]) F (n) [(11,Ve ((0:Nat):Int))] ?_ ?_
 ·exact⟨0,zR n,Z,Z,O,Z,λa c=>by rw[Xhj];simp,H⟩
 clear F H;intro m d a w G F
 obtain⟨j,q,rfl,rfl,N,s,C,H⟩:=G
 refine gg 6 λa F=>zi (λD=>?_) λD=>?_
 ·
  have u:j<n:=O
  refine gg 14 λa F=>?_
  refine cLoopS [0,1,4,5,6,10,11,14] (λm d w=>∃(k:Nat)(b:Rl),m=n-k/\d=[(15,Ve ((k:Nat):Int))]/\k<=n/\b.n=n/\(∀a c,b.has a c=((decide (a<j)&&decide (c<n)&&f a c)||(decide (a=j)&&decide (c<k)&&f a c)))/\Own w0 none w [.blk z b.cells 58,.blk y (zR 0).cells 58]) F (n) [(15,Ve ((0:Nat):Int))] ?_ ?_
  ·exact⟨0,q,Z,Z,O,s,λa c=>by rw[C];simp,H⟩
  clear F H;intro m d a w G F
  obtain⟨k,b,rfl,rfl,L,g,o,H⟩:=G
  refine gg 6 λa F=>zi (λE=>?_) λE=>?_
  ·
   have r:k<n:=O
   refine gg 13 λa F=>?_
   refine NL F Z Z Z Z (K j k _ u r H.below) ?_;rintro e w ⟨rfl,I⟩;replace H:=H.grow I;clear I
   refine zq λa F=>?_
   refine gg 1 λa F=>?_
   refine cIf F Z (λt=>?_) (λt=>?_)
   ·
    refine zRO H λH=>?_
    refine gg 3 λa F=>?_
    refine Xe 3 Z F Z Z (λw H=>rLd isAgg55 F Z (H.cell 0 Z (Qw O))) H qq0 λa F=>?_
    refine gg 1 λa F=>?_
    refine Xf (k:=5) (i:=5) Z F Z (λw=>Gt F Z Z (Xef ?_)) H (λ_ _ _ h=>h) ?_
    focus omega
    clear F a;intro a F;refine Xb 6 Z F Z (λw=>Gt F Z Z (XcF)) H qq0 λa F=>?_
    refine gg 2 λa F=>?_
    refine Xd (k:=9) (i:=9) Z F (oSt H 0 sizeOf55 F Z Z Z Z (Qw (a:=j) O) λw H=>?_)
    refine gg 2 λa F=>?_
    replace H:Own w0 none w [.blk z (b.cells.set (1+j) (d8 (b.to j|||bit k))) 58,.blk y (zR 0).cells 58]:=H
    rw[Xbp]at H
    refine gg 4 λa F=>?_
    (refine⟨_,O,_,⟨k+1,b.put j (b.to j|||bit k),rfl,rfl,O,g,λa c=>?_,H⟩,F.tt⟩
     rw[Xan]
     by_cases p:a=j
     ·subst p
      rw[if_pos Z,GR,Gx O,show has (b.to a) c=b.has a c from Z,o]
      by_cases B:k=c
      ·subst B;simp[t]
      ·have A:(c<k+1)=(c<k):=by apply propext;omega
       simp[B,A]
     ·rw[if_neg p,o];simp[p])
   refine gg 5 λa F=>?_
   (refine⟨_,O,_,⟨k+1,b,Z,Z,O,g,λa c=>?_,H⟩,F.tt⟩
    rw[o]
    by_cases p:a=j
    ·subst p
     by_cases B:c=k
     ·subst B;simp[t]
     ·have A:(c<k+1)=(c<k):=by apply propext;omega
      simp[A]
    ·simp[p])
  have r:k=n:=O
  refine gg 5 λa F=>?_
  subst r
  refine⟨_,O,_,⟨j+1,b,Z,Z,O,g,λa c=>?_,H⟩,F.tt⟩
  rw[o]
  by_cases p:a=j
  ·subst p;simp
  ·have A:(a<j+1)=(a<j):=by apply propext;omega
   simp[p,A]
 have u:j=n:=O
 refine gg 4 λa F=>?_
 refine sSr H 1 ?si F Z Z Z ?s1 Z Z ?_
 case si=>exact VT sizeOf58
 case s1=>rfl
 clear H;intro w H
 refine gg 1 λa F=>?_
 replace H:Own w0 none w [.blk z q.cells 58,.blk y (VZ (zR 0).cells 0 q.cells) 58]:=H
 rw[Us (Rl.len _)]at H
 refine gg 1 λa F=>?_
 refine Nf results73 F Z underlying58 Z H 1 Z sizeOf58 Z ?_;subst u
 exact⟨q,s,⟨O,λa c h=>by rw[C]at h;simp only[AJ,decide_eq_true_eq]at h;rw[s];exact h.1⟩,C,Z,H.below⟩
theorem eTEw:EqT prog 2 156 [.int,.u8,.u8,.u8,.u8,.u8,.u8] true:=by
 have c:EqT prog 1 3 [.int] false:=Br underlying3 (.inr Z)
 have b:EqT prog 1 5 [.u8] false:=Br underlying5 (.inl Z)
 have h:=QE (P:=prog) (D:=1) (kss:=[([.int],false),([.u8],false),([.u8],false),([.u8],false),([.u8],false),([.u8],false),([.u8],false)]) underlying156 Y
  ⟨Z,by decide,sizeOf3,isAgg3,λ_=>rfl,c,Z,by decide,sizeOf5,isAgg5,λ_=>rfl,b,Z,by decide,sizeOf5,isAgg5,λ_=>rfl,b,
   rfl,by decide,sizeOf5,isAgg5,λ_=>rfl,b,Z,by decide,sizeOf5,isAgg5,λ_=>rfl,b,
   rfl,by decide,sizeOf5,isAgg5,λ_=>rfl,b,Z,by decide,sizeOf5,isAgg5,λ_=>rfl,b,trivial⟩
 exact h
theorem XnO(x:EvT):Fits [.int,.u8,.u8,.u8,.u8,.u8,.u8] x.cells:=by
 have b:∀c:UInt8,CK.ok .u8 (b8 c):=λc=>⟨_,Z⟩
 exact⟨⟨_,Z⟩,b _,b _,b _,b _,b _,b _,trivial⟩
theorem XmV(x:EvT):ceq x.cells x.cells=true:=by
 show ceq (Ve x.thr::x.ev.cells.tail) (Ve x.thr::x.ev.cells.tail)=true
 simp[Ev.cells,ceq,NU,b8]
theorem bNeEw{x y:Operand}{u v:EvT}(h:u=v):Gu prog .neq 156 x y (.agg u.cells.toArray) (.agg v.cells.toArray) (.bool false):=by
 have b:=bNeT (x':=x) (y':=y) eTEw Y (by decide) (XnO u) (XnO v)
 rw[h,XmV]at b
 rw[h];exact b
def tkE(E:List EvT)(n i:Nat):Int×Nat:=if i<=n then(0,0)else match E[i-1]? with|some e=>(e.thr,e.ev.pos.toNat+1)|none=>(0,0)
structure EvsOk (n:Nat) (E:List EvT):Prop where
 n1:1<=n
 n6:n<=6
 len:n<=E.length
 l48:E.length<=48
 ini:∀i,i<n->∃x,E[i]?=some ⟨-1,⟨2,UInt8.ofNat i,x,0,0,0⟩⟩
 thr:∀i e,n<=i->E[i]?=some e->(tkE E n i).1<=e.thr/\0<=e.thr/\e.thr<4/\e.ev.pos.toNat=if(tkE E n i).1<e.thr then 0 else(tkE E n i).2
 knd:∀i e,n<=i->E[i]?=some e->((e.ev.kind=1\/e.ev.kind=2)/\e.ev.loc.toNat<n)\/(e.ev.kind=3/\e.ev.loc=0/\e.ev.val=0)
theorem Xc2{e:EvT}(b:n<=i)(h:E[i]?=some e):tkE E n (i+1)=(e.thr,e.ev.pos.toNat+1):=by
 unfold tkE;rw[if_neg O,HQ,h]
theorem tk_le:(tkE E n i).2<=256:=by
 unfold tkE
 split
 ·exact AU _
 ·split
  ·rename_i e _;exact e.ev.pos.toNat_lt
  ·exact AU _
theorem Xex(h:i<=n):tkE E n i=(0,0):=if_pos h
theorem XbZ(A:Option Addr)(C n:Nat)(E:List EvT)(w0:World)(v:RowsAt w0 A 7 (E.map EvT.cells))(h:EvsOk n E):
 Calls prog 65 #[.slice A E.length C] w0 λe s=>e=.returned (Ve (n:Int))/\Below w0.heap.size w0 s:=by
 have H:=Own.start w0 none
 have D:=h.len
 have t:=h.l48
 refine VU func65 Z ntmps65 Z (λa F=>?_)
 refine gg 12 λa F=>?_
 refine cLoopS [0,5,6] (λm g w=>∃j:Nat,m=E.length-j/\g=[(7,Ve ((j:Nat):Int))]/\j<=n/\Own w0 none w []) F (E.length) [(7,Ve ((0:Nat):Int))] ?_ ?_
 ·exact⟨0,Z,Z,AU _,H⟩
 clear F H;intro m g a w q F
 obtain⟨j,rfl,rfl,G,H⟩:=q
 refine gg 6 λa F=>zi (λr=>?_) λr=>?_
 ·
  have o:j<E.length:=O
  obtain⟨e,i⟩:∃e,E[j]?=some e:=⟨_,AA o⟩
  obtain⟨B,y,rfl,z⟩:=v j e.cells (by rw[AD,i];rfl)
  refine gg 8 λa F=>?_
  refine zAl zeroValue156 H F λu a w F H=>?_
  refine gg 1 λa F=>?_
  refine sSr H 0 ?si F Z Z Z ?s1 Z Z ?_
  case si=>exact VT sizeOf156
  case s1=>rfl
  clear H;intro w H
  refine gg 1 λa F=>?_
  replace H:Own w0 none w [.blk u e.cells 156]:=H
  refine gg 7 λa F=>zi (λd=>?_) λd=>?_
  ·
   have c:j=n:=by
    rcases AN j n with b|hge
    ·obtain⟨x,p⟩:=h.ini j b
     rw[i]at p
     cases p
     exact absurd Z d
    ·omega
   refine gg 7 λa F=>?_
   (subst c;exact⟨Z,H.below⟩)
  have c:j<n:=by
   rcases AN j n with b|hge
   ·exact b
   ·have:=(h.thr j e hge i).2.1;omega
  refine gg 5 λa F=>?_
  exact⟨_,O,_,⟨j+1,Z,Z,O,H.tail⟩,F.tt⟩
 refine gg 9 λa F=>?_
 (have:n=E.length:=O
  rw[this];exact⟨Z,H.below⟩)
theorem XgW(A:Option Addr)(C n:Nat)(E:List EvT)(w0:World)(R:RowsAt w0 A 7 (E.map EvT.cells))(h:EvsOk n E):
 Calls prog 66 #[.slice A E.length C,Ve (n:Int)] w0 λe L=>e=.returned (.bool true)/\Below w0.heap.size w0 L:=by
 have H:=Own.start w0 none
 have hn:=h.len
 have M:=h.l48
 have P:=h.n6
 refine VU func66 Z ntmps66 Z (λa F=>?_)
 refine gg 17 λa F=>?_
 refine cLoopS [1,9,10] (λm v w=>∃j:Nat,m=E.length-j/\v=[(5,Ve (tkE E n j).1),(6,Ve ((tkE E n j).2:Int)),(11,Ve ((j:Nat):Int))]/\j<=E.length/\Own w0 none w []) F (E.length) [(5,Ve 0),(6,Ve 0),(11,Ve ((0:Nat):Int))] ?_ ?_
 ·exact⟨0,Z,by rw[Xex (AU _)];rfl,AU _,H⟩
 clear F H;intro m v a w T F
 obtain⟨j,rfl,rfl,hj,H⟩:=T
 refine gg 6 λa F=>zi (λD=>?_) λD=>?_
 ·
  have B:j<E.length:=O
  obtain⟨e,z⟩:∃e,E[j]?=some e:=⟨_,AA B⟩
  obtain⟨bE,oE,rfl,hE⟩:=R j e.cells (by rw[AD,z];rfl)
  refine gg 8 λa F=>?_
  refine zAl zeroValue156 H F λb8 a w F H=>?_
  refine gg 1 λa F=>?_
  refine sSr H 0 ?si F Z Z Z ?s1 Z Z ?_
  case si=>exact VT sizeOf156
  case s1=>rfl
  clear H;intro w H
  refine gg 1 λa F=>?_
  replace H:Own w0 none w [.blk b8 e.cells 156]:=H
  refine gg 8 λa F=>zi (λJ=>?_) λJ=>?_
  ·
   have q:j<n:=O
   obtain⟨x,V⟩:=h.ini j q
   obtain rfl:e=⟨-1,⟨2,UInt8.ofNat j,x,0,0,0⟩⟩:=Ac (z.symm.trans V)
   refine gg 8 λa F=>?_
   refine sBd (cs:=(EvT.mk (-1) ⟨2,UInt8.ofNat j,x,0,0,0⟩).cells) (places:=[(0,1),(1,1),(2,1),(3,1),(4,1),(5,1),(6,1)]) zeroValue156 underlying156 Y F Z Z Z Y (Ei Z Z Z Z (bNeEw Z) λa F=>?_)
   refine gg 1 λa F=>?_
   refine cIf F Z (λy=>?_) (λy=>?_)
   ·
    cases y
   refine gg 6 λa F=>?_
   (refine⟨_,O,_,⟨j+1,Z,Z,O,H.tail⟩,F.to ?_⟩
    rw[Xex (show j+1<=n by omega)];rw[Xex (show j<=n by omega)]
    repeat(first|exact trivial|refine Le.cons rfl ?_))
  have q:n<=j:=O
  obtain⟨U,X,S,g⟩:=h.thr j e q z
  have c:=h.knd j e q z
  have o:=Xc2 q z
  have N:(tkE E n j).2<=256:=tk_le
  refine gg 9 λa F=>?_
  refine zSp 30 F (λQ F=>?_) λQ F=>?_
  ·
   omega
  refine gg 6 λa F=>zi (λI=>?_) λI=>?_
  ·
   omega
  refine gg 10 λa F=>zi (λK=>?_) λK=>?_
  ·
   have d:(tkE E n j).1<e.thr:=O
   refine gg 16 λa F=>zi (λs=>?_) λs=>?_
   ·
    (rw[if_pos d]at g);omega
   refine gg 4 λa F=>?_
   refine Xh F Z Z (JN ?_) ?_
   focus omega
   clear F a;intro a F
   refine gg 15 λa F=>zi (λb=>?_) λb=>?_
   ·
    refine gg 2 λa F=>zi (λb=>?_) λb=>?_
    ·
     refine gg 9 λa F=>zi (λi=>?_) λi=>?_
     ·
      rcases c with⟨_,p⟩|⟨hk,_⟩;omega;rw[hk]at b;exact absurd b (by decide)
     refine gg 5 λa F=>?_
     (refine⟨_,O,_,⟨j+1,Z,Z,O,H.tail⟩,F.to ?_⟩
      rw[o,g,if_pos d]
      repeat(first|exact trivial|refine Le.cons rfl ?_))
    contradiction
   refine gg 5 λa F=>zi (λb=>?_) λb=>?_
   ·
    refine gg 9 λa F=>zi (λi=>?_) λi=>?_
    ·
     rcases c with⟨_,p⟩|⟨hk,_⟩;omega;rw[hk]at b;exact absurd b (by decide)
    refine gg 5 λa F=>?_
    (refine⟨_,O,_,⟨j+1,Z,Z,O,H.tail⟩,F.to ?_⟩
     rw[o,g,if_pos d]
     repeat(first|exact trivial|refine Le.cons rfl ?_))
   refine gg 6 λa F=>zi (λu=>?_) λu=>?_
   ·
    refine gg 6 λa F=>?_
    refine zSp 63 F (λG F=>?_) λG F=>?_
    ·
     rcases c with⟨hk|hk,p⟩|⟨hk,p,_⟩<;>contradiction
    refine gg 6 λa F=>zi (λt=>?_) λt=>?_
    ·
     rcases c with⟨hk|hk,p⟩|⟨hk,p,W⟩<;>contradiction
    refine gg 5 λa F=>?_
    (refine⟨_,O,_,⟨j+1,Z,Z,O,H.tail⟩,F.to ?_⟩
     rw[o,g,if_pos d]
     repeat(first|exact trivial|refine Le.cons rfl ?_))
   rcases c with⟨hk|hk,p⟩|⟨hk,_⟩<;>contradiction
  have d:¬(tkE E n j).1<e.thr:=O
  refine gg 11 λa F=>zi (λs=>?_) λs=>?_
  ·
   (rw[if_neg d]at g);omega
  refine gg 4 λa F=>?_
  refine Xh F Z Z (JN ?_) ?_
  focus omega
  clear F a;intro a F
  refine gg 15 λa F=>zi (λb=>?_) λb=>?_
  ·
   refine gg 2 λa F=>zi (λb=>?_) λb=>?_
   ·
    refine gg 9 λa F=>zi (λi=>?_) λi=>?_
    ·
     rcases c with⟨_,p⟩|⟨hk,_⟩;omega;rw[hk]at b;exact absurd b (by decide)
    refine gg 5 λa F=>?_
    (refine⟨_,O,_,⟨j+1,Z,Z,O,H.tail⟩,F.to ?_⟩
     have r:(tkE E n j).1=e.thr:=O
     rw[o,g,if_neg d,<-r]
     repeat(first|exact trivial|refine Le.cons rfl ?_))
   contradiction
  refine gg 5 λa F=>zi (λb=>?_) λb=>?_
  ·
   refine gg 9 λa F=>zi (λi=>?_) λi=>?_
   ·
    rcases c with⟨_,p⟩|⟨hk,_⟩;omega;rw[hk]at b;exact absurd b (by decide)
   refine gg 5 λa F=>?_
   (refine⟨_,O,_,⟨j+1,Z,Z,O,H.tail⟩,F.to ?_⟩
    have r:(tkE E n j).1=e.thr:=O
    rw[o,g,if_neg d,<-r]
    repeat(first|exact trivial|refine Le.cons rfl ?_))
  refine gg 6 λa F=>zi (λu=>?_) λu=>?_
  ·
   refine gg 6 λa F=>?_
   refine zSp 63 F (λG F=>?_) λG F=>?_
   ·
    rcases c with⟨hk|hk,p⟩|⟨hk,p,_⟩<;>contradiction
   refine gg 6 λa F=>zi (λt=>?_) λt=>?_
   ·
    rcases c with⟨hk|hk,p⟩|⟨hk,p,W⟩<;>contradiction
   refine gg 5 λa F=>?_
   (refine⟨_,O,_,⟨j+1,Z,Z,O,H.tail⟩,F.to ?_⟩
    have r:(tkE E n j).1=e.thr:=O
    rw[o,g,if_neg d,<-r]
    repeat(first|exact trivial|refine Le.cons rfl ?_))
  rcases c with⟨hk|hk,p⟩|⟨hk,_⟩<;>contradiction
 refine gg 7 λa F=>?_
 exact⟨Z,H.below⟩
structure MixOk (p:Prg) (dom:List UInt8) (ps:List PathP):Prop where
 len:ps.length=p.threads.length
 run:∀(j:Nat)(q:PathP),ps[j]?=some q->∃l z,p.threads[j]?=some l/\PathD l dom zRun z/\EndG p.init.length l z/\q=Ul z
theorem Xjg(A:Valid p){b:List UInt8}{ps:List PathP}(h:ps∈JT p b):MixOk p (Um b) ps:=by
 obtain⟨d,hd,rfl⟩:=AT.1 h
 obtain⟨e,w⟩:=mem_odo.1 hd
 rw[AH]at e
 have n:(NC p b).length=p.threads.length:=by unfold NC;rw[AH]
 refine⟨by rw[Nu e,e,n],λj q o=>?_⟩
 have y:j<d.length:=by have:=(AB.1 o).1;rw[Nu e]at this;exact this
 obtain⟨l,m⟩:∃l,p.threads[j]?=some l:=⟨_,AA O⟩
 have r:(NC p b)[j]?=some (UI l b 4096).1:=by unfold NC;rw[AD,m];rfl
 obtain⟨i,s⟩:∃i,d[j]?=some i:=⟨_,AA y⟩
 have g:=w j i (UI l b 4096).1.length s (by rw[AD,r];rfl)
 obtain⟨u,c⟩:∃u,(UI l b 4096).1[i]?=some u:=⟨_,AA g⟩
 rw[D5 r s c]at o
 cases o
 obtain⟨v,z,t,rfl⟩:=XeV (AF c)
 exact⟨l,z,m,t,Xay A m v t,Z⟩
section
variable{v:List UInt8}{ps:List PathP}
theorem Xpw(h:i<=j):UE v ps i <+: UE v ps j:=by
 induction h with
 |refl=>exact ID _
 |step _ b=>exact b.trans (by rw[UE];exact IF _ _)
theorem Xcc{k J:Nat}{q:PathP}{x:Ev}(c:ps[j]?=some q)(i:q.evs[k]?=some x)(e:j<J):(UE v ps J)[V1 v ps j+k]?=some ⟨(j:Int),x⟩:=by
 obtain⟨t,g⟩:=Xpw (v:=v) (ps:=ps) e
 have d:(thE j q)[k]?=some ⟨(j:Int),x⟩:=by unfold thE;rw[AD,i];rfl
 have b:(UE v ps (j+1))[V1 v ps j+k]?=some ⟨(j:Int),x⟩:=by
  rw[DR c]
  unfold V1
  rw[AQ (Ia _ _),Fq];exact d
 rw[<-g,AP (AB.1 b).1];exact b
theorem LL:∀(J i:Nat)(e:EvT),v.length<=i->(UE v ps J)[i]?=some e->∃(j:Nat)(q:PathP)(k:Nat)(x:Ev),j<J/\ps[j]?=some q/\i=V1 v ps j+k/\q.evs[k]?=some x/\e=⟨(j:Int),x⟩
 |0,i,e,d,b=>by
  have:=(AB.1 b).1
  rw[show UE v ps 0=JC v from Z,MN]at this;omega
 |J+1,i,e,d,b=>by
  rcases AN i (UE v ps J).length with h|h
  ·rw[UE,AP h]at b
   obtain⟨j,q,k,x,n,g⟩:=LL J i e d b
   exact⟨j,q,k,x,O,g⟩
  ·rw[UE,AQ h]at b
   cases c:ps[J]? with
   |none=>rw[c]at b;simp at b
   |some q=>
    rw[c]at b
    have b:(thE J q)[i-(UE v ps J).length]?=some e:=b
    unfold thE at b
    rw[AD]at b
    obtain⟨x,m,rfl⟩:=FN.1 b
    exact⟨J,q,i-(UE v ps J).length,x,Fc _,c,by unfold V1;omega,m,Z⟩
end
section
variable{p:Prg}{dom:List UInt8}{ps:List PathP}
theorem MixOk.path{q:PathP}(h:MixOk p dom ps)(g:ps[j]?=some q):q.evs.length<=24/\(∀(k:Nat)(x:Ev),q.evs[k]?=some x->x.pos.toNat=k)/\∀e∈q.evs,EvG p.init.length e:=by
 obtain⟨l,z,_,_,b,rfl⟩:=h.run j q g
 have d:=b.many
 refine⟨by show(GL z).length<=24;rw[UA];exact d,λk x i=>?_,b.evs⟩
 obtain⟨c,rfl⟩:=Cf i
 rw[b.invH.pos k c]
 exact ofN O
theorem Xj1(r:Valid p)(h:MixOk p dom ps)(h48:V1 p.init ps ps.length<=48):EvsOk p.init.length (UE p.init ps ps.length) where
 n1:=by rw[r.init];exact r.locs1
 n6:=by rw[r.init];exact r.locs6
 len:=by
  have:=(MT (v:=p.init) (ps:=ps) ps.length).length_le
  rwa [MN]at this
 l48:=h48
 ini:=λi hi=>⟨p.init[i],GM (AA hi)⟩
 thr:=λi e hi t=>by
  obtain⟨j,q,k,x,z,g,D,s,rfl⟩:=LL _ i e hi t
  have C:j<4:=by have:=h.len;have:=r.thr4;omega
  have b:=(h.path g).2.1 k x s
  have c:(0:Int)<=(j:Int):=O
  cases k with
  |succ k=>
   obtain⟨y,A⟩:∃y,q.evs[k]?=some y:=⟨_,AA (by have:=(AB.1 s).1;omega)⟩
   have hp:=Xcc (v:=p.init) g A z
   have L:p.init.length<=V1 p.init ps j:=by rw[<-sizeK_zero (v:=p.init) (ps:=ps)];exact Qv (AU _)
   have m:=Xc2 (n:=p.init.length) O hp
   rw[show V1 p.init ps j+k+1=i by omega]at m;rw[m]
   refine⟨I4 _,c,by show(j:Int)<4;omega,?_⟩
   rw[if_neg (Int.lt_irrefl _)]
   show x.pos.toNat=y.pos.toNat+1
   rw[b,(h.path g).2.1 k y A]
  |zero=>
   rcases AN p.init.length i with hn|hn
   ·obtain⟨w,o⟩:∃w,(UE p.init ps ps.length)[i-1]?=some w:=⟨_,AA (by have:=(AB.1 t).1;omega)⟩
    obtain⟨u,M,I,G,K,E,N,J,rfl⟩:=LL _ (i-1) w O o
    have B:u<j:=by
     rcases AN u j with h9|h9
     ·exact h9
     ·have:=Qv (v:=p.init) (ps:=ps) h9;omega
    have m:=Xc2 (n:=p.init.length) O o
    rw[show i-1+1=i by omega]at m;rw[m]
    have d:(u:Int)<(j:Int):=O
    refine⟨Int.le_of_lt d,c,by show(j:Int)<4;omega,?_⟩
    rw[if_pos d];exact b
   ·rw[Xex hn]
    refine⟨c,c,by show(j:Int)<4;omega,?_⟩
    show x.pos.toNat=if(0:Int)<(j:Int)then 0 else 0
    rw[b];split<;>rfl
 knd:=λi e hi t=>by
  obtain⟨j,q,k,x,z,g,D,s,rfl⟩:=LL _ i e hi t
  exact(h.path g).2.2 x (AF s)
end
def wrK(E:List EvT)(x:Nat):Bool:=match E[x]? with|some f=>f.ev.kind==2|none=>false
theorem Xnf{f:EvT}(h:E[x]?=some f):wrK E x=(f.ev.kind==2):=by unfold wrK;rw[h]
theorem Xn4(h:n<64):bit n≠0:=λe=>by
 have b:=Gx (i:=n) h
 rw[e,V8]at b;simp at b
theorem Xpn(h:n<64):JM (bit n)=n:=by
 have b:=N7 (Xn4 h)
 rw[Gx h]at b
 exact(of_decide_eq_true b).symm
theorem Xn3{s:UInt64}(h:n<64)(b:has s n=true)(c:∀i,has s i=true->i=n):s=bit n:=Q8 λi _=>by
 rw[Gx h]
 cases e:has s i with
 |true=>exact(decide_eq_true (c i e).symm).symm
 |false=>exact(decide_eq_false λd=>by rw[d]at b;rw[b]at e;cases e).symm
structure RfOk (E:List EvT) (rf:Rl):Prop where
 ok:OkR rf
 read:∀i e,E[i]?=some e->e.ev.kind=1->∃w f,E[w]?=some f/\f.ev.kind=2/\f.ev.loc=e.ev.loc/\f.ev.val=e.ev.val/\∀x,rf.has x i=decide (x=w)
 none:∀i e,E[i]?=some e->¬e.ev.kind=1->∀x,rf.has x i=false
structure DepOk (E:List EvT) (po da ct rm:Rl):Prop where
 data:∀i x,da.has i x=true->wrK E x=true/\po.has i x=true/\∃e,E[i]?=some e/\e.ev.kind=1
 ctrl:∀i x,ct.has i x=true->po.has i x=true/\∃e,E[i]?=some e/\e.ev.kind=1
 rmw:∀i x,rm.has i x=true->wrK E x=true/\po.has i x=true/\∃e f,E[i]?=some e/\e.ev.kind=1/\E[x]?=some f/\f.ev.loc=e.ev.loc
 one:∀i x y,rm.has i x=true->rm.has i y=true->x=y
 own:∀i j x,rm.has i x=true->rm.has j x=true->i=j
theorem Xdl(b o:Nat)(x:XcP)(w0:World)(P:ExAt w0 b o x)(G:x.v.evs.length<=48)(h:RfOk x.v.evs x.v.rf)(hT:Tab6At w0):
 Calls prog 69 #[Vc b o] w0 λe w'=>e=.returned (.bool true)/\Below w0.heap.size w0 w':=by
 have H:=Own.start w0 none
 obtain⟨E,D⟩:∃E,x.v.evs=E:=⟨_,Z⟩
 have s:=P.c0
 have d:=P.evs
 rw[D]at s d G h;refine VU func69 Z ntmps69 Z (λa F=>?_)
 refine gg 9 λa F=>?_
 refine sLr underlying58 Z ?si F Z Z Z (H.argR P.rf) ?_
 case si=>rw[Rl.len];exact VT sizeOf58
 clear F a;intro a F;refine Xi call122 F Z (M9 _ _ h.ok (hT.own H)) ?_;rintro e w ⟨q,J,rfl,X⟩;replace H:=H.grow X;clear X
 refine zq λa F=>?_
 refine zAl zeroValue58 H F λB a w F H=>?_
 refine sSr H 0 ?si F Z Z Z ?s1 Z Z ?_
 case si=>rw[Rl.len];exact VT sizeOf58
 case s1=>exact Gr _
 clear H;intro w H
 refine gg 1 λa F=>?_
 replace H:Own w0 none w [.blk B (VZ (zR 0).cells 0 q.cells) 58]:=H
 rw[Us (Rl.len _)]at H
 refine gg 11 λa F=>?_
 refine cLoopS [0,3,18,19] (λm t w=>∃j:Nat,m=E.length-j/\t=[(20,Ve ((j:Nat):Int))]/\j<=E.length/\Own w0 none w [.blk B q.cells 58]) F (E.length) [(20,Ve ((0:Nat):Int))] ?_ ?_
 ·exact⟨0,Z,Z,AU _,H⟩
 clear F H;intro m t a w hI F
 obtain⟨j,rfl,rfl,hj,H⟩:=hI
 refine gg 6 λa F=>zi (λM=>?_) λM=>?_
 ·
  have K:j<E.length:=O
  obtain⟨e,T⟩:∃e,E[j]?=some e:=⟨_,AA K⟩
  obtain⟨bE,oE,g,hE⟩:=d j e.cells (by rw[AD,T];rfl)
  rw[g]at F
  refine gg 8 λa F=>?_
  refine zAl zeroValue156 H F λW a w F H=>?_
  refine gg 1 λa F=>?_
  refine sSr H 0 ?si F Z Z Z ?s1 Z Z ?_
  case si=>exact VT sizeOf156
  case s1=>rfl
  clear H;intro w H
  refine gg 1 λa F=>?_
  replace H:Own w0 none w [.blk W e.cells 156,.blk B q.cells 58]:=H
  refine gg 5 λa F=>?_
  refine sLd isAgg55 F Z Z Z (H.cell 1 Z (Qw O)) λa F=>?_
  refine gg 10 λa F=>zi (λp=>?_) λp=>?_
  ·
   refine gg 4 λa F=>?_
   refine Xh F Z Z (Be (y:=0)) λa F=>?_
   refine gg 2 λa F=>zi (λz=>?_) λz=>?_
   ·
    exact absurd (GZ λi=>(J.has i j).trans (h.none j e T p i)) z
   refine gg 6 λa F=>?_
   rw[<-g]at F
   exact⟨_,O,_,⟨j+1,Z,Z,O,H.tail⟩,F.tt⟩
  obtain⟨u,f,hf,U,S,I,hu⟩:=h.read j e T p
  have a1:=(AB.1 hf).1
  have Q:q.to j=bit u:=Xn3 O (by rw[show has (q.to j) u=q.has j u from Z,J.has,hu];simp) (λi hi=>by
   rw[show has (q.to j) i=q.has j i from Z,J.has,hu]at hi;exact of_decide_eq_true hi)
  obtain⟨bF,oF,L,hF⟩:=d u f.cells (by rw[AD,hf];rfl)
  refine gg 4 λa F=>?_
  refine zCa F (Md.first_any _ _ (hT.own H)) H λa w F H=>?_
  refine gg 6 λa F=>?_
  have N:(bit u != 0)=true:=by simpa using Xn4 (n:=u) O
  rw[Q,Xpn (n:=u) O,N]at F
  refine gg 6 λa F=>?_
  refine zSp 41 F (λR F=>?_) λR F=>?_
  ·
   cases R
  refine gg 2 λa F=>?_
  refine Xh F Z Z (Xef ?_) ?_
  focus omega
  clear F a;intro a F;refine Xh F Z Z Be λa F=>?_
  refine gg 3 λa F=>zi (λA=>?_) λA=>?_
  ·
   exact absurd Z A
  refine gg 6 λa F=>?_
  refine zLd F (show _=some (Value.slice (some ⟨bF,oF,none⟩) E.length x.c)from L▸H.arg s) λa F=>?_
  refine gg 3 λa F=>?_
  refine zAl zeroValue156 H F λb9 a w F H=>?_
  refine sSr H 0 ?si F Z Z Z ?s1 Z Z ?_
  case si=>exact VT sizeOf156
  case s1=>rfl
  clear H;intro w H
  refine gg 1 λa F=>?_
  replace H:Own w0 none w [.blk b9 f.cells 156,.blk W e.cells 156,.blk B q.cells 58]:=H
  refine gg 6 λa F=>?_
  refine zSp 57 F (λC F=>?_) λC F=>?_
  ·
   exact absurd U C
  refine gg 7 λa F=>?_
  refine zSp 64 F (λV F=>?_) λV F=>?_
  ·
   exact absurd S V
  refine gg 8 λa F=>zi (λr=>?_) λr=>?_
  ·
   exact absurd I r
  refine gg 5 λa F=>?_
  rw[<-g]at F
  exact⟨_,O,_,⟨j+1,Z,Z,O,H.tail.tail⟩,F.tt⟩
 refine gg 7 λa F=>?_
 exact⟨Z,H.below⟩
theorem Xcm(b o:Nat)(x:XcP)(w0:World)(N:ExAt w0 b o x)(aB:x.v.evs.length<=48)(h:DepOk x.v.evs x.v.po x.v.da x.v.ct x.v.rm)(hT:Tab6At w0):
   Calls prog 71 #[Vc b o] w0 λe w'=>e=.returned (.bool true)/\Below w0.heap.size w0 w':=by
 have H:=Own.start w0 none
 obtain⟨E,a5⟩:∃E,x.v.evs=E:=⟨_,Z⟩
 have D:=N.c0
 have I:=N.evs
 rw[a5]at D I aB h;refine VU func71 Z ntmps71 Z (λa F=>?_)
 refine gg 15 λa F=>?_
 refine zLd F (H.arg D) λa F=>?_
 refine gg 4 λa F=>?_
 refine cLoopS [0,4,17,18] (λm t w=>∃(j:Nat)(s:UInt64),m=E.length-j/\t=[(3,d8 s),(19,Ve ((j:Nat):Int))]/\j<=E.length/\(∀i,has s i=(decide (i<j)&&wrK E i))/\Own w0 none w []) F (E.length) [(3,d8 0),(19,Ve ((0:Nat):Int))] ?_ ?_
 ·exact⟨0,0,Z,Z,AU _,λi=>by rw[V8];simp,H⟩
 clear F H;intro m t a w hI F
 obtain⟨j,s,rfl,rfl,hj,hs,H⟩:=hI
 refine gg 6 λa F=>zi (λa8=>?_) λa8=>?_
 ·
  have C:j<E.length:=O
  obtain⟨e,G⟩:∃e,E[j]?=some e:=⟨_,AA C⟩
  obtain⟨bE,oE,p,hE⟩:=I j e.cells (by rw[AD,G];rfl)
  rw[p]at F
  refine gg 7 λa F=>?_
  refine zLr F (H.argR hE) λa F=>?_
  refine zAl zeroValue156 H F λb6 a w F H=>?_
  refine gg 1 λa F=>?_
  refine sSr H 0 ?si F Z Z Z ?s1 Z Z ?_
  case si=>exact VT sizeOf156
  case s1=>rfl
  clear H;intro w H
  refine gg 1 λa F=>?_
  replace H:Own w0 none w [.blk b6 e.cells 156]:=H
  refine gg 7 λa F=>zi (λK=>?_) λK=>?_
  ·
   refine gg 3 λa F=>?_
   refine Xh F Z Z (Xef ?_) ?_
   focus omega
   clear F a;intro a F;refine Xh F Z Z (XcF) λa F=>?_
   refine gg 6 λa F=>?_
   rw[<-p]at F
   have n:∀i,decide (i<j+1)=(decide (i<j)||decide (i=j)):=λi=>by by_cases g:i=j<;>by_cases d:i<j<;>simp[g,d]<;>omega
   (refine⟨_,O,_,⟨j+1,s|||bit j,rfl,rfl,O,λi=>?_,H.tail⟩,F.tt⟩
    rw[GR,Gx O,hs,n]
    by_cases hi:j=i
    ·subst hi;rw[Xnf G,K];simp
    ·have:¬i=j:=λh=>hi h.symm
     simp[hi,this])
  refine gg 5 λa F=>?_
  rw[<-p]at F
  have n:∀i,decide (i<j+1)=(decide (i<j)||decide (i=j)):=λi=>by by_cases g:i=j<;>by_cases d:i<j<;>simp[g,d]<;>omega
  (refine⟨_,O,_,⟨j+1,s,Z,Z,O,λi=>?_,H.tail⟩,F.tt⟩
   rw[hs,n]
   by_cases hi:i=j
   ·subst hi;rw[Xnf G];simp[K]
   ·simp[hi])
 have C:j=E.length:=O
 refine gg 7 λa F=>?_
 refine zLd F (H.arg D) λa F=>?_
 refine gg 4 λa F=>?_
 refine cLoopS [0,3,35,36] (λm t w=>∃(j:Nat)(z:UInt64),m=E.length-j/\t=[(4,d8 z),(37,Ve ((j:Nat):Int))]/\j<=E.length/\(∀i,has z i=true↔∃k,k<j/\x.v.rm.has k i=true)/\Own w0 none w []) F (E.length) [(4,d8 0),(37,Ve ((0:Nat):Int))] ?_ ?_
 ·exact⟨0,0,Z,Z,AU _,λi=>by rw[V8];exact⟨λh=>(by cases h),λ⟨k,h,_⟩=>O⟩,H⟩
 clear F H;intro m t a w hI F
 obtain⟨j,z,rfl,rfl,aH,V,H⟩:=hI
 refine gg 6 λa F=>zi (λa4=>?_) λa4=>?_
 ·
  have C:j<E.length:=O
  obtain⟨e,G⟩:∃e,E[j]?=some e:=⟨_,AA C⟩
  obtain⟨bE,oE,p,hE⟩:=I j e.cells (by rw[AD,G];rfl)
  rw[p]at F
  have aF:w0.cell? ⟨b,o+148+1+j,none⟩=some (d8 (x.v.da.to j)):=by rw[FY _ 1];exact N.da _ _ (Qw O)
  have aC:w0.cell? ⟨b,o+197+1+j,none⟩=some (d8 (x.v.ct.to j)):=by rw[FY _ 1];exact N.ct _ _ (Qw O)
  have a3:w0.cell? ⟨b,o+246+1+j,none⟩=some (d8 (x.v.rm.to j)):=by rw[FY _ 1];exact N.rm _ _ (Qw O)
  have a9:w0.cell? ⟨b,o+1+1+j,none⟩=some (d8 (x.v.po.to j)):=by rw[FY _ 1];exact N.po _ _ (Qw O)
  refine gg 7 λa F=>?_
  refine zLr F (H.argR hE) λa F=>?_
  refine zAl zeroValue156 H F λb8 a w F H=>?_
  refine gg 1 λa F=>?_
  refine sSr H 0 ?si F Z Z Z ?s1 Z Z ?_
  case si=>exact VT sizeOf156
  case s1=>rfl
  clear H;intro w H
  refine gg 1 λa F=>?_
  replace H:Own w0 none w [.blk b8 e.cells 156]:=H
  refine gg 1 λa F=>?_
  refine zRO H λH=>?_
  refine gg 6 λa F=>?_
  refine Xe 6 Z F Z Z (λw H=>rLd isAgg55 F Z (H.arg aF)) H qq0 λa F=>?_
  refine gg 6 λa F=>?_
  refine Xe 13 Z F Z Z (λw H=>rLd isAgg55 F Z (H.arg aC)) H qq0 λa F=>?_
  refine gg 6 λa F=>?_
  refine Xe 20 Z F Z Z (λw H=>rLd isAgg55 F Z (H.arg a3)) H qq0 λa F=>?_
  refine gg 9 λa F=>?_
  refine Xh F Z Z (XcF) λa F=>?_
  refine gg 1 λa F=>?_
  refine Xh F Z Z (XcF) (Ei Z Z Z Z (XaS (y:=0)) λa F=>?_)
  refine gg 2 λa F=>zi (λJ=>?_) λJ=>?_
  ·
   refine gg 5 λa F=>?_
   rw[<-p]at F
   have n:∀i,(∃k,k<j+1/\x.v.rm.has k i=true)↔((∃k,k<j/\x.v.rm.has k i=true)\/x.v.rm.has j i=true):=λi=>
     ⟨λ⟨k,g,d⟩=>by
       by_cases r:k=j
       ·subst r;exact .inr d
       ·exact .inl ⟨k,O,d⟩,λh=>h.elim (λ⟨k,g,d⟩=>⟨k,O,d⟩) λh=>⟨j,O,h⟩⟩
   (have L:∀i,x.v.rm.has j i=false:=λi=>by
      have g:x.v.rm.to j=0:=by
        (refine GZ λi=>?_
         have d:=congrArg (λs=>has s i) J
         simp only[GR,V8,Bool.or_eq_false_iff]at d
         exact d.2)
      show has (x.v.rm.to j) i=false
      rw[g,V8]
    refine⟨_,O,_,⟨j+1,z,Z,Z,O,λi=>?_,H.tail⟩,F.tt⟩
    rw[n,V,L];simp)
  have hk:e.ev.kind=1:=by
    obtain⟨i,hi⟩:=LJ J
    rw[GR,GR,FM,FM]at hi
    rcases hi with(hi|hi)|hi
    ·obtain⟨_,_,X,g,d⟩:=h.data j i hi
     rw[G]at g;cases g;exact d
    ·obtain⟨_,X,g,d⟩:=h.ctrl j i hi
     rw[G]at g;cases g;exact d
    ·obtain⟨_,_,X,_,g,d,_⟩:=h.rmw j i hi
     rw[G]at g;cases g;exact d
  have T:∀i,wrK E i=true->has s i=true:=λi hi=>by
    rw[hs,hi,Bool.and_true,decide_eq_true_eq]
    unfold wrK at hi
    split at hi
    ·rename_i f W;have:=(AB.1 W).1;omega
    ·cases hi
  have aD:(x.v.da.to j|||x.v.rm.to j) &&& ~~~s=0:=GZ λi=>by
    rw[Dx,GR]
    cases g:has (x.v.da.to j) i with
    |true=>rw[T i (h.data j i g).1];simp
    |false=>
     cases d:has (x.v.rm.to j) i with
     |true=>rw[T i (h.rmw j i d).1];simp
     |false=>rfl
  have aA:(x.v.da.to j|||x.v.ct.to j|||x.v.rm.to j) &&& ~~~(x.v.po.to j)=0:=GZ λi=>by
    rw[Dx,GR,GR]
    cases g:has (x.v.da.to j) i with
    |true=>rw[show has (x.v.po.to j) i=true from(h.data j i g).2.1];simp
    |false=>
     cases d:has (x.v.rm.to j) i with
     |true=>rw[show has (x.v.po.to j) i=true from(h.rmw j i d).2.1];simp
     |false=>
      cases h3:has (x.v.ct.to j) i with
      |true=>rw[show has (x.v.po.to j) i=true from(h.ctrl j i h3).1];simp
      |false=>rfl
  refine gg 8 λa F=>?_
  refine zSp 72 F (λa7 F=>?_) λa7 F=>?_
  ·
   exact absurd hk a7
  refine gg 2 λa F=>?_
  refine Xh F Z Z (XcF) λa F=>?_
  refine gg 1 λa F=>?_
  refine Xh F Z Z (Xhc) (Ei Z Z Z Z (Be (y:=0)) λa F=>?_)
  refine gg 2 λa F=>?_
  refine zSp 80 F (λQ F=>?_) λQ F=>?_
  ·
   rw[aD]at Q;exact absurd Q (by decide)
  refine gg 2 λa F=>?_
  refine Xh F Z Z (XcF) λa F=>?_
  refine gg 1 λa F=>?_
  refine Xh F Z Z (XcF) λa F=>?_
  refine gg 6 λa F=>?_
  refine zLd F (H.arg a9) λa F=>?_
  refine Xh F Z Z (Xhc) (Ei Z Z Z Z (Be (y:=0)) λa F=>?_)
  refine gg 3 λa F=>zi (λM=>?_) λM=>?_
  ·
   rw[aA]at M;exact absurd M (by decide)
  refine gg 4 λa F=>?_
  refine zCa F (Md.first_any _ _ (hT.own H)) H λa w F H=>?_
  refine gg 10 λa F=>?_
  refine cIf F Z (λA=>?_) (λA=>?_)
  ·
   have a1:x.v.rm.to j≠0:=by simpa using A
   have S:=N7 a1
   obtain⟨u,hu⟩:∃u,JM (x.v.rm.to j)=u:=⟨_,Z⟩
   rw[hu]at S F
   obtain⟨_,_,X,f,a2,_,W,P⟩:=h.rmw j u S
   obtain rfl:e=X:=Ac (G.symm.trans a2)
   have aG:=(AB.1 W).1
   have U:x.v.rm.to j=bit u:=Xn3 O S (λi hi=>h.one j i _ hi S)
   obtain⟨bF,oF,aE,hF⟩:=I u f.cells (by rw[AD,W];rfl)
   refine gg 2 λa F=>?_
   refine zRO H λH=>?_
   refine gg 2 λa F=>?_
   refine Xf (k:=2) (i:=2) Z F Z (λw=>Gt F Z Z (Xef ?_)) H (λ_ _ _ h=>h) ?_
   focus omega
   clear F a;intro a F;refine Xb 3 Z F Z (λw=>Gt F Z Z Be) H qq0 λa F=>?_
   refine gg 1 λa F=>?_
   refine zSp 106 F (λR F=>?_) λR F=>?_
   ·
    exact absurd U R
   refine gg 2 λa F=>?_
   refine Xf (k:=7) (i:=7) Z F Z (λw=>Gt F Z Z (Xm6 ?_)) H (λ_ _ _ h=>h) ?_
   focus omega
   clear F a;intro a F;refine Xb 8 Z F Z (λw=>Gt F Z Z (NI (y:=1))) H qq0 (Xg 9 Z Z (λa F w=>Gt F Z Z (XaS (y:=1))) H qq0 λa F=>?_)
   refine gg 2 λa F=>?_
   refine zSp 113 F (λq F=>?_) λq F=>?_
   ·
    have q:(shr z u&&&1==1)=true:=beq_iff_eq.2 q
    rw[has_shr]at q
    obtain⟨k,r,a6⟩:=(V u).1 q
    have:=h.own k j u a6 S
    omega
   refine gg 3 λa F=>?_
   refine Xe 15 Z F Z Z (λw H=>rLd isAgg53 F Z (show _=some (Value.slice (some ⟨bF,oF,none⟩) E.length x.c)from aE▸H.arg D)) H qq0 λa F=>?_
   refine gg 3 λa F=>?_
   refine Xe 19 Z F Z Z (λw H=>rLd isAgg5 F Z (H.arg (hF 2 _ Z))) H qq0 λa F=>?_
   refine gg 6 λa F=>zi (λB=>?_) λB=>?_
   ·
    rw[P]at B;exact absurd B (by simp)
   refine gg 4 λa F=>?_
   refine Xh F Z Z (XcF) λa F=>?_
   refine gg 6 λa F=>?_
   rw[<-p]at F
   have n:∀i,(∃k,k<j+1/\x.v.rm.has k i=true)↔((∃k,k<j/\x.v.rm.has k i=true)\/x.v.rm.has j i=true):=λi=>
     ⟨λ⟨k,g,d⟩=>by
       by_cases r:k=j
       ·subst r;exact .inr d
       ·exact .inl ⟨k,O,d⟩,λh=>h.elim (λ⟨k,g,d⟩=>⟨k,O,d⟩) λh=>⟨j,O,h⟩⟩
   (have h9:=U
    refine⟨_,O,_,⟨j+1,z|||x.v.rm.to j,rfl,rfl,O,λi=>?_,H.tail⟩,F.tt⟩
    rw[GR,FM,n,V];rfl)
  refine gg 5 λa F=>?_
  rw[<-p]at F
  have n:∀i,(∃k,k<j+1/\x.v.rm.has k i=true)↔((∃k,k<j/\x.v.rm.has k i=true)\/x.v.rm.has j i=true):=λi=>
    ⟨λ⟨k,g,d⟩=>by
      by_cases r:k=j
      ·subst r;exact .inr d
      ·exact .inl ⟨k,O,d⟩,λh=>h.elim (λ⟨k,g,d⟩=>⟨k,O,d⟩) λh=>⟨j,O,h⟩⟩
  (have L:∀i,x.v.rm.has j i=false:=λi=>by
     have g:x.v.rm.to j=0:=by
       (simpa using A)
     show has (x.v.rm.to j) i=false
     rw[g,V8]
   refine⟨_,O,_,⟨j+1,z,Z,Z,O,λi=>?_,H.tail⟩,F.tt⟩
   rw[n,V,L];simp)
 refine gg 7 λa F=>?_
 exact⟨Z,H.below⟩
theorem XiI{r:Rl}{a:Nat}{s:UInt64}:(r.put a s).has x i=if x=a then has s i else r.has x i:=by
 unfold Rl.has Rl.put
 show has (if x=a then s else r.to x) i=_
 split<;>rfl
section
variable{E:List EvT}{d:List Nat}
theorem Xlr:∀J,(rfJ E d J).n=E.length
 |0=>rfl
 |J+1=>Xlr J
theorem E8(o:E.length<=48){x i:Nat}:∀J,J<=(rdL E).length->((rfJ E d J).has x i=true↔∃j,j<J/\Xbh E d j=x/\(rdL E)[j]?=some i)
 |0,_=>by
  show has 0 i=true↔_
  rw[V8]
  exact⟨λh=>(by cases h),λ⟨j,h,_⟩=>absurd h (Fx _)⟩
 |J+1,r=>by
  have q:=E8 o (x:=x) (i:=i) J O
  obtain⟨y,m⟩:∃y,(rdL E)[J]?=some y:=⟨_,AA O⟩
  have p:y<48:=by have:=(mem_pl.1 (AF m)).1;omega
  have n:(rdL E).getD J 0=y:=by rw[AS,m];rfl
  rw[rfJ,XiI,n]
  by_cases g:x=Xbh E d J
  ·rw[if_pos g,GR,Gx O,FM,decide_eq_true_eq]
   have e:has ((rfJ E d J).to (Xbh E d J)) i=(rfJ E d J).has x i:=by rw[g];rfl
   rw[e,q]
   constructor
   ·rintro(⟨j,h1,b⟩|h1)
    ·exact⟨j,O,b⟩
    ·exact⟨J,Fc _,g.symm,by rw[m,h1]⟩
   ·rintro⟨j,h1,b,c⟩
    rcases AN j J with h|h
    ·exact .inl ⟨j,h,b,c⟩
    ·obtain rfl:j=J:=O
     rw[m]at c
     exact .inr (Ac c)
  ·rw[if_neg g,q]
   constructor
   ·rintro⟨j,h1,b⟩
    exact⟨j,O,b⟩
   ·rintro⟨j,h1,b,c⟩
    refine⟨j,?_,b,c⟩
    rcases AN j J with h|h
    ·exact h
    ·obtain rfl:j=J:=O
     exact absurd b.symm g
theorem pl_inc{f:EvT->Bool}:(plL E f j).Pairwise (· < ·):=List.Pairwise.filter _ List.pairwise_lt_range
theorem XoT{f:EvT->Bool}{m:Nat}(g:(plL E f m)[i]?=some x)(e:(plL E f m)[j]?=some x):i=j:=by
 obtain⟨d,o⟩:=AB.1 g
 obtain⟨c,n⟩:=AB.1 e
 have b:=Ao.1 (pl_inc (E:=E) (f:=f) (j:=m))
 rcases F5 i j with h|h|h
 ·have:=b i j d c h;omega
 ·exact h
 ·have:=b j i c d h;omega
def Xsi(E:List EvT)(d:List Nat):Prop:=∀j i,(rdL E)[j]?=some i->Xbh E d j∈QQ E i
theorem XqE(h:d∈JA (szL E n)):Xsi E d:=λj i m=>by
 obtain⟨p,o⟩:=mem_odo.1 h
 have q:=(AB.1 m).1
 have e:(Gv E)[j]?=some (QQ E i):=by unfold Gv;rw[AD,m];rfl
 have c:(szL E n)[j]?=some (QQ E i).length:=by
  unfold szL
  rw[AP (by rw[AH];exact(AB.1 e).1),AD,e];rfl
 obtain⟨k,g⟩:∃k,d[j]?=some k:=⟨_,AA (by rw[p];exact(AB.1 c).1)⟩
 have b:=o j k _ g c
 unfold Xbh
 rw[AS (l:=Gv E),e,AS (l:=d),g]
 show(QQ E i).getD k 0∈QQ E i
 rw[AS,AA b]
 exact Ff b
theorem Xh0{w:Nat}{e:EvT}(g:E[i]?=some e)(h:w∈QQ E i):∃f,E[w]?=some f/\f.ev.kind=2/\f.ev.loc=e.ev.loc/\f.ev.val=e.ev.val:=by
 rw[Xh3 g]at h
 unfold srcE at h
 obtain⟨j,c⟩:=Az.1 h
 obtain⟨_,f,d,b⟩:=mem_pl.1 j
 unfold wrF at b
 unfold Lg at c
 rw[d]at c;rw[AJ,beq_iff_eq,beq_iff_eq]at b
 exact⟨f,d,b.1,HC.1 b.2,beq_iff_eq.1 c⟩
theorem Xq4(h48:E.length<=48)(h:Xsi E d):RfOk E (rfJ E d (rdL E).length) where
 ok:=by
  refine⟨by rw[Xlr];exact h48,λx i hx=>?_⟩
  obtain⟨j,t,o,c⟩:=(E8 h48 _ (AI _)).1 hx
  have hm:=mem_pl.1 (AF c)
  obtain⟨e,b⟩:∃e,E[i]?=some e:=⟨_,AA hm.1⟩
  obtain⟨f,r,_⟩:=Xh0 b (h j i c)
  rw[o]at r;rw[Xlr]
  exact⟨(AB.1 r).1,hm.1⟩
 read:=λi e b p=>by
  have hi:i∈rdL E:=mem_pl.2 ⟨(AB.1 b).1,e,b,by unfold rdF;rw[p];rfl⟩
  obtain⟨j,m⟩:=Af.1 hi
  obtain⟨f,t,o,c,n⟩:=Xh0 b (h j i m)
  refine⟨Xbh E d j,f,t,o,c,n,λx=>?_⟩
  have hx:=E8 h48 (d:=d) (x:=x) (i:=i) _ (AI _)
  by_cases g:x=Xbh E d j
  ·rw[decide_eq_true g,hx]
   exact⟨j,(AB.1 m).1,g.symm,m⟩
  ·rw[decide_eq_false g,If]
   intro q
   obtain⟨w,_,s,v⟩:=hx.1 q
   rw[XoT v m]at s
   exact g s.symm
 none:=λi e b p x=>by
  rw[If]
  intro q
  obtain⟨j,_,_,c⟩:=(E8 h48 _ (AI _)).1 q
  obtain⟨_,y,n,u⟩:=mem_pl.1 (AF c)
  rw[b]at n
  cases n
  exact p (beq_iff_eq.1 u)
end
end Go.Proofs.YtajfpcgbnflceaaGreatDoor
