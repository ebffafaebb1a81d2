/- WALK2. Package cand: choices (the walk). Conditions: as in the text before. -/
import Derived.Test.YtajfpcgbnflceaaGreatDoorJn9
set_option linter.unusedSimpArgs false
set_option linter.unusedVariables false
namespace Go.Proofs.YtajfpcgbnflceaaGreatDoor
open Go.Proofs.Tryz
open Go.RowKit
set_option maxRecDepth 100000
set_option maxHeartbeats 4000000
variable{n:Nat}{v:List UInt8}{w:World}
def Xp3(b:Nat)(x:Xc)(c:List EvT)(n:Nat)(w0:World)(e:Ending)(q:World):Prop:=e=.returned (.tuple #[])/\∃(i d:List Ln)(m o:Option Addr)(p j g:Nat),i.map Ln.l=(List.range n).map (wrL c)/\d.map Ln.l=(rdL c).map (QQ c) /\
 Own w0 (some b) q (.blk b (Mx.mk x (.slice m (rdL c).length p) (.slice o d.length j) (.slice (some ⟨g,0,none⟩) n n)).cells 99::([.rws 3 1 (.slice m (rdL c).length p) (Uo (rdL c)),.rws 70 1 (.slice o d.length j) (d.map Ln.hd),.blk g (i.map hdV) 70]++(i.map Ln.part++(d.map Ln.part++[]))))
theorem Xct(b:Nat)(x:Xc)(A:Option Addr)(C n:Nat)(d:List EvT)(w0:World)(hx:x.ev=.slice A d.length C)(hB:Blk w0 b (Mx.mk x (.slice none 0 0) (.slice none 0 0) (.slice none 0 0)).cells 99)(hA:JK w0 b A 7 (d.map EvT.cells))(hn:n<=6)(aW:d.length<=48)(a3:∀e∈d,e.ev.kind=1\/e.ev.kind=2->e.ev.loc.toNat<n):
 Calls prog 117 #[Vc b 0,Ve (n:Int)] w0 (Xp3 b x d n w0):=by
 have H:=Own.startR hB
 have a7:∀(w:World)(ts:List Res)(j:Nat)(e:EvT),Own w0 (some b) w ts->d[j]?=some e->∃bE oE,A=some ⟨bE,oE,none⟩/\w.rangeAt bE (oE+j*7) e.cells:=λw ts j e H Q=>by
  obtain⟨c,o,h1,_,h2⟩:=(H.notR hA) j e.cells (by rw[AD,Q];rfl)
  exact⟨c,o,h1,h2⟩
 refine VU func117 Z ntmps117 Z (λa F=>?_)
 refine gg 4 λa F=>?_
 refine sMk (z:=.slice none 0 0) (bytes:=24) H underlying97 Y Z F Z Z Z Z O O λg a w F H=>?_
 refine gg 2 λa F=>?_
 refine sSt H 1 sizeOf97 F Z Z Z Z Z (Dn 2) λw H=>?_
 refine gg 1 λa F=>?_
 have e0:∀n,List.replicate n (Value.slice none 0 0)=(List.replicate n (⟨none,0,[]⟩:Ln)).map hdV:=λn=>by rw[List.map_replicate];rfl
 replace H:Own w0 (some b) w [.blk g (List.replicate n (Value.slice none 0 0)) 70,.blk b ((Mx.mk x (.slice none 0 0) (.slice none 0 0) (.slice none 0 0)).cells.set (333+2) (Vd g 0 n n)) 99]:=H
 rw[Xi7,e0]at H
 obtain⟨N,a2⟩:∃N:List Ln,N=List.replicate n (⟨none,0,[]⟩:Ln):=⟨_,Z⟩
 replace H:=XeZ H n
 rw[<-a2]at H
 have aO:N.map Ln.l=(List.range n).map λl=>plL d (wrF l) 0:=by
  rw[a2,List.map_replicate];refine(Ar λi=>?_);rw[Fp,AD]
  by_cases h:i<n
  ·rw[if_pos h,Av h];rfl
  ·rw[if_neg h,AV (by simpa using h)];rfl
 replace H:Own w0 (some b) w ([.blk g (N.map hdV) 70,.blk b (Mx.mk x (.slice none 0 0) (.slice none 0 0) (Vd g 0 n n)).cells 99]++(N.map Ln.part++[])):=H
 refine gg 7 λa F=>?_
 refine zLd F (show _=some (Value.slice A d.length C)from hx▸H.cell 1 Z Xo3) λa F=>?_
 refine gg 4 λa F=>?_
 refine cLoopS [0,20,21] (λm D w=>∃(j:Nat)(s:List Ln),m=d.length-j/\D=[(22,Ve ((j:Nat):Int))]/\j<=d.length/\(s.map Ln.l=(List.range n).map λl=>plL d (wrF l) j)/\Own w0 (some b) w ([.blk g (s.map hdV) 70,.blk b (Mx.mk x (.slice none 0 0) (.slice none 0 0) (Vd g 0 n n)).cells 99]++(s.map Ln.part++[]))) F (d.length) [(22,Ve ((0:Nat):Int))] ?_ ?_
 ·exact⟨0,N,Z,Z,O,aO,H⟩
 clear F H;intro m D a w hI F
 obtain⟨j,s,rfl,rfl,hj,E,H⟩:=hI
 refine gg 6 λa F=>zi (λaQ=>?_) λaQ=>?_
 ·
  have a4:j<d.length:=O
  obtain⟨e,Q⟩:∃e,d[j]?=some e:=⟨_,AA a4⟩
  obtain⟨bE,oE,rfl,hR⟩:=a7 _ _ j e H Q
  refine gg 7 λa F=>?_
  refine sLr Yf Z ?si F Z Z Z hR ?_
  case si=>exact VT XG
  clear F a;intro a F
  refine zAl XO H F λb5 a w F H=>?_
  refine gg 1 λa F=>?_
  refine sSr H 0 ?si F Z Z Z ?s1 Z Z ?_
  case si=>exact VT XG
  case s1=>rfl
  clear H;intro w H
  refine gg 1 λa F=>?_
  replace H:Own w0 (some b) w ([.blk b5 e.cells 156,.blk g (s.map hdV) 70,.blk b (Mx.mk x (.slice none 0 0) (.slice none 0 0) (Vd g 0 n n)).cells 99]++(s.map Ln.part++[])):=H
  refine gg 7 λa F=>zi (λa1=>?_) λa1=>?_
  ·
   have a5:e.ev.loc.toNat<n:=a3 e (AF Q) (.inr a1)
   have aS:s.length=n:=by have:=congrArg List.length E;simpa using this
   obtain⟨⟨xA,xc,p⟩,U⟩:∃x,s[e.ev.loc.toNat]?=some x:=⟨_,AA O⟩
   have X:p.length<=j:=by
    have h0:(s.map Ln.l)[e.ev.loc.toNat]?=((List.range n).map λl=>plL d (wrF l) j)[e.ev.loc.toNat]?:=by rw[E]
    rw[AD,AD,U,Av a5]at h0
    have h1:p=plL d (wrF e.ev.loc.toNat) j:=Ac h0
    rw[h1];exact GH
   have HX:=Own.pull (hd:=[_,_,_]) (part:=Ln.part) (xs:=s.take e.ev.loc.toNat) (x:=⟨xA,xc,p⟩) (ys:=s.drop (e.ev.loc.toNat+1)) (qs:=[]) (by rw[<-Xl3 U];exact H)
   clear H
   have H:Own w0 (some b) w (.rws 3 1 (.slice xA p.length xc) (Uo p)::([.blk b5 e.cells 156,.blk g (s.map hdV) 70,.blk b (Mx.mk x (.slice none 0 0) (.slice none 0 0) (Vd g 0 n n)).cells 99]++((s.take e.ev.loc.toNat++s.drop (e.ev.loc.toNat+1)).map Ln.part++[]))):=HX
   clear HX
   refine cRegRO Y H.tail ?_;replace H:=H.drew
   refine gg 3 λa F=>?_
   refine Xe 3 Z F Z Z (λw H=>rLd isAgg97 F Z (H.cell 2 Z (Dn 2))) H.tail qq0 λa F=>?_
   refine gg 5 λa F=>?_
   refine Xe 9 Z F Z Z (λw H=>rLd isAgg97 F Z (H.cell 2 Z (Dn 2))) H.tail qq0 λa F=>?_
   refine gg 3 λa F=>?_
   refine Xe 13 Z F Z Z (λw H=>rLd isAgg70 F Z (H.cell 1 Z (XjI U))) H.tail qq0 λa F=>?_
   refine gg 1 λa F=>?_
   refine Xd (k:=15) (i:=15) Z F (oBs1 H Xz XM X4 Z F Z Z Z λaM a w F H=>?_);refine V6 H.tail.tail ?_
   refine Xd (k:=16) (i:=16) Z F (XlO (bytes:=8) H 1 Xz Yd Z Z Z Z Z Z F Z Z Z Z (H.whole 0 Z) Z ?s1 ?s2 ?_)
   case s1=>rfl
   case s2=>(rw[Uz];omega)
   clear F a H;intro G J a w F H;refine V6 H.tail.tail ?_
   refine gg 1 λa F=>?_
   refine Xd (k:=18) (i:=18) Z F (oSt H 3 sizeOf70 F Z Z Z Z (XjI U) λw H=>?_)
   refine gg 2 λa F=>?_
   replace H:Own w0 (some b) w (.blk aM [Ve (j:Int)] 3:: .rws 3 1 (.slice G (Uo p++[[Ve (j:Int)]]).length J) (Uo p++[[Ve (j:Int)]])::([.blk b5 e.cells 156,.blk g ((s.map hdV).set (0+e.ev.loc.toNat*1) (.slice G (Uo p++[[Ve (j:Int)]]).length J)) 70,.blk b (Mx.mk x (.slice none 0 0) (.slice none 0 0) (Vd g 0 n n)).cells 99]++((s.take e.ev.loc.toNat++s.drop (e.ev.loc.toNat+1)).map Ln.part++[]))):=H
   have e1:hdV ⟨G,J,p++[j]⟩=.slice G (Uo p++[[Ve (j:Int)]]).length J:=by unfold hdV Uo;simp
   have e2:Ln.part ⟨G,J,p++[j]⟩=.rws 3 1 (.slice G (Uo p++[[Ve (j:Int)]]).length J) (Uo p++[[Ve (j:Int)]]):=by unfold Ln.part Uo;simp
   replace H:=H.tail
   rw[<-e2,<-e1,Xpk]at H
   replace H:=H.push
   rw[<-XrN U]at H
   refine gg 4 λa F=>?_
   exact⟨_,O,_,⟨j+1,s.set e.ev.loc.toNat ⟨G,J,p++[j]⟩,Z,Z,O,Xqt E Q a1 U Z,H.tail⟩,F.tt⟩
  refine gg 5 λa F=>?_
  exact⟨_,O,_,⟨j+1,s,Z,Z,O,E.trans (Xoj Q a1),H.tail⟩,F.tt⟩
 have a4:j=d.length:=O
 refine gg 7 λa F=>?_
 refine zLd F (show _=some (Value.slice A d.length C)from hx▸H.cell 1 Z Xo3) λa F=>?_
 refine gg 4 λa F=>?_
 subst a4
 replace H:=(H.nilRws 70 1).nilRws 3 1
 refine cLoopS [0,53,54] (λm D w=>∃(i:Nat)(r:List Ln)(R K:Option Addr)(S I:Nat),m=d.length-i/\D=[(55,Ve ((i:Nat):Int))]/\i<=d.length/\r.map Ln.l=(plL d rdF i).map (QQ d)/\Own w0 (some b) w ([.rws 3 1 (.slice R (plL d rdF i).length S) (Uo (plL d rdF i)),.rws 70 1 (.slice K r.length I) (r.map Ln.hd),.blk g (s.map hdV) 70,.blk b (Mx.mk x (.slice R (plL d rdF i).length S) (.slice K r.length I) (Vd g 0 n n)).cells 99]++(s.map Ln.part++(r.map Ln.part++[])))) F (d.length) [(55,Ve ((0:Nat):Int))] ?_ ?_
 ·exact⟨0,[],none,none,0,0,Z,Z,O,Z,H⟩
 clear F H;intro m D a w hI F
 obtain⟨i,r,R,K,S,I,rfl,rfl,hi,T,H⟩:=hI
 refine gg 6 λa F=>zi (λaJ=>?_) λaJ=>?_
 ·
  have a9:i<d.length:=O
  obtain⟨e,Q⟩:∃e,d[i]?=some e:=⟨_,AA a9⟩
  obtain⟨bE,oE,rfl,hR⟩:=a7 _ _ i e H Q
  have aZ:(plL d rdF i).length<=i:=GH
  have aX:r.length=(plL d rdF i).length:=by have:=congrArg List.length T;simpa using this
  refine gg 7 λa F=>?_
  refine sLr Yf Z ?si F Z Z Z hR ?_
  case si=>exact VT XG
  clear F a;intro a F
  refine zAl XO H F λb7 a w F H=>?_
  refine gg 1 λa F=>?_
  refine sSr H 0 ?si F Z Z Z ?s1 Z Z ?_
  case si=>exact VT XG
  case s1=>rfl
  clear H;intro w H
  refine gg 1 λa F=>?_
  replace H:Own w0 (some b) w ([.blk b7 e.cells 156,.rws 3 1 (.slice R (plL d rdF i).length S) (Uo (plL d rdF i)),.rws 70 1 (.slice K r.length I) (r.map Ln.hd),.blk g (s.map hdV) 70,.blk b (Mx.mk x (.slice R (plL d rdF i).length S) (.slice K r.length I) (Vd g 0 n n)).cells 99]++(s.map Ln.part++(r.map Ln.part++[]))):=H
  refine gg 8 λa F=>zi (λW=>?_) λW=>?_
  ·
   refine gg 5 λa F=>?_
   (have V:=XoQ Q W
    rw[<-V]at T H
    exact⟨_,O,_,⟨i+1,_,_,_,_,_,Z,Z,O,T,H.tail⟩,F.tt⟩)
  have a5:e.ev.loc.toNat<n:=a3 e (AF Q) (.inl W)
  have aS:s.length=n:=by have:=congrArg List.length E;simpa using this
  obtain⟨⟨xA,xc,p⟩,U⟩:∃x,s[e.ev.loc.toNat]?=some x:=⟨_,AA O⟩
  have X:p=wrL d e.ev.loc.toNat:=by
   have h0:(s.map Ln.l)[e.ev.loc.toNat]?=((List.range n).map λl=>plL d (wrF l) d.length)[e.ev.loc.toNat]?:=by rw[E]
   rw[AD,AD,U,Av a5]at h0
   exact Ac h0
  have b2:p.length<=d.length:=by rw[X];exact GH
  refine gg 4 λa F=>?_
  replace H:=H.nilRws 3 1
  refine gg 3 λa F=>?_
  refine zRO H λH=>?_
  refine gg 3 λa F=>?_
  refine Xe 3 Z F Z Z (λw H=>rLd isAgg97 F Z (H.cell 5 Z (Dn 2))) H qq0 λa F=>?_
  refine gg 3 λa F=>?_
  refine Xe 7 Z F Z Z (λw H=>rLd isAgg70 F Z (show _=some (Value.slice xA p.length xc)from H.cell 4 Z (XjI U))) H qq0 λa F=>?_
  refine gg 4 λa F=>?_
  refine cLoopS [0,6,7,53,54,55,70,71] (λm D w=>∃(k:Nat)(y:Option Addr)(B:Nat),m=p.length-k/\D=[(8,.slice y ((p.take k).filter (Lg d e.ev.val)).length B),(72,Ve ((k:Nat):Int))]/\k<=p.length/\Own w0 (some b) w ([.rws 3 1 (.slice y ((p.take k).filter (Lg d e.ev.val)).length B) (Uo ((p.take k).filter (Lg d e.ev.val))),.blk b7 e.cells 156,.rws 3 1 (.slice R (plL d rdF i).length S) (Uo (plL d rdF i)),.rws 70 1 (.slice K r.length I) (r.map Ln.hd),.blk g (s.map hdV) 70,.blk b (Mx.mk x (.slice R (plL d rdF i).length S) (.slice K r.length I) (Vd g 0 n n)).cells 99]++(s.map Ln.part++(r.map Ln.part++[])))) F (p.length) [(8,.slice none 0 0),(72,Ve ((0:Nat):Int))] ?_ ?_
  ·exact⟨0,none,0,Z,Z,O,H⟩
  clear F H;intro m D a w hI F
  obtain⟨k,y,B,rfl,rfl,hk,H⟩:=hI
  refine gg 6 λa F=>zi (λaU=>?_) λaU=>?_
  ·
   have a6:k<p.length:=O
   obtain⟨v,hv⟩:∃v,p[k]?=some v:=⟨_,AA a6⟩
   obtain⟨aT,f,hf, -⟩:v<d.length/\∃f,d[v]?=some f/\wrF e.ev.loc.toNat f=true:=mem_pl.1 (by have:=AF hv;rw[X]at this;exact this)
   have aR:=Xro (hd:=[_,_,_,_,_,_]) H U
   obtain⟨bX,oX,rfl,aL⟩:=aR k [Ve (v:Int)] (UQ hv)
   have aY:((p.take k).filter (Lg d e.ev.val)).length<=k:=AW (Fy _ _) (by simp;omega)
   have b1:(v:Int)<=9223372036854775807:=O
   refine gg 6 λa F=>?_
   refine zLd F (aL 0 _ Z) λa F=>?_
   refine gg 3 λa F=>?_
   refine zRO H λH=>?_
   refine gg 4 λa F=>?_
   refine Xe 4 Z F Z Z (λw H=>rLd isAgg53 F Z (show _=some (Value.slice (some ⟨bE,oE,none⟩) d.length C)from hx▸H.cell 5 Z Xo3)) H qq0 λa F=>?_
   refine gg 1 λa F=>?_
   refine Xf (k:=6) (i:=6) Z F Z (λw=>rIx XK XG F Z Z ?_) H (λ_ _ _ h=>h) ?_
   focus exact aT
   clear F a;intro a F
   refine gg 1 λa F=>?_
   refine Xe 8 Z F Z Z (λw H=>rLd XD F Z (by obtain⟨b9,o9,h1,h2⟩:=a7 _ _ v f H hf;cases h1;exact h2 3 _ Z)) H qq0 λa F=>?_
   refine gg 4 λa F=>?_
   refine cIf F Z (λa8=>?_) (λa8=>?_)
   ·
    refine gg 3 λa F=>?_
    refine XeN H Xz XM X4 Z F Z Z Z Z λaI a w F H=>?_
    refine G7 (bytes:=8) H 1 Xz Yd Z Z Z Z Z Z F Z Z Z Z Z (H.whole 0 Z) Z ?s1 ?s2 ?_
    case s1=>rfl
    case s2=>(rw[Uz];omega)
    clear F a H;intro aD aG a w F H
    refine gg 2 λa F=>?_
    have P:=Xh2 (v:=e.ev.val) hv hf
    rw[a8,if_pos Z]at P
    replace H:Own w0 (some b) w ([.blk aI [Ve (v:Int)] 3,.rws 3 1 (.slice aD (Uo ((p.take k).filter (Lg d e.ev.val))++[[Ve (v:Int)]]).length aG) (Uo ((p.take k).filter (Lg d e.ev.val))++[[Ve (v:Int)]]),.blk b7 e.cells 156,.rws 3 1 (.slice R (plL d rdF i).length S) (Uo (plL d rdF i)),.rws 70 1 (.slice K r.length I) (r.map Ln.hd),.blk g (s.map hdV) 70,.blk b (Mx.mk x (.slice R (plL d rdF i).length S) (.slice K r.length I) (Vd g 0 n n)).cells 99]++(s.map Ln.part++(r.map Ln.part++[]))):=H
    have aE:Uo ((p.take k).filter (Lg d e.ev.val))++[[Ve (v:Int)]]=Uo ((p.take (k+1)).filter (Lg d e.ev.val)):=by rw[P];unfold Uo;rw[Ae];rfl
    have aA:(Uo ((p.take k).filter (Lg d e.ev.val))++[[Ve (v:Int)]]).length=((p.take (k+1)).filter (Lg d e.ev.val)).length:=by rw[aE];exact Uz _
    replace H:=H.tail
    rw[aA,aE]at H
    refine gg 4 λa F=>?_
    exact⟨_,O,_,⟨k+1,aD,aG,Z,Z,O,H⟩,F.to (by rw[<-aA];repeat(first|exact trivial|refine Le.cons rfl ?_))⟩
   refine gg 5 λa F=>?_
   (have P:=Xh2 (v:=e.ev.val) hv hf
    rw[a8,if_neg (by decide),Ak]at P;rw[<-P]at H
    exact⟨_,O,_,⟨k+1,y,B,Z,Z,O,H⟩,F.to (by rw[P];repeat(first|exact trivial|refine Le.cons rfl ?_))⟩)
  have a6:k=p.length:=O
  refine gg 7 λa F=>?_
  refine sLd isAgg70 F Z Z Z (H.cell 5 Z (Dn 0)) λa F=>?_
  refine gg 1 λa F=>?_
  refine XeN H Xz XM X4 Z F Z Z Z Z λaH a w F H=>?_
  refine G7 (bytes:=8) H 3 Xz Yd Z Z Z Z Z Z F Z Z Z Z Z (H.whole 0 Z) Z ?s1 ?s2 ?_
  case s1=>rfl
  case s2=>(rw[Uz];omega)
  clear F a H;intro u t a w F H
  refine gg 2 λa F=>?_
  refine sSt H 6 sizeOf70 F Z Z Z Z Z (Dn 0) λw H=>?_
  refine gg 1 λa F=>?_
  have aV:(p.take k).filter (Lg d e.ev.val)=QQ d i:=by rw[Xh3 Q,a6,FD (AI _),X];rfl
  have V:=Xq6 Q W
  have aB:Uo (plL d rdF i)++[[Ve (i:Int)]]=Uo (plL d rdF (i+1)):=by rw[V];unfold Uo;rw[Ae];rfl
  have aP:(Uo (plL d rdF i)++[[Ve (i:Int)]]).length=(plL d rdF (i+1)).length:=by rw[aB];exact Uz _
  replace H:Own w0 (some b) w ([.blk aH [Ve (i:Int)] 3,.rws 3 1 (.slice y ((p.take k).filter (Lg d e.ev.val)).length B) (Uo ((p.take k).filter (Lg d e.ev.val))),.blk b7 e.cells 156,.rws 3 1 (.slice u (Uo (plL d rdF i)++[[Ve (i:Int)]]).length t) (Uo (plL d rdF i)++[[Ve (i:Int)]]),.rws 70 1 (.slice K r.length I) (r.map Ln.hd),.blk g (s.map hdV) 70,.blk b ((Mx.mk x (.slice R (plL d rdF i).length S) (.slice K r.length I) (Vd g 0 n n)).cells.set (333+0) (.slice u (Uo (plL d rdF i)++[[Ve (i:Int)]]).length t)) 99]++(s.map Ln.part++(r.map Ln.part++[]))):=H
  rw[Xi7,aP,aB]at H
  replace H:Own w0 (some b) w ([.rws 3 1 (.slice y ((p.take k).filter (Lg d e.ev.val)).length B) (Uo ((p.take k).filter (Lg d e.ev.val))),.blk b7 e.cells 156,.rws 3 1 (.slice u (plL d rdF (i+1)).length t) (Uo (plL d rdF (i+1))),.rws 70 1 (.slice K r.length I) (r.map Ln.hd),.blk g (s.map hdV) 70,.blk b (Mx.mk x (.slice u (plL d rdF (i+1)).length t) (.slice K r.length I) (Vd g 0 n n)).cells 99]++(s.map Ln.part++(r.map Ln.part++[]))):=H.tail
  refine gg 5 λa F=>?_
  refine sLd isAgg97 F Z Z Z (H.cell 5 Z (Dn 1)) λa F=>?_
  refine gg 1 λa F=>?_
  refine XeN H underlying97 sizeOf70 zeroValue70 Z F Z Z Z Z λaF a w F H=>?_
  refine G7 (bytes:=24) H 4 underlying97 typeInfo70 Z Z Z Z Z Z F Z Z Z Z Z (H.whole 0 Z) Z ?s1 ?s2 ?_
  case s1=>rfl
  case s2=>(rw[AH];omega)
  clear F a H;intro M L a w F H
  refine gg 2 λa F=>?_
  refine sSt H 6 sizeOf97 F Z Z Z Z Z (Dn 1) λw H=>?_
  refine gg 1 λa F=>?_
  replace H:Own w0 (some b) w ([.blk aF [.slice y ((p.take k).filter (Lg d e.ev.val)).length B] 70,.rws 3 1 (.slice y ((p.take k).filter (Lg d e.ev.val)).length B) (Uo ((p.take k).filter (Lg d e.ev.val))),.blk b7 e.cells 156,.rws 3 1 (.slice u (plL d rdF (i+1)).length t) (Uo (plL d rdF (i+1))),.rws 70 1 (.slice M (r.map Ln.hd++[[Value.slice y ((p.take k).filter (Lg d e.ev.val)).length B]]).length L) (r.map Ln.hd++[[.slice y ((p.take k).filter (Lg d e.ev.val)).length B]]),.blk g (s.map hdV) 70,.blk b ((Mx.mk x (.slice u (plL d rdF (i+1)).length t) (.slice K r.length I) (Vd g 0 n n)).cells.set (333+1) (.slice M (r.map Ln.hd++[[Value.slice y ((p.take k).filter (Lg d e.ev.val)).length B]]).length L)) 99]++(s.map Ln.part++(r.map Ln.part++[]))):=H
  rw[Xi7,aV]at H
  have aK:r.map Ln.hd++[[.slice y (QQ d i).length B]]=(r++[(⟨y,B,QQ d i⟩:Ln)]).map Ln.hd:=by rw[Ae];rfl
  have aN:((r++[(⟨y,B,QQ d i⟩:Ln)]).map Ln.hd).length=(r++[(⟨y,B,QQ d i⟩:Ln)]).length:=AH _
  rw[aK,aN]at H
  have aC:(r++[(⟨y,B,QQ d i⟩:Ln)]).map Ln.l=(plL d rdF (i+1)).map (QQ d):=by rw[Ae,T,V,Ae];rfl
  replace H:Own w0 (some b) w ([.rws 3 1 (.slice u (plL d rdF (i+1)).length t) (Uo (plL d rdF (i+1))),.rws 70 1 (.slice M (r++[(⟨y,B,QQ d i⟩:Ln)]).length L) ((r++[(⟨y,B,QQ d i⟩:Ln)]).map Ln.hd),.blk g (s.map hdV) 70,.blk b (Mx.mk x (.slice u (plL d rdF (i+1)).length t) (.slice M (r++[(⟨y,B,QQ d i⟩:Ln)]).length L) (Vd g 0 n n)).cells 99]++(s.map Ln.part++((r++[(⟨y,B,QQ d i⟩:Ln)]).map Ln.part++[]))):=(Own.addN2 (q:=(⟨y,B,QQ d i⟩:Ln)) (part:=Ln.part) (hd:=[_,_,_,_,_]) H.tail).tail
  refine gg 4 λa F=>?_
  exact⟨_,O,_,⟨i+1,_,_,_,_,_,Z,Z,O,aC,H⟩,F.tt⟩
 have a9:i=d.length:=O
 refine gg 1 λa F=>?_
 refine bEnd results117 F ?_;subst a9
 exact⟨Z,s,r,R,K,S,I,g,E,T,H.swapN 3 1⟩
theorem Own.redo{w0 B:World}{row:Option Nat}{v q:List Res}{b:Nat}{G e:List Value}{t:TypeId}(H:Own w0 row w v)(i:Nat)(C:v[i]?=some (.blk b G t))(u:Own w (some b) B (.blk b e t::q)):Own w0 row B (q++v.set i (.blk b e t)):=by
 have y:Own w0 row B (v.set i (.blk b e t)):=H.turned i C (Own.front (xs:=[_]) u)
 have m:∀(k:Nat)(s:Res),q[k]?=some s->∀c,s.foot c->w.heap.size<=c:=λk s d c n=>by
  rcases(u.foot (k+1) s d c n).1 with h|h
  ·exact h
  ·exact absurd (show Res.foot (.blk b e t) c from Ac h) (λE=>u.apart 0 (k+1) _ s Z d O c E n)
 have p:∀(k:Nat)(s:Res),(v.set i (.blk b e t))[k]?=some s->∀c,s.foot c->c<w.heap.size:=λk s d c n=>by
  rw[Am]at d
  split at d
  ·split at d
   ·cases d;exact(H.foot i _ C c n).2
   ·cases d
  ·exact(H.foot k s d c n).2
 constructor
 ·exact y.grown
 ·intro k r d
  rcases AN k q.length with h|h
  ·rw[AP h]at d;exact u.pred (k+1) r d
  ·rw[AQ h]at d;exact y.pred _ r d
 ·intro k r d c n
  rcases AN k q.length with h|h
  ·rw[AP h]at d
   exact⟨.inl (AW H.grown.size (m k r d c n)),(u.foot (k+1) r d c n).2⟩
  ·rw[AQ h]at d;exact y.foot _ r d c n
 ·intro k j r s d o D c A z
  rcases AN k q.length with h|h<;>rcases AN j q.length with g|g
  ·rw[AP h]at d;rw[AP g]at o
   exact u.apart (k+1) (j+1) r s d o O c A z
  ·rw[AP h]at d;rw[AQ g]at o
   have:=m k r d c A;have:=p _ s o c z;omega
  ·rw[AQ h]at d;rw[AP g]at o
   have:=m j s o c z;have:=p _ r d c A;omega
  ·rw[AQ h]at d;rw[AQ g]at o
   exact y.apart _ _ r s d o O c A z
theorem QU{p z s r:List Value}{o:Nat}(c:p.length=n)(h:o+r.length<=z.length):VZ (p++(z++s)) (n+o) r=p++(VZ z o r++s):=by
 subst c
 refine Ar λi=>?_
 rw[Gz _ _ _ _ (by simp;omega)]
 rcases AN i p.length with h1|h1
 ·rw[if_neg O,AP h1,AP h1]
 ·rw[AQ h1,AQ h1]
  rcases AN (i-p.length) z.length with h2|h2
  ·rw[AP h2,AP (by rw[GE];exact h2),Gz _ _ _ _ h]
   by_cases b:o<=i-p.length/\i-p.length<o+r.length
   ·rw[if_pos O,if_pos b];congr 1;omega
   ·rw[if_neg O,if_neg b]
  ·rw[if_neg O,AQ h2,AQ (by rw[GE];exact h2),GE]
section
variable{m:Mx}{v:Value}{q:Rl}{t:By}
theorem mx_po:VZ m.cells 1 q.cells=(Mx.mk {m.x with po:=q} m.rd m.sr m.wr).cells:=
 (show VZ m.cells 1 q.cells=VZ ([m.x.ev]++(m.x.po.cells++_)) [m.x.ev].length q.cells by unfold Mx.cells Xc.cells;rw[Au,AO];rfl).trans
  ((Lp _ q.cells m.x.po.cells [m.x.ev] (by rw[Rl.len,Rl.len])).trans (by unfold Mx.cells Xc.cells;rw[Au,AO];rfl))
theorem XrG:m.cells=(m.x.ev::(m.x.po.cells++(m.x.rf.cells++m.x.co.cells)))++(m.x.da.cells++(m.x.ct.cells++(m.x.rm.cells++(bs 38 m.x.fi++[m.rd,m.sr,m.wr])))):=by
 unfold Mx.cells Xc.cells;simp only[Au,AO]
theorem XrH:m.cells=(m.x.ev::(m.x.po.cells++(m.x.rf.cells++(m.x.co.cells++m.x.da.cells))))++(m.x.ct.cells++(m.x.rm.cells++(bs 38 m.x.fi++[m.rd,m.sr,m.wr]))):=by
 unfold Mx.cells Xc.cells;simp only[Au,AO]
theorem XrC:m.cells=(m.x.ev::(m.x.po.cells++(m.x.rf.cells++(m.x.co.cells++(m.x.da.cells++m.x.ct.cells)))))++(m.x.rm.cells++(bs 38 m.x.fi++[m.rd,m.sr,m.wr])):=by
 unfold Mx.cells Xc.cells;simp only[Au,AO]
theorem XrF:m.cells=(m.x.ev::(m.x.po.cells++(m.x.rf.cells++(m.x.co.cells++(m.x.da.cells++(m.x.ct.cells++m.x.rm.cells))))))++(bs 38 m.x.fi++[m.rd,m.sr,m.wr]):=by
 unfold Mx.cells Xc.cells;simp only[Au,AO]
theorem Xrh:(m.x.ev::(m.x.po.cells++(m.x.rf.cells++m.x.co.cells))).length=148:=by simp only[AY,AK,Rl.len]
theorem Xri:(m.x.ev::(m.x.po.cells++(m.x.rf.cells++(m.x.co.cells++m.x.da.cells)))).length=197:=by simp only[AY,AK,Rl.len]
theorem Xrf:(m.x.ev::(m.x.po.cells++(m.x.rf.cells++(m.x.co.cells++(m.x.da.cells++m.x.ct.cells))))).length=246:=by simp only[AY,AK,Rl.len]
theorem Xrg:(m.x.ev::(m.x.po.cells++(m.x.rf.cells++(m.x.co.cells++(m.x.da.cells++(m.x.ct.cells++m.x.rm.cells)))))).length=295:=by simp only[AY,AK,Rl.len]
theorem XrD{k:Nat}(b:k<4):VZ m.cells (295+k*8) (bs 8 t)=(Mx.mk {m.x with fi:=lay m.x.fi (k*8) 8 t} m.rd m.sr m.wr).cells:=by
 rw[XrF,QU Xrg (by rw[bs_length,bs_length];omega),Qk O,XrF (m:=Mx.mk _ _ _ _)]
end
/-! what assemble answers -/
def JC(v:List UInt8):List EvT:=v.zipIdx.map λp=>⟨-1,⟨2,UInt8.ofNat p.2,p.1,0,0,0⟩⟩
def thE(k:Nat)(q:PathP):List EvT:=q.evs.map (EvT.mk (k:Int))
def UE(v:List UInt8)(ps:List PathP):Nat->List EvT
 |0=>JC v
 |j+1=>UE v ps j++match ps[j]? with|some q=>thE j q|none=>[]
def rlK(n:Nat)(v:List UInt8)(ps:List PathP)(sel:PathP->List Pr):Nat->Rl
 |0=>zR n
 |j+1=>match ps[j]? with|some q=>putR (UE v ps j).length (rlK n v ps sel j) (sel q)|none=>rlK n v ps sel j
def fiK(ps:List PathP):Nat->By
 |0=>λ_=>0
 |j+1=>match ps[j]? with|some q=>lay (fiK ps j) (j*8) 8 q.regs|none=>fiK ps j
def V1(v:List UInt8)(ps:List PathP)(j:Nat):Nat:=(UE v ps j).length
section
variable{v:List UInt8}{ps:List PathP}{j n:Nat}{q:PathP}{sel:PathP->List Pr}
theorem DR(h:ps[j]?=some q):UE v ps (j+1)=UE v ps j++thE j q:=by rw[UE,h]
theorem EA(h:ps[j]?=some q):rlK n v ps sel (j+1)=putR (UE v ps j).length (rlK n v ps sel j) (sel q):=by rw[rlK,h]
theorem Xaq(h:ps[j]?=some q):fiK ps (j+1)=lay (fiK ps j) (j*8) 8 q.regs:=by rw[fiK,h]
theorem Qa(h:ps[j]?=some q):V1 v ps (j+1)=V1 v ps j+q.evs.length:=by unfold V1;rw[DR h,AK];unfold thE;rw[AH]
theorem sizeK_zero:V1 v ps 0=v.length:=by unfold V1 UE JC;simp
theorem Qv:∀{i j:Nat},i<=j->V1 v ps i<=V1 v ps j:=λ{i j} h=>by
 induction h with
 |refl=>exact AI _
 |step _ b=>exact AW b (by unfold V1;rw[UE,AK];omega)
theorem Xfk{l:Nat}{x:UInt8}(h:v[l]?=some x):(JC v)[l]?=some ⟨-1,⟨2,UInt8.ofNat l,x,0,0,0⟩⟩:=by unfold JC;rw[AD,List.getElem?_zipIdx,h];simp
theorem XgL{l:Nat}{x:UInt8}(h:v[l]?=some x):(JC v).take (l+1)=(JC v).take l++[⟨-1,⟨2,UInt8.ofNat l,x,0,0,0⟩⟩]:=by rw[At,Xfk h];rfl
theorem Dw:(JC v).length=v.length:=by unfold JC;simp
end
structure GoodP (n:Nat) (q:PathP):Prop where
 evs:q.evs.length<=24
 data:∀p∈q.data,p.1.toNat<q.evs.length/\p.2.toNat<q.evs.length
 ctrl:∀p∈q.ctrl,p.1.toNat<q.evs.length/\p.2.toNat<q.evs.length
 rmw:∀p∈q.rmw,p.1.toNat<q.evs.length/\p.2.toNat<q.evs.length
 dataN:q.data.length<=1000000
 ctrlN:q.ctrl.length<=1000000
 rmwN:q.rmw.length<=1000000
 loc:∀e∈q.evs,e.kind=1\/e.kind=2->e.loc.toNat<n
structure PlAt (w:World) (q:PlP):Prop where
 evs:RowsAt w q.A1 7 (q.path.evs.map Ev.cells)
 data:RowsAt w q.A2 2 (q.path.data.map prC)
 ctrl:RowsAt w q.A3 2 (q.path.ctrl.map prC)
 rmw:RowsAt w q.A4 2 (q.path.rmw.map prC)
section
variable{b C f:Nat}{m:Mx}{T:TypeId}{A:Option Addr}{ps:List Pr}{w0:World}
theorem Xdt{l:List Pr}:∀r∈l.map prC,0<r.length:=λr b=>by obtain⟨x,_,rfl⟩:=AT.1 b;exact Nat.succ_pos _
theorem Xrb(j:Blk w0 b m.cells T)(n:JK w0 b A 2 (ps.map prC))(i:ps.length<=1000000000000)(c:∀p∈ps,f+p.1.toNat<48/\f+p.2.toNat<48)(d:f<=48):
 Calls prog 116 #[Vc b 148,.slice A ps.length C,Ve (f:Int)] w0 λe g=>e=.returned (.tuple #[])/\Own w0 (some b) g [.blk b (Mx.mk {m.x with da:=putR f m.x.da ps} m.rd m.sr m.wr).cells T]:=by
 have h:=Xdn b 148 _ _ m.x.da T A C f ps w0 Xrh (by rw[<-XrG];exact j) n i c d
 rw[XrG (m:=Mx.mk _ _ _ _)];exact h
theorem Xrc(j:Blk w0 b m.cells T)(n:JK w0 b A 2 (ps.map prC))(i:ps.length<=1000000000000)(c:∀p∈ps,f+p.1.toNat<48/\f+p.2.toNat<48)(d:f<=48):
 Calls prog 116 #[Vc b 197,.slice A ps.length C,Ve (f:Int)] w0 λe g=>e=.returned (.tuple #[])/\Own w0 (some b) g [.blk b (Mx.mk {m.x with ct:=putR f m.x.ct ps} m.rd m.sr m.wr).cells T]:=by
 have h:=Xdn b 197 _ _ m.x.ct T A C f ps w0 Xri (by rw[<-XrH];exact j) n i c d
 rw[XrH (m:=Mx.mk _ _ _ _)];exact h
theorem Xra(j:Blk w0 b m.cells T)(n:JK w0 b A 2 (ps.map prC))(i:ps.length<=1000000000000)(c:∀p∈ps,f+p.1.toNat<48/\f+p.2.toNat<48)(d:f<=48):
 Calls prog 116 #[Vc b 246,.slice A ps.length C,Ve (f:Int)] w0 λe g=>e=.returned (.tuple #[])/\Own w0 (some b) g [.blk b (Mx.mk {m.x with rm:=putR f m.x.rm ps} m.rd m.sr m.wr).cells T]:=by
 have h:=Xdn b 246 _ _ m.x.rm T A C f ps w0 Xrf (by rw[<-XrC];exact j) n i c d
 rw[XrC (m:=Mx.mk _ _ _ _)];exact h
end
def zM(n:Nat):Mx:=⟨zX n,.slice none 0 0,.slice none 0 0,.slice none 0 0⟩
theorem EV:(Value.agg zeroCells99).cells.toList=(zM 0).cells:=by kernel_rfl
theorem XbD{m:Mx}(h:m.x.ev.oneCell'=true)(b:m.rd.oneCell'=true)(d:m.sr.oneCell'=true)(c:m.wr.oneCell'=true):m.cells.all (·.oneCell')=true:=by
 unfold Mx.cells;rw[List.all_append,Xe2 h];simp[b,d,c]
theorem Xh5{c:List Value}{m:Mx}(h:c.length=336):VZ c 0 m.cells=m.cells:=Ju (by rw[h,Mx.len])
theorem Xmg(g:v.length<=6):∀e∈JC v,e.ev.loc.toNat<v.length:=λe c=>by
 obtain⟨i,b⟩:=List.getElem?_of_mem c
 have d:i<v.length:=by have:=(AB.1 b).1;rwa [Dw]at this
 rw[Xfk (AA d)]at b
 cases b
 show(UInt8.ofNat i).toNat<v.length
 rw[HZ];omega
theorem Xj2{v:List UInt8}{ps:List PathP}(d:v.length<=6)(g:∀q∈ps,GoodP v.length q):∀j,∀e∈UE v ps j,e.ev.kind=1\/e.ev.kind=2->e.ev.loc.toNat<v.length
 |0,e,b,_=>Xmg d e b
 |j+1,e,b,c=>by
  rw[UE]at b
  rcases A8.1 b with h|h
  ·exact Xj2 d g j e h c
  ·split at h
   ·rename_i q i
    obtain⟨x,m,rfl⟩:=AT.1 h
    exact(g q (AF i)).loc x m c
   ·cases h
def XdF(V:Value)(n:Nat)(v:List UInt8)(ps:List PathP)(j:Nat):Mx:=
 ⟨⟨V,zR n,zR n,zR n,rlK n v ps PathP.data j,rlK n v ps PathP.ctrl j,rlK n v ps PathP.rmw j,fiK ps j⟩,.slice none 0 0,.slice none 0 0,.slice none 0 0⟩
def midP(m:Mx)(f:Nat)(q:PathP):Mx:=⟨{m.x with da:=putR f m.x.da q.data,ct:=putR f m.x.ct q.ctrl,rm:=putR f m.x.rm q.rmw},m.rd,m.sr,m.wr⟩
theorem XlV{V:Value}{j:Nat}{ps:List PathP}{q:PathP}(h:ps[j]?=some q)(b:j<4):VZ (midP (XdF V n v ps j) (V1 v ps j) q).cells (295+j*8) (bs 8 q.regs)=(XdF V n v ps (j+1)).cells:=by
 rw[XrD b]
 unfold XdF midP
 rw[EA h,EA h,EA h,Xaq h];rfl
theorem XnD{V W:Value}{j:Nat}{ps:List PathP}:(XdF V n v ps j).cells.set 0 W=(XdF W n v ps j).cells:=rfl
theorem Xdj{w0:World}{row:Option Nat}{p:List Res}{e t:TypeId}{m c b:Nat}{A:Option Addr}{d:List (List Value)}{s:List Value}(H:Own w0 row w p)(i k:Nat)(v:p[i]?=some (.rws e m (.slice A n c) d))(B:p[k]?=some (.blk b s t))(z:∀r∈d,r.length=m)(u:0<m)(q:i≠k):JK w b A m d:=λj s C=>by
 obtain⟨g,o,y,h⟩:=H.rowsAt i v z u j s C
 refine⟨g,o,y,λD=>?_,h⟩
 subst y
 exact H.apart i k _ _ v B q g Z D
theorem Xpx{l:List EvT}:∀r∈l.map EvT.cells,r.length=7:=λr b=>by obtain⟨x,_,rfl⟩:=AT.1 b;rfl
def XkE(A:Option Addr)(c:Nat)(v:List UInt8)(ps:List PathP):Xc:=
 ⟨.slice A (V1 v ps ps.length) c,poR (UE v ps ps.length),zR (V1 v ps ps.length),zR (V1 v ps ps.length),rlK (V1 v ps ps.length) v ps PathP.data ps.length,rlK (V1 v ps ps.length) v ps PathP.ctrl ps.length,rlK (V1 v ps ps.length) v ps PathP.rmw ps.length,fiK ps ps.length⟩
structure MxP where
 ps:List PathP
 A:Option Addr
 c:Nat
 A1:Option Addr
 c1:Nat
 A2:Option Addr
 c2:Nat
 g:Nat
 ws:List Ln
 ss:List Ln
def MxP.evs(v:List UInt8)(q:MxP):List EvT:=UE v q.ps q.ps.length
def MxP.cells(v:List UInt8)(q:MxP):List Value:=(Mx.mk (XkE q.A q.c v q.ps) (.slice q.A1 (rdL (q.evs v)).length q.c1) (.slice q.A2 q.ss.length q.c2) (.slice (some ⟨q.g,0,none⟩) v.length v.length)).cells
def MxP.res(v:List UInt8)(q:MxP):List Res:=[.rws 3 1 (.slice q.A1 (rdL (q.evs v)).length q.c1) (Uo (rdL (q.evs v))),.rws 70 1 (.slice q.A2 q.ss.length q.c2) (q.ss.map Ln.hd),.blk q.g (q.ws.map hdV) 70,.rws 156 7 (.slice q.A (V1 v q.ps q.ps.length) q.c) ((q.evs v).map EvT.cells)]++(q.ws.map Ln.part++(q.ss.map Ln.part++[]))
def MxP.ok(v:List UInt8)(q:MxP):Prop:=q.ws.map Ln.l=(List.range v.length).map (wrL (q.evs v))/\q.ss.map Ln.l=(rdL (q.evs v)).map (QQ (q.evs v))
def Bh(v:List UInt8)(ps:List PathP)(w0:World)(e:Ending)(b:World):Prop:=
 if 48<V1 v ps ps.length then e=.returned (.tuple #[.agg (zM 0).cells.toArray,.bool false])/\Below w0.heap.size w0 b
 else ∃q:MxP,q.ps=ps/\q.ok v/\e=.returned (.tuple #[.agg (q.cells v).toArray,.bool true])/\Own w0 none b (q.res v)
theorem XaT(bp LC IC C:Nat)(LA IA A:Option Addr)(v:List UInt8)(b:List PlP)(w0:World)(hL:w0.cell? ⟨bp,1,none⟩=some (.slice LA v.length LC))(M:w0.cell? ⟨bp,2,none⟩=some (.slice IA v.length IC))(a4:RowsAt w0 IA 1 (v.map λx=>[b8 x]))(hA:RowsAt w0 A 12 (b.map PlP.cells))(hq:∀q∈b,PlAt w0 q)(hg:∀q∈b,GoodP v.length q.path)(hv:1<=v.length/\v.length<=6)(hn:b.length<=4):
 Calls prog 60 #[Vc bp 0,.slice A b.length C] w0 (Bh v (b.map PlP.path) w0):=by
 have H:=Own.start w0 none
 have B:(b.map PlP.path).length=b.length:=AH _
 have N:∀{j:Nat}{q:PlP},b[j]?=some q->(b.map PlP.path)[j]?=some q.path:=λh=>by rw[AD,h];rfl
 refine VU func60 Z ntmps60 Z (λa F=>?_);refine gg 2 ?_;clear F a;intro a F
 refine zAl zeroValue99 H F ?_;clear F a H;intro y a w F H
 refine gg 2 ?_;clear F a;intro a F;rw[EV]at H
 obtain⟨z,hz⟩:∃z,(zM 0).cells=z:=⟨_,Z⟩
 have K:z.length=336:=hz▸Mx.len
 rw[hz]at H;refine gg 5 ?_;clear F a;intro a F;refine zLd F (H.arg hL) ?_;clear F a;intro a F;refine gg 11 ?_;clear F a;intro a F
 refine cLoopS [0,1,4,23,24] (λm r w=>∃j:Nat,m=b.length-j/\r=[(6,Ve (V1 v (b.map PlP.path) j:Int)),(25,Ve ((j:Nat):Int))]/\j<=b.length/\V1 v (b.map PlP.path) j<=6+24*j/\Own w0 none w [.blk y z 99]) F (b.length) [(6,Ve (v.length:Int)),(25,Ve ((0:Nat):Int))] ?_ ?_
 ·exact⟨0,Z,by rw[sizeK_zero],AU _,by rw[sizeK_zero];omega,H⟩
 clear F
 clear H
 intro m r a w M F
 obtain⟨j,rfl,rfl,hj,aH,H⟩:=M
 refine gg 6 ?_;clear F a;intro a F;refine zi (λaF=>?_) λaF=>?_
 ·
  have o:j<b.length:=O
  obtain⟨q,s⟩:∃q,b[j]?=some q:=⟨_,AA o⟩
  obtain⟨bQ,oQ,rfl,hQ⟩:=hA j q.cells (by rw[AD,s];rfl)
  have L:=hg q (AF s)
  have aA:=L.evs
  have u:=Qa (v:=v) (N s)
  refine gg 6 ?_;clear F a;intro a F;refine zLr F (H.argR hQ) ?_;clear F a;intro a F
  refine zAl Yi H F ?_;clear F a H;intro b8 a w F H
  refine sSr H 0 ?si F Z Z Z ?s1 Z Z ?_
  case si=>exact VT sizeOf148
  case s1=>rfl
  clear H;intro w H;refine gg 1 ?_;clear F a;intro a F
  replace H:Own w0 none w [.blk b8 q.cells 148,.blk y z 99]:=H
  refine gg 5 ?_;clear F a;intro a F
  refine Xh F Z Z (JN ?_) ?_
  focus omega
  clear F a;intro a F;refine gg 6 ?_;clear F a;intro a F
  exact⟨_,O,_,⟨j+1,Z,Z,O,O,H.tail⟩,F.to (by rw[u];repeat(first|exact trivial|refine Le.cons rfl ?_))⟩
 have o:j=b.length:=O
 refine gg 8 ?_;clear F a;intro a F;refine zi (λI=>?_) λI=>?_
 ·
  subst o;refine gg 2 ?_;clear F a;intro a F;refine sBd (cs:=(zM 0).cells) (places:=[(0,333),(333,1),(334,1),(335,1)]) zeroValue99 Ya Y F Z Z Z Y ?_;clear F a;intro a F
  refine sSr H 0 ?si F Z Z Z ?s1 Z (by rw[K,Mx.len];rfl) ?_
  case si=>rw[Mx.len];exact VT Yj
  case s1=>exact XbD Z Z Z Z
  clear H;intro w H;refine gg 2 ?_;clear F a;intro a F;rw[Xh5 K]at H;refine gg 1 ?_;clear F a;intro a F;refine Cq results60 F Z Z Ya Z H 0 Z Yj (by rw[Mx.len];rfl) ?_
  (unfold Bh
   rw[B,if_pos O]
   exact⟨Z,H.below⟩)
 subst o
 obtain⟨n,V⟩:∃n,V1 v (b.map PlP.path) b.length=n:=⟨_,Z⟩
 rw[V]at F I;refine gg 4 ?_;clear F a;intro a F
 refine zCa F (XgX n _) H ?_;clear F a H;intro a w F H
 refine sBd (cs:=(zM n).cells) (places:=[(0,333),(333,1),(334,1),(335,1)]) zeroValue99 Ya Y F Z Z Z Y ?_;clear F a;intro a F
 refine zAl zeroValue99 H F ?_;clear F a H;intro D a w F H
 refine sSr H 0 ?si F Z Z Z ?s1 Z (by rw[EV,Mx.len,Mx.len];rfl) ?_
 case si=>rw[Mx.len];exact VT Yj
 case s1=>exact XbD Z Z Z Z
 clear H;intro w H;refine gg 1 ?_;clear F a;intro a F;rw[EV,Xh5 Mx.len]at H;refine gg 11 ?_;clear F a;intro a F;refine zLd F (H.arg M) ?_;clear F a;intro a F;refine gg 4 ?_;clear F a;intro a F
 replace H:=H.nilRws 156 7
 refine cLoopS [0,1,4,9,10,45,46] (λm r w=>∃(j:Nat)(c:Option Addr)(d:Nat),m=v.length-j/\r=[(47,Ve ((j:Nat):Int))]/\j<=v.length/\Own w0 none w [.rws 156 7 (.slice c j d) (((JC v).take j).map EvT.cells),.blk D (XdF (.slice c j d) n v (b.map PlP.path) 0).cells 99,.blk y z 99]) F (v.length) [(47,Ve ((0:Nat):Int))] ?_ ?_
 ·exact⟨0,none,0,Z,Z,AU _,H⟩
 clear F
 clear H
 intro m r a w M F
 obtain⟨j,c,d,rfl,rfl,hj,H⟩:=M
 refine gg 6 ?_;clear F a;intro a F;refine zi (λaD=>?_) λaD=>?_
 ·
  have o:j<v.length:=O
  obtain⟨x,hx⟩:∃x,v[j]?=some x:=⟨_,AA o⟩
  obtain⟨bI,oI,rfl,a7⟩:=a4 j [YtajfpcgbnflceaaGreatDoor.b8 x] (by rw[AD,hx];rfl)
  refine gg 7 ?_;clear F a;intro a F;refine zLd F (H.arg (a7 0 _ Z)) ?_;clear F a;intro a F;refine gg 12 ?_;clear F a;intro a F;refine sBd (cs:=(EvT.mk (-1) ⟨2,UInt8.ofNat j,x,0,0,0⟩).cells) (places:=[(0,1),(1,1),(2,1),(3,1),(4,1),(5,1),(6,1)]) XO Yf Y F Z Z Z Y ?_;clear F a;intro a F;refine XeM H XK XG XO Z F Z Z Z Z Z ?_;clear F a H;intro aE a w F H
  refine G7 (bytes:=16) H 1 XK typeInfo156 Z Z Z Z Z Z F Z Z Z Z Z (H.whole 0 Z) Z ?s1 ?s2 ?_
  case s1=>rfl
  case s2=>(simp;omega)
  clear F a H;intro S R a w F H;refine gg 2 ?_;clear F a;intro a F
  refine zSt H 2 F ?_;clear H;intro w H
  refine gg 1 ?_;clear F a;intro a F
  have T:((JC v).take j).map EvT.cells++[(EvT.mk (-1) ⟨2,UInt8.ofNat j,x,0,0,0⟩).cells]=((JC v).take (j+1)).map EvT.cells:=by rw[XgL hx,Ae];rfl
  have Q:(((JC v).take j).map EvT.cells++[(EvT.mk (-1) ⟨2,UInt8.ofNat j,x,0,0,0⟩).cells]).length=j+1:=by simp[Dw];omega
  replace H:Own w0 none w [.blk aE (EvT.mk (-1) ⟨2,UInt8.ofNat j,x,0,0,0⟩).cells 156,.rws 156 7 (.slice S (((JC v).take j).map EvT.cells++[(EvT.mk (-1) ⟨2,UInt8.ofNat j,x,0,0,0⟩).cells]).length R) (((JC v).take j).map EvT.cells++[(EvT.mk (-1) ⟨2,UInt8.ofNat j,x,0,0,0⟩).cells]),.blk D ((XdF (.slice c j d) n v (b.map PlP.path) 0).cells.set 0 (.slice S (((JC v).take j).map EvT.cells++[(EvT.mk (-1) ⟨2,UInt8.ofNat j,x,0,0,0⟩).cells]).length R)) 99,.blk y z 99]:=H
  rw[Q,T,XnD]at H;refine gg 4 ?_;clear F a;intro a F
  exact⟨_,O,_,⟨j+1,S,R,Z,Z,O,H.tail⟩,F.tt⟩
 have o:j=v.length:=O
 refine gg 9 ?_;clear F a;intro a F;subst o
 have aB:(JC v).take v.length=UE v (b.map PlP.path) 0:=FD (by rw[Dw];exact AI _)
 have a5:v.length=V1 v (b.map PlP.path) 0:=sizeK_zero.symm
 rw[aB]at H
 refine cLoopS [0,4,9,10,66,67] (λm r w=>∃(j:Nat)(c:Option Addr)(d:Nat),m=b.length-j/\r=[(68,Ve ((j:Nat):Int))]/\j<=b.length/\Own w0 none w [.rws 156 7 (.slice c (V1 v (b.map PlP.path) j) d) ((UE v (b.map PlP.path) j).map EvT.cells),.blk D (XdF (.slice c (V1 v (b.map PlP.path) j) d) n v (b.map PlP.path) j).cells 99,.blk y z 99]) F (b.length) [(68,Ve ((0:Nat):Int))] ?_ ?_
 ·exact⟨0,c,d,Z,Z,AU _,by rw[<-a5];exact H⟩
 clear F
 clear H
 intro m r a w M F
 obtain⟨j,c,d,rfl,rfl,hj,H⟩:=M
 refine gg 6 ?_;clear F a;intro a F;refine zi (λaG=>?_) λaG=>?_
 ·
  have o:j<b.length:=O
  obtain⟨q,s⟩:∃q,b[j]?=some q:=⟨_,AA o⟩
  obtain⟨bQ,oQ,rfl,hQ⟩:=hA j q.cells (by rw[AD,s];rfl)
  have L:=hg q (AF s)
  have J:=hq q (AF s)
  have aA:=L.evs
  have u:=Qa (v:=v) (N s)
  have aI:V1 v (b.map PlP.path) j+q.path.evs.length<=n:=by rw[<-u,<-V];exact Qv o
  refine gg 7 ?_;clear F a;intro a F;refine zLr F (H.argR hQ) ?_;clear F a;intro a F
  refine zAl Yi H F ?_;clear F a H;intro t a w F H
  refine gg 1 ?_;clear F a;intro a F
  refine sSr H 0 ?si F Z Z Z ?s1 Z Z ?_
  case si=>exact VT sizeOf148
  case s1=>rfl
  clear H;intro w H;refine gg 1 ?_;clear F a;intro a F
  replace H:Own w0 none w [.blk t q.cells 148,.rws 156 7 (.slice c (V1 v (b.map PlP.path) j) d) ((UE v (b.map PlP.path) j).map EvT.cells),.blk D (XdF (.slice c (V1 v (b.map PlP.path) j) d) n v (b.map PlP.path) j).cells 99,.blk y z 99]:=H
  refine gg 18 ?_;clear F a;intro a F
  refine cLoopS [0,4,9,10,13,14,15,66,67,68,79,80] (λm r w=>∃(i:Nat)(c:Option Addr)(d:Nat),m=q.path.evs.length-i/\r=[(81,Ve ((i:Nat):Int))]/\i<=q.path.evs.length/\Own w0 none w [.blk t q.cells 148,.rws 156 7 (.slice c (V1 v (b.map PlP.path) j+i) d) ((UE v (b.map PlP.path) j++(thE j q.path).take i).map EvT.cells),.blk D (XdF (.slice c (V1 v (b.map PlP.path) j+i) d) n v (b.map PlP.path) j).cells 99,.blk y z 99]) F (q.path.evs.length) [(81,Ve ((0:Nat):Int))] ?_ ?_
  ·exact⟨0,c,d,Z,Z,AU _,by rw[List.take_zero,Ak];exact H⟩
  clear F
  clear H
  intro m r a w M F
  obtain⟨i,c,d,rfl,rfl,hi,H⟩:=M
  refine gg 6 ?_;clear F a;intro a F;refine zi (λa9=>?_) λa9=>?_
  ·
   have U:i<q.path.evs.length:=O
   obtain⟨e,he⟩:∃e,q.path.evs[i]?=some e:=⟨_,AA U⟩
   obtain⟨bE,oE,X,hE⟩:=J.evs i e.cells (by rw[AD,he];rfl)
   rw[X]at F
   have a6:(thE j q.path).take (i+1)=(thE j q.path).take i++[⟨(j:Int),e⟩]:=by rw[At];unfold thE;rw[AD,he];rfl
   have a1:((UE v (b.map PlP.path) j++(thE j q.path).take i).map EvT.cells).length=V1 v (b.map PlP.path) j+i:=by rw[AH,AK,Aj];unfold thE V1;rw[AH];omega
   refine gg 6 ?_;clear F a;intro a F;refine zLr F (H.argR hE) ?_;clear F a;intro a F
   refine zAl XO H F ?_;clear F a H;intro a2 a w F H
   refine sSr H 0 ?si F Z Z Z ?s1 Z Z ?_
   case si=>exact VT XG
   case s1=>rfl
   clear H;intro w H;refine gg 5 ?_;clear F a;intro a F
   refine zSt H 0 F ?_;clear H;intro w H
   refine gg 1 ?_;clear F a;intro a F
   replace H:Own w0 none w [.blk a2 (EvT.mk (j:Int) e).cells 156,.blk t q.cells 148,.rws 156 7 (.slice c (V1 v (b.map PlP.path) j+i) d) ((UE v (b.map PlP.path) j++(thE j q.path).take i).map EvT.cells),.blk D (XdF (.slice c (V1 v (b.map PlP.path) j+i) d) n v (b.map PlP.path) j).cells 99,.blk y z 99]:=H
   refine cRegRO Y (H.sel [0,1,3,4] Z Z) ?_;replace H:=H.drew;refine Xb 0 Z F Z (λw=>rMv F Z) (H.sel [0,1,3,4] Z Z) qq0 (Xg 1 Z Z (λa F w=>rMv F Z) (H.sel [0,1,3,4] Z Z) qq0 (qT 2 Z Y Z Z Z Z (λa F w H=>rNc F Z) (H.sel [0,1,3,4] Z Z) qq0 (Xg 3 Z Z (λa F w=>rFa (f:=0) (k:=0) Yk Z sizeOf53 Z Z F Z) (H.sel [0,1,3,4] Z Z) qq0 (qT 4 Z Y Z Z Z Z (λa F w H=>rLd isAgg53 F Z (H.cell 2 Z Z)) (H.sel [0,1,3,4] Z Z) qq0 ?_))));clear F a;intro a F
   refine Xa (k:=5) (i:=5) Z F Z Z (λw H=>rLr Yf Z ?si F Z (H.whole 0 Z)) (H.sel [0,1,3,4] Z Z) (λ_ _ _ h=>h) ?_
   case si=>exact VT XG
   clear F a;intro a F;refine Xd (k:=6) (i:=6) Z F (oBsA H XK XG XO Z F Z Z Z Z ?_);clear F a H;intro aC a w F H;refine V6 (H.sel [1,2,4,5] Z Z) ?_
   refine Xd (k:=7) (i:=7) Z F (XlO (bytes:=16) H 3 XK typeInfo156 Z Z Z Z Z Z F Z Z Z Z (H.whole 0 Z) Z ?s1 ?s2 ?_)
   case s1=>rfl
   case s2=>(rw[a1];omega)
   clear F a H;intro W P a w F H;refine gg 3 ?_;clear F a;intro a F;refine Xd (k:=10) (i:=10) Z F (oSt H 4 sizeOf53 F Z Z Z Z Z ?_);clear H;intro w H;refine gg 2 ?_;clear F a;intro a F
   have T:(UE v (b.map PlP.path) j++(thE j q.path).take i).map EvT.cells++[(EvT.mk (j:Int) e).cells]=(UE v (b.map PlP.path) j++(thE j q.path).take (i+1)).map EvT.cells:=by rw[a6,<-AO,Ae (l₂:=[_])];rfl
   have Q:((UE v (b.map PlP.path) j++(thE j q.path).take i).map EvT.cells++[(EvT.mk (j:Int) e).cells]).length=V1 v (b.map PlP.path) j+(i+1):=by rw[AK,a1];rfl
   replace H:Own w0 none w [.blk aC (EvT.mk (j:Int) e).cells 156,.blk a2 (EvT.mk (j:Int) e).cells 156,.blk t q.cells 148,.rws 156 7 (.slice W ((UE v (b.map PlP.path) j++(thE j q.path).take i).map EvT.cells++[(EvT.mk (j:Int) e).cells]).length P) ((UE v (b.map PlP.path) j++(thE j q.path).take i).map EvT.cells++[(EvT.mk (j:Int) e).cells]),.blk D ((XdF (.slice c (V1 v (b.map PlP.path) j+i) d) n v (b.map PlP.path) j).cells.set 0 (.slice W ((UE v (b.map PlP.path) j++(thE j q.path).take i).map EvT.cells++[(EvT.mk (j:Int) e).cells]).length P)) 99,.blk y z 99]:=H
   rw[Q,T,XnD]at H;refine gg 4 ?_;clear F a;intro a F;rw[<-X]at F
   exact⟨_,O,_,⟨i+1,W,P,Z,Z,O,H.tail.tail⟩,F.tt⟩
  have U:i=q.path.evs.length:=O
  refine gg 2 ?_;clear F a;intro a F;subst U
  have a8:UE v (b.map PlP.path) j++(thE j q.path).take q.path.evs.length=UE v (b.map PlP.path) (j+1):=by rw[FD (by unfold thE;rw[AH];exact AI _),DR (N s)]
  rw[a8,<-u]at H
  have G:V1 v (b.map PlP.path) j<=48:=O
  refine zRO H ?_;clear H;intro H
  refine gg 6 ?_;clear F a;intro a F;refine Xd (k:=6) (i:=6) Z F (UK call116 F Z Z (Xrb (H.blk 2 Z) (Qy H 2 Z J.data Xdt) (by have:=L.dataN;omega) (λp hp=>by have:=L.data p hp;omega) G) ?_);rintro e w ⟨rfl,E⟩
  replace H:=H.turned 2 Z E;clear E
  refine zq ?_;clear F a;intro a F;refine gg 3 ?_;clear F a;intro a F
  refine zRO H ?_;clear H;intro H
  refine gg 6 ?_;clear F a;intro a F;refine Xd (k:=6) (i:=6) Z F (UK call116 F Z Z (Xrc (H.blk 2 Z) (Qy H 2 Z J.ctrl Xdt) (by have:=L.ctrlN;omega) (λp hp=>by have:=L.ctrl p hp;omega) G) ?_);rintro e w ⟨rfl,E⟩
  replace H:=H.turned 2 Z E;clear E
  refine zq ?_;clear F a;intro a F;refine gg 3 ?_;clear F a;intro a F
  refine zRO H ?_;clear H;intro H
  refine gg 6 ?_;clear F a;intro a F;refine Xd (k:=6) (i:=6) Z F (UK call116 F Z Z (Xra (H.blk 2 Z) (Qy H 2 Z J.rmw Xdt) (by have:=L.rmwN;omega) (λp hp=>by have:=L.rmw p hp;omega) G) ?_);rintro e w ⟨rfl,E⟩
  replace H:=H.turned 2 Z E;clear E
  refine zq ?_;clear F a;intro a F;refine gg 2 ?_;clear F a;intro a F
  refine zRO H ?_;clear H;intro H
  refine gg 3 ?_;clear F a;intro a F;refine Xe 3 Z F Z Z (λw H=>L3 XI Z XF F Z (show World.rangeAt _ t (0+4) (bs 8 q.path.regs)from H.range 0 Z 4 8)) H qq0 ?_;clear F a;intro a F;refine gg 4 ?_;clear F a;intro a F
  refine Xd (k:=8) (i:=8) Z F (oSr H 2 ?si F Z Z ?s1 Z (by rw[Mx.len,bs_length];exact FR O) ?_)
  case si=>rw[bs_length];exact VT XF
  case s1=>exact Xcx _ _
  clear H;intro w H;refine gg 2 ?_;clear F a;intro a F
  replace H:Own w0 none w [.blk t q.cells 148,.rws 156 7 (.slice c (V1 v (b.map PlP.path) (j+1)) d) ((UE v (b.map PlP.path) (j+1)).map EvT.cells),.blk D (VZ (midP (XdF (.slice c (V1 v (b.map PlP.path) (j+1)) d) n v (b.map PlP.path) j) (V1 v (b.map PlP.path) j) q.path).cells (295+j*8) (bs 8 q.path.regs)) 99,.blk y z 99]:=H
  rw[XlV (N s) O]at H;refine gg 4 ?_;clear F a;intro a F
  exact⟨_,O,_,⟨j+1,c,d,Z,Z,O,H.tail⟩,F.tt⟩
 have o:j=b.length:=O
 subst o;subst V;refine gg 8 ?_;clear F a;intro a F
 refine zCa F (Xnu c d (UE v (b.map PlP.path) b.length) _ (H.rowsAt 0 Z Xpx O) (by unfold V1 at I;omega)) H ?_;clear F a H;intro a w F H
 refine gg 2 ?_;clear F a;intro a F
 refine sSr H 1 ?si F Z Z Z ?s1 Z (by rw[Mx.len,Rl.len];rfl) ?_
 case si=>rw[Rl.len];exact VT Xt
 case s1=>exact Gr _
 clear H;intro w H;refine gg 1 ?_;clear F a;intro a F
 replace H:Own w0 none w [.rws 156 7 (.slice c (V1 v (b.map PlP.path) b.length) d) ((UE v (b.map PlP.path) b.length).map EvT.cells),.blk D (VZ (XdF (.slice c (V1 v (b.map PlP.path) b.length) d) (V1 v (b.map PlP.path) b.length) v (b.map PlP.path) b.length).cells 1 (poR (UE v (b.map PlP.path) b.length)).cells) 99,.blk y z 99]:=H
 rw[mx_po]at H;refine gg 5 ?_;clear F a;intro a F;refine zLd F (H.arg hL) ?_;clear F a;intro a F;refine gg 1 ?_;clear F a;intro a F;refine Xi call117 F Z (Xct D _ c d v.length (UE v (b.map PlP.path) b.length) _ Z (H.blk 1 Z) (Xdj H 0 1 Z Z Xpx O (by decide)) hv.2 (by unfold V1 at I;omega) (Xj2 hv.2 (λq hq=>by obtain⟨x,hx,rfl⟩:=AT.1 hq;exact hg x hx) _)) ?_;rintro e w ⟨rfl,ws,ss,A1,A2,c1,c2,g,a3,u,E⟩
 replace H:=(H.redo 1 Z E).perm Fe
 clear E
 replace H:Own w0 none w ([.rws 156 7 (.slice c (V1 v (b.map PlP.path) b.length) d) ((UE v (b.map PlP.path) b.length).map EvT.cells),.blk D (Mx.mk {(XdF (.slice c (V1 v (b.map PlP.path) b.length) d) (V1 v (b.map PlP.path) b.length) v (b.map PlP.path) b.length).x with po:=poR (UE v (b.map PlP.path) b.length)} (.slice A1 (rdL (UE v (b.map PlP.path) b.length)).length c1) (.slice A2 ss.length c2) (Vd g 0 v.length v.length)).cells 99,.blk y z 99]++_):=H
 refine zq ?_;clear F a;intro a F;refine gg 3 ?_;clear F a;intro a F
 refine sLr Ya Z ?si F Z Z Z (H.whole 1 Z) ?_
 case si=>rw[Mx.len];exact VT Yj
 clear F a;intro a F
 refine sSr H 2 ?si F Z Z Z ?s1 Z (by rw[K,Mx.len];rfl) ?_
 case si=>rw[Mx.len];exact VT Yj
 case s1=>exact XbD Z Z Z Z
 clear H;intro w H;refine gg 2 ?_;clear F a;intro a F;rw[Xh5 K]at H;refine gg 1 ?_;clear F a;intro a F;refine Cq results60 F Z Z Ya Z H 2 Z Yj (by rw[Mx.len];rfl) ?_
 (unfold Bh
  rw[B,if_neg O]
  refine⟨⟨b.map PlP.path,c,d,A1,c1,A2,c2,g,ws,ss⟩,Z,?_,?_,?_⟩
  ·unfold MxP.ok MxP.evs
   rw[B];exact⟨a3,u⟩
  ·unfold MxP.cells MxP.evs XkE
   rw[B];rfl
  ·unfold MxP.res MxP.evs
   rw[B]
   exact((H.swapN 1 2).tail.tail).swapN 1 3)
structure XcV where
 evs:List EvT
 po:Rl
 rf:Rl
 co:Rl
 da:Rl
 ct:Rl
 rm:Rl
 fi:By
def XcV.at(x:XcV)(A:Option Addr)(c:Nat):Xc:=⟨.slice A x.evs.length c,x.po,x.rf,x.co,x.da,x.ct,x.rm,x.fi⟩
structure XcP where
 v:XcV
 A:Option Addr
 c:Nat
def XcP.cells(x:XcP):List Value:=(x.v.at x.A x.c).cells
def XcP.part(x:XcP):Res:=.rws 156 7 (.slice x.A x.v.evs.length x.c) (x.v.evs.map EvT.cells)
def Ej(p:Rl×UInt64)(l:List Nat):Rl×UInt64:=l.foldl (λp x=>(p.1.put x p.2,p.2|||bit x)) p
def XbQ(q:Rl)(l:List Nat):Rl:=(Ej (q,0) l.reverse).1
theorem Xaj{pre post:List Value}{off:Nat}(b:pre.length=off):∀(l:List Nat)(q:Rl)(s:UInt64),(∀x∈l,x<48)->l.foldl (λp x=>(p.1.set (off+1+x) (d8 p.2),p.2|||bit x)) (pre++(q.cells++post),s)=(pre++((Ej (q,s) l).1.cells++post),(Ej (q,s) l).2)
 | [],_,_,_=>rfl
 |x::l,q,s,h=>by
  rw[Fa,Xda b (h x (by simp)),Xaj b l _ _ (λy c=>h y (by simp[c]))];rfl
theorem Xjo:∀(l:List Nat)(p:Rl×UInt64),(Ej p l).1.n=p.1.n
 | [],_=>rfl
 |x::l,p=>(Xjo l (p.1.put x p.2,p.2|||bit x)).trans rfl
theorem Xpd(q:Rl)(l:List Nat):(XbQ q l).n=q.n:=Xjo _ _
def GG(b:List Nat):List (List Nat):=(Xds b.length).map λo=>o.map λk=>b.getD k 0
theorem MA{b o:List Nat}(c:b.length<=48)(h:o∈GG b):o.Perm b:=by
 obtain⟨k,d,rfl⟩:=AT.1 h
 refine((Xdr c d).map _).trans (List.Perm.of_eq ?_)
 refine Ar λi=>?_
 rw[AD]
 rcases AN i b.length with h1|h1
 ·rw[Av h1,H7,AS,AA h1];rfl
 ·rw[AV (by simpa using h1),AV h1];rfl
section
variable(E:List EvT)(n:Nat)(d:List Nat)
def Gv:List (List Nat):=(rdL E).map (QQ E)
def Qn:List (List Nat):=(List.range n).map (wrL E)
def szL:List Nat:=(Gv E).map List.length++(Qn E n).map λw=>(GG w).length
def Xbh(i:Nat):Nat:=((Gv E).getD i []).getD (d.getD i 0) 0
def rkD(l:Nat):List Nat:=(GG ((Qn E n).getD l [])).getD (d.getD ((rdL E).length+l) 0) []
def rfJ:Nat->Rl
 |0=>zR E.length
 |j+1=>(rfJ j).put (Xbh E d j) ((rfJ j).to (Xbh E d j)|||bit ((rdL E).getD j 0))
def coJ:Nat->Rl
 |0=>zR E.length
 |l+1=>XbQ (coJ l) (rkD E n d l)
def Bn(l:List Nat):UInt8:=match E[l.getD (l.length-1) 0]? with|some e=>e.ev.val|none=>0
def fiJ(f:By):Nat->By
 |0=>f
 |l+1=>put (fiJ f l) (32+l) (Bn E (rkD E n d l))
end
def Uq(v:List UInt8)(ps:List PathP)(d:List Nat):XcV:=
 let E:=UE v ps ps.length
 ⟨E,poR E,rfJ E d (rdL E).length,coJ E v.length d v.length,rlK E.length v ps PathP.data ps.length,rlK E.length v ps PathP.ctrl ps.length,rlK E.length v ps PathP.rmw ps.length,fiJ E v.length d (fiK ps ps.length) v.length⟩
def UG(v:List UInt8)(ps:List PathP):List XcV:=(JA (szL (UE v ps ps.length) v.length)).map (Uq v ps)
structure MixAt (w:World) (b o:Nat) (v:List UInt8) (q:MxP):Prop where
 cells:w.rangeAt b o (q.cells v)
 evs:RowsAt w q.A 7 ((q.evs v).map EvT.cells)
 rd:RowsAt w q.A1 1 (Uo (rdL (q.evs v)))
 sr:RowsAt w q.A2 1 (q.ss.map Ln.hd)
 srs:∀x∈q.ss,RowsAt w x.A 1 (Uo x.l)
 wr:RowsAt w (some ⟨q.g,0,none⟩) 1 (q.ws.map Ln.hd)
 wrs:∀x∈q.ws,RowsAt w x.A 1 (Uo x.l)
theorem XcP.len(x:XcP):x.cells.length=333:=Xc.len _
theorem XcP.one(x:XcP):x.cells.all (·.oneCell')=true:=Xe2 Z
theorem Xh4{c:List Value}{x:XcP}(h:c.length=333):VZ c 0 x.cells=x.cells:=Ju (by rw[h,XcP.len])
theorem XmE{l:List EvT}:∀r∈l.map EvT.cells,r.all (·.oneCell')=true:=λr b=>by obtain⟨x,_,rfl⟩:=AT.1 b;rfl
theorem retMT{P:Program}{d:Func}{R:Ending->World->Prop}{N:Nat}{a:Act}{b:List (Nat×Value)}{t:Tmp}{v:Value}(c:d.results=#[.tmp t])(F:Has N a b)(e:lk b t=some v)(h:R (.returned v) w):LeavesInM Fence.wide 0 P d a.tmps R [] .returning w:=
 ⟨v,by rw[results_tmp c,F.get t v e],h⟩
theorem Xg3(A:Option Addr)(C:Nat)(l:List EvT)(w0:World)(j:RowsAt w0 A 7 (l.map EvT.cells))(s:l.length<=1000000):
 Calls prog 63 #[.slice A l.length C] w0 λe m=>∃i d,e=.returned (.slice i l.length d)/\Own w0 none m [.rws 156 7 (.slice i l.length d) (l.map EvT.cells)]:=by
 refine Vb func63 ntmps63 λH a F=>?_
 refine gg 8 λa F=>?_
 refine Xh F Z Z (bNil underlying53) λa F=>?_
 refine gg 1 λa F=>?_
 refine cIf F Z (λc=>?_) (λc=>?_)
 ·
  obtain rfl:A=none:=by cases A with|none=>rfl|some a=>cases c
  obtain rfl:l=[]:=by
   cases l with
   |nil=>rfl
   |cons r p=>
   obtain⟨b,o,n,_⟩:=j 0 _ Z
   cases n
  refine gg 6 λa F=>?_
  exact⟨none,0,Z,H.nilRws 156 7⟩
 obtain⟨g,rfl⟩:∃g,A=some g:=by cases A with|none=>cases c|some a=>exact⟨a,Z⟩
 refine gg 3 λa F=>?_
 refine sBs (cs:=[]) H underlying53 sizeOf156 zeroValue156 Z F Z Z Z Z Z λq a w F H=>?_
 replace H:=H.emptyRws 7
 refine gg 1 λa F=>?_
 refine Xli (bytes:=16) H 0 underlying53 typeInfo156 Z Z Z Z Z Z F Z Z Z Z Z (by simp) (((j.own H).flat Xpx)) (Xpx) (XmE) ((by(simp;omega))) λu t a w F H=>?_
 refine gg 4 λa F=>?_
 (simp only[FI,AH]at H
  exact⟨_,_,by simp only[FI,AH],H.pick 0 Z⟩)
def YX(x:XcV)(b:List Value)(e d:List Res):Prop:=∃A c,b=[.agg (XcP.mk x A c).cells.toArray]/\e=[(XcP.mk x A c).part]/\d=[]
namespace Md
theorem appendSeq_any(A:Option Addr)(C E:Nat)(lb:Array Value)(d:List XcP)(G:List XcV)(w0:World)(X:d.length+G.length<=1000000)(T:List Res)(U:World)(H0:Own w0 none U (.rws 65 333 (.slice A d.length C) (d.map XcP.cells)::T))(L:XkT prog E lb YX G w0 none T)(s:∀g w,(callFunc E g).run prog w=.ok (.enter E g) w):
 Calls prog 35 #[.slice A d.length C,.func (.func E) #[] lb] U λe w'=>∃(zs:List XcP)(m:Option Addr)(j:Nat),zs.map XcP.v=G/\e=.returned (.slice m (d++zs).length j)/\Own w0 none w' (.rws 65 333 (.slice m (d++zs).length j) ((d++zs).map XcP.cells)::(zs.map XcP.part++T)):=by
 have H:=H0
 refine Ec func35 Z ntmps35 Z (λa F=>?_)
 refine gg 2 λa F=>?_
 refine zBx H F λb2 a w F H=>?_
 refine gg 8 λa F=>?_
 have S:=H
 refine XoN (pl:=[7]) 2 F (by decide) (λ_ _ _ _ h=>by obtain⟨_,_,h,_⟩:=h;rw[h];rfl) Z (s) S (L) (λp n=>∃(zs:List XcP)(m:Option Addr)(j:Nat),zs.map XcP.v=p/\n=.blk b2 [.slice m (d++zs).length j] 50:: .rws 65 333 (.slice m (d++zs).length j) ((d++zs).map XcP.cells)::zs.map XcP.part) (λ_ _ _=>False) (⟨[],A,C,Z,by rw[Ak];rfl⟩) (λW z ad=>∃b B,ad=[(5,Vc b 0)]/\W=[.agg (List.toArray B)]/\z=[.blk b B 65]) ?_ ?_ ?_ ?_
 ·
  clear S H F a;intro I a w W d K J q t H hK
  obtain⟨v0,rfl⟩:=XgI J
  obtain⟨x9,a2,a1,r,o,P, -, -⟩:=q
  obtain rfl:=(List.cons.inj P).1
  refine Md.cReg ?_;refine sAl H zeroValue65 t Z Z λV a w t H=>?_;rw[Li]at H
  refine sSr H 0 ?si t Z Z Z ?s1 Z (by rw[Xc.len,XcP.len];rfl) ?_
  case si=>rw[XcP.len];exact VT sizeOf65
  case s1=>exact XcP.one _
  clear H;intro w H;rw[Xh4 (Xc.len _)]at H
  refine Md.sNil ?_ t
  exact hK _ _ [_] [_] ⟨V,_,Z,Z,Z⟩ t H
 ·
  clear S H F a;intro I p x g yr yk z ad w a5 qs a y u q M H F
  obtain⟨zs,m,j,i,rfl⟩:=y
  obtain⟨r,o,rfl,rfl,rfl⟩:=q
  obtain⟨V,B,rfl,R,rfl⟩:=M
  obtain rfl:(XcP.mk x r o).cells=B:=by
   have h1:=congrArg Array.toList (Value.agg.inj (List.cons.inj R).1)
   exact h1
  have a4:zs.length<G.length:=by
   have:=u.length_le
   rw[AK,<-i,AH]at this;exact this
  refine gg 3 λa F=>?_
  refine sLr underlying65 Z ?si F Z Z Z (H.whole 0 Z) ?_
  case si=>rw[XcP.len];exact VT sizeOf65
  clear F a;intro a F;refine XeM H underlying50 sizeOf65 zeroValue65 Z F Z Z Z (by rw[XcP.len]) Z λa3 a w F H=>?_
  refine G7 (bytes:=2416) H 4 underlying50 typeInfo65 Z Z Z Z Z Z F Z Z Z Z Z (H.whole 0 Z) Z ?s1 ?s2 ?_
  case s1=>exact XcP.one _
  case s2=>(rw[AH,AK];omega)
  clear F a H;intro Q N a w F H
  refine zSt H 3 F λw H=>?_
  refine gg 1 λa F=>?_
  repeat(first|rw[if_pos rfl]|rw[if_neg (by decide)])
  have e1:(d++zs).map XcP.cells++[(XcP.mk x r o).cells]=(d++(zs++[XcP.mk x r o])).map XcP.cells:=by simp
  have e2:((d++zs).map XcP.cells++[(XcP.mk x r o).cells]).length=(d++(zs++[XcP.mk x r o])).length:=by simp
  rw[e2,e1]at H
  exact Xbt _ ⟨zs++[XcP.mk x r o],Q,N,by rw[Ae,i];rfl,Z⟩ (Own.addN (part:=XcP.part) (hd:=[_,_]) H.tail.tail)
 ·
  intro D w n y H
  obtain⟨zs,m,j,i,rfl⟩:=y
  refine gg 6 λa F=>?_
  refine XcN ?_;refine LD H 0 Z λw H=>?_;refine retMT results35 F Z ?_
  exact⟨zs,m,j,i,Z,H.tail.tail⟩
 ·
  intro D c p w n u y H
  exact y.elim
end Md
end Go.Proofs.YtajfpcgbnflceaaGreatDoor
