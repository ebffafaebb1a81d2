/- WALK2. Package rel: Top, Acyclic, From, Empty. Conditions: the relation is valid; the table of trailing zeros lies in memory. -/
import Derived.Test.YtajfpcgbnflceaaGreatDoorJn7
set_option linter.unusedSimpArgs false
set_option linter.unusedVariables false
namespace Go.Proofs.YtajfpcgbnflceaaGreatDoor
open Go.Proofs.Tryz
open Go.RowKit
set_option maxRecDepth 100000
set_option maxHeartbeats 4000000
variable{b c g n x:Nat}{cs:List Value}{e t:TypeId}{l:List Nat}{qs:List Res}{r:Rl}{ti:TypeInfo}{v:Value}{w:World}
theorem Xc5(o:OkR r):Taken r (QN (r.n:Int)) 0 (λ_=>0):=⟨λi d=>by
 rw[Jp o.n48]at d;simpa using d,λ_ _=>Nat.zero_lt_one,λa b c e=>by
 rw[Jp o.n48,decide_eq_true (o.lt a b c).2]at e;cases e⟩
abbrev Uo(l:List Nat):List (List Value):=l.map λx:Nat=>[.int .i64 (x:Int)]
theorem Xor(r:Rl)(w0:World)(o:OkR r)(T:Tab6At w0):
 Calls prog 129 #[.agg r.cells.toArray] w0 λe w'=>∃(v:Value)(c:Bool),e=.returned (.tuple #[v,.bool c])/\(c=true↔Acy r)/\Below w0.heap.size w0 w':=by
 have H:=Own.start w0 none
 have hn:=o.n48
 refine VU func129 Z ntmps129 Z (λa F=>?_)
 refine gg 2 λa F=>?_
 refine zBx H F λD a w F H=>?_
 refine gg 3 λa F=>?_
 replace H:Own w0 none w [.blk D r.cells 58]:=H
 refine gg 4 λa F=>?_
 refine zCa F (G8 r _ o) H λa w F H=>?_
 refine gg 3 λa F=>zi (λu=>?_) λu=>?_
 ·
  cases u
 refine gg 4 λa F=>?_
 refine Xi call122 F Z (M9 r _ o (T.own H)) ?_;rintro e w ⟨q,R,rfl,j⟩;replace H:=H.grow j;clear j
 refine zq λa F=>?_
 refine zAl zeroValue58 H F λz a w F H=>?_
 refine sSr H 0 ?si F Z Z Z ?s1 Z Z ?_
 case si=>exact VT sizeOf58
 case s1=>rfl
 clear H;intro w H
 refine gg 1 λa F=>?_
 replace H:Own w0 none w [.blk z (VZ (zR 0).cells 0 q.cells) 58,.blk D r.cells 58]:=H
 rw[Us (Rl.len _)]at H
 refine gg 4 λa F=>?_
 refine zCa F (LU _ _) H λa w F H=>?_
 refine gg 6 λa F=>?_
 refine sMkC (bytes:=8) (sz:=1) H underlying70 typeInfo3 Z Z Z F Z Z Z Z O (by(simp only[maxLen];omega)) λM a w F H=>?_
 refine gg 4 λa F=>?_
 refine cLoopS [4] (λm t w=>∃(s:UInt64)(k:Nat)(ρ:Nat->Nat)(l:List Nat)(A:Option Addr)(C n:Nat),m=(els s).length/\t=[(5,d8 s),(6,.slice A n C)]/\n=(Uo l).length/\Taken r s k ρ/\l.length+(els s).length<=64/\Own w0 none w [.rws 3 1 (.slice A n C) (Uo l),.blk z q.cells 58,.blk D r.cells 58]) F ((els (QN (r.n:Int))).length) [(5,d8 (QN (r.n:Int))),(6,Vd M 0 0 r.n)] ?_ ?_
 ·exact⟨_,0,_,[],_,_,0,Z,Z,Z,Xc5 o,by have:=@Cg (QN (r.n:Int));simpa using this,H⟩
 clear F H;intro m t a w W F
 obtain⟨s,k,ρ,l,A,C,n,rfl,rfl,rfl,B,P,H⟩:=W
 refine gg 4 λa F=>?_
 refine Xh F Z Z (Be (y:=0)) λa F=>?_
 refine gg 2 λa F=>zi (λd=>?_) λd=>?_
 ·
  refine gg 5 λa F=>?_
  refine Xi call181 F Z (Xmn z q s _ (H.whole 1 Z) (λa V=>by have:=B.sub a V;omega) (T.own H)) ?_;rintro e w ⟨x,S,rfl,Q,j⟩;replace H:=H.grow j;clear j
  refine zq λa F=>?_
  refine gg 13 λa F=>zi (λg=>?_) λg=>?_
  ·
   have L:S=false:=g
   refine gg 6 λa F=>?_
   refine Gy results129 F Z Z ?_
   (refine⟨_,false,Z,⟨λh=>(by cases h),λh=>?_⟩,H.below⟩
    exact absurd h (Xo0 R d (Q.2 L)))
  have L:S=true:=g
  obtain⟨J,K⟩:=Q.1 L
  have X:=Xj5 J
  have U:=B.sub x J
  refine gg 5 λa F=>?_
  refine XeN H underlying70 sizeOf3 zeroValue3 Z F Z Z Z Z λG a w F H=>?_
  refine G7 (bytes:=8) H 1 underlying70 typeInfo3 Z Z Z Z Z Z F Z Z Z Z Z (H.whole 0 Z) Z ?s1 ?s2 ?_
  case s1=>rfl
  case s2=>(simp only[Uo,AH];omega)
  clear F a H;intro p i a w F H
  refine gg 5 λa F=>?_
  refine Xh F Z Z (Xef ?_) ?_
  focus omega
  clear F a;intro a F;refine Xh F Z Z (Xhc) λa F=>?_
  refine gg 2 λa F=>?_
  replace H:Own w0 none w [.blk G [Ve (x:Int)] 3,.rws 3 1 (.slice p (Uo l++[[Ve (x:Int)]]).length i) (Uo l++[[Ve (x:Int)]]),.blk z q.cells 58,.blk D r.cells 58]:=H
  have N:Uo l++[[Ve (x:Int)]]=Uo (l++[x]):=by simp[Uo]
  refine⟨_,X,_,⟨del s x,k+1,_,l++[x],p,i,(Uo l++[[Ve (x:Int)]]).length,Z,Z,by rw[N],B.step o R J K,by simp;omega,?_⟩,F.tt⟩
  have:=H.sel [1,2,3] Z Z
  rw[<-N]
  exact this
 have E:s=0:=by simpa using d
 refine gg 8 λa F=>?_
 refine Gy results129 F Z Z ?_
 (refine⟨_,true,Z,⟨λ_=>⟨ρ,λa b I=>?_⟩,λ_=>rfl⟩,H.below⟩
  subst E
  exact(B.ord a b I V8).2)
theorem Mg(r:Rl)(w0:World)(o:OkR r)(g:Tab6At w0):
 Calls prog 77 #[.agg r.cells.toArray] w0 λe m=>∃c:Bool,e=.returned (.bool c)/\(c=true↔Acy r)/\Below w0.heap.size w0 m:=by
 refine Vb func77 ntmps77 λH a F=>?_
 refine gg 2 λa F=>?_
 refine zBx H F λj a w F H=>?_
 refine gg 2 λa F=>?_
 replace H:Own w0 none w [.blk j r.cells 58]:=H
 refine gg 3 λa F=>?_
 refine Xi call129 F Z (Xor r _ o (g.own H)) ?_;rintro e w ⟨v,d,rfl,i,b⟩;replace H:=H.grow b;clear b
 refine zq λa F=>?_
 refine gg 13 λa F=>?_
 exact⟨d,Z,i,H.below⟩
theorem Xmm(r:Rl)(w0:World)(o:OkR r):Calls prog 135 #[.agg r.cells.toArray] w0 λe v=>∃s:UInt64,e=.returned (d8 s)/\(s=0↔∀a,a<r.n->r.to a=0)/\Below w0.heap.size w0 v:=by
 have H:=Own.start w0 none
 have B:=o.n48
 refine VU func135 Z ntmps135 Z (λa F=>?_)
 refine gg 2 λa F=>?_
 refine zBx H F λi a w F H=>?_
 refine gg 2 λa F=>?_
 replace H:Own w0 none w [.blk i r.cells 58]:=H
 refine gg 4 λa F=>?_
 refine zCa F (G8 r _ o) H λa w F H=>?_
 refine gg 3 λa F=>zi (λq=>?_) λq=>?_
 ·
  cases q
 refine gg 13 λa F=>?_
 refine cLoopS [1,9] (λm c w=>∃(j:Nat)(z:UInt64),m=r.n-j/\c=[(3,d8 z),(10,Ve ((j:Nat):Int))]/\j<=r.n/\(z=0↔∀a,a<j->r.to a=0)/\Own w0 none w [.blk i r.cells 58]) F (r.n) [(3,d8 0),(10,Ve ((0:Nat):Int))] ?_ ?_
 ·exact⟨0,0,Z,Z,O,⟨λ_ a d=>absurd d O,λ_=>rfl⟩,H⟩
 clear F H;intro m c a w u F
 obtain⟨j,z,rfl,rfl,A,p,H⟩:=u
 refine gg 6 λa F=>zi (λg=>?_) λg=>?_
 ·
  refine gg 13 λa F=>?_
  refine sLd isAgg55 F Z Z Z (H.cell 0 Z (Qw O)) (Ei Z Z Z Z (Be (y:=0)) λa F=>?_)
  refine gg 2 λa F=>zi (λb=>?_) λb=>?_
  ·
   refine gg 3 λa F=>?_
   refine Xh F Z Z (Xef ?_) ?_
   focus omega
   clear F a;intro a F;refine Xh F Z Z (XcF) λa F=>?_
   refine gg 6 λa F=>?_
   (refine⟨_,O,_,⟨j+1,z|||bit j,rfl,rfl,O,⟨λh=>?_,λh=>absurd (h j O) b⟩,H⟩,F.tt⟩
    have t:has (z|||bit j) j=true:=by rw[GR,Gx O];simp
    rw[h,V8]at t;cases t)
  refine gg 5 λa F=>?_
  (refine⟨_,O,_,⟨j+1,z,Z,Z,O,p.trans ⟨λh a d=>?_,λh a d=>h a O⟩,H⟩,F.tt⟩
   by_cases e:a=j
   ·subst e;exact b
   ·exact h a O)
 obtain rfl:j=r.n:=O
 refine gg 8 λa F=>?_
 exact⟨z,Z,p,H.below⟩
theorem Xj4(r:Rl)(w0:World)(o:OkR r):Calls prog 81 #[.agg r.cells.toArray] w0 λe p=>∃c:Bool,e=.returned (.bool c)/\(c=true↔∀a b,r.has a b=false)/\Below w0.heap.size w0 p:=by
 have H:=Own.start w0 none
 have d:(∀a,a<r.n->r.to a=0)↔∀a b,r.has a b=false:=⟨λh a b=>by
  rcases AN a r.n with h1|h1
  ·unfold Rl.has;rw[h a h1,V8]
  ·unfold Rl.has;rw[o.out h1,V8],λh a _=>GZ λi=>h a i⟩
 refine VU func81 Z ntmps81 Z (λa F=>?_)
 refine gg 2 λa F=>?_
 refine zBx H F λm a w F H=>?_
 refine gg 2 λa F=>?_
 replace H:Own w0 none w [.blk m r.cells 58]:=H
 refine gg 3 λa F=>?_
 refine zCa F (G8 r _ o) H λa w F H=>?_
 refine gg 1 λa F=>?_
 refine F.split 5 Z (λq F=>?_) λq F=>?_
 ·
  refine gg 1 λa F=>?_
  refine Xi call135 F Z (Xmm r _ o) ?_;rintro e w ⟨s,rfl,j,g⟩;replace H:=H.grow g;clear g
  refine zq λa F=>?_
  refine Xh F Z Z (XaS (y:=0)) λa F=>?_
  refine gg 5 λa F=>?_
  exact⟨_,Z,by rw[beq_iff_eq];exact j.trans d,H.below⟩
 cases q
theorem XrQ(i b:Nat)(s:UInt64)(w0:World)(g:w0.cell? ⟨b,0,none⟩=some (d8 s))(d:i<48):
 Va 228 #[Ve (i:Int),Vc b 0] w0 (d8 (s&&&bit i)):=by
 refine Vb func228 ntmps228 λH a F=>?_
 refine gg 5 λa F=>?_
 refine zRO H λH=>?_
 refine gg 2 λa F=>?_
 refine Xf (k:=2) (i:=2) Z F Z (λw=>Gt F Z Z (Xef ?_)) H (λ_ _ _ h=>h) ?_
 focus omega
 clear F a;intro a F;refine Xb 3 Z F Z (λw=>Gt F Z Z (NI)) H qq0 λa F=>?_
 refine gg 4 λa F=>?_
 exact⟨Z,H.below⟩
theorem Xki(i c d:Nat)(s t:UInt64)(w0:World)(n:w0.cell? ⟨c,0,none⟩=some (d8 s))(j:w0.cell? ⟨d,0,none⟩=some (d8 t))(m:i<48):
 Va 175 #[Ve (i:Int),Vc c 0,Vc d 0] w0 (d8 (if has s i=true then t else 0)):=by
 refine Vb func175 ntmps175 λH a F=>?_
 refine gg 9 λa F=>?_
 refine Xh F Z Z (Xm6 ?_) ?_
 focus omega
 clear F a;intro a F;refine Xh F Z Z (NI (y:=1)) (Ei Z Z Z Z (XaS (y:=0)) λa F=>?_)
 refine gg 2 λa F=>zi (λb=>?_) λb=>?_
 ·
  refine gg 6 λa F=>?_
  refine⟨?_,H.below⟩
  (rw[shr_zero.1 b];rfl)
 refine gg 8 λa F=>?_
 refine⟨?_,H.below⟩
 (rw[if_pos (by cases e:has s i with|true=>rfl|false=>exact(b (shr_zero.2 e)).elim)])
theorem XnK(n:Nat)(s:UInt64)(w0:World)(m:n<=48):Va 184 #[Ve (n:Int),d8 s] w0 (.agg (rlF n λi=>s&&&bit i).cells.toArray):=by
 refine Vb func184 ntmps184 λH a F=>?_
 refine gg 2 λa F=>?_
 refine zBx H F λb a w F H=>?_
 refine zAl zeroValue58 H F λd a w F H=>?_
 refine gg 1 λa F=>?_
 replace H:Own w0 none w [.blk d (zR 0).cells 58,.blk b [d8 s] 55]:=H
 refine gg 6 λa F=>?_
 refine zSp 7 F (λp F=>?_) λp F=>?_
 ·
  omega
 refine gg 5 λa F=>zi (λc=>?_) λc=>?_
 ·
  omega
 refine gg 5 λa F=>?_
 refine zCa F (D9 n _ (λi=>s&&&bit i) _ m (λi w o g=>⟨228,[],[Vc b 0],Z,call228,XrQ i b s w ((H.grow g).cell 1 Z Z) O⟩)) H λa w F H=>?_
 refine sSr H 0 ?si F Z Z Z ?s1 Z Z ?_
 case si=>exact VT sizeOf58
 case s1=>rfl
 clear H;intro w H
 refine gg 1 λa F=>?_
 replace H:Own w0 none w [.blk d (VZ (zR 0).cells 0 (rlF n λi=>s&&&bit i).cells) 58,.blk b [d8 s] 55]:=H
 rw[Us (Rl.len _)]at H
 refine gg 1 λa F=>?_
 refine Nf results184 F Z underlying58 Z H 0 Z sizeOf58 Z ?_
 exact⟨Z,H.below⟩
theorem Xkj(n:Nat)(s t:UInt64)(w0:World)(o:n<=48):Va 119 #[Ve (n:Int),d8 s,d8 t] w0 (.agg (rlF n λi=>if has s i=true then t&&&QN (n:Int)else 0).cells.toArray):=by
 refine Vb func119 ntmps119 λH a F=>?_
 refine gg 2 λa F=>?_
 refine zBx H F λb a w F H=>?_
 refine zBx H F λc a w F H=>?_
 refine zAl zeroValue58 H F λg a w F H=>?_
 refine gg 1 λa F=>?_
 replace H:Own w0 none w [.blk g (zR 0).cells 58,.blk c [d8 t] 55,.blk b [d8 s] 55]:=H
 refine gg 6 λa F=>?_
 refine zSp 9 F (λq F=>?_) λq F=>?_
 ·
  omega
 refine gg 5 λa F=>zi (λd=>?_) λd=>?_
 ·
  omega
 refine gg 2 λa F=>?_
 refine zRO H λH=>?_
 refine gg 2 λa F=>?_
 refine zEc 2 F (LU _ _) H λa w F H=>?_
 refine V6 H ?_;refine Xb 3 Z F Z (λw=>Gt F Z Z (NI)) H qq0 λa F=>?_;refine Xd (k:=4) (i:=4) Z F (oSt H 1 sizeOf55 F Z Z Z Z Z λw H=>?_)
 refine gg 6 λa F=>?_
 refine zCa F (D9 n _ (λi=>if has s i=true then t&&&QN (n:Int)else 0) _ o (λi w p j=>⟨175,[],[Vc b 0,Vc c 0],Z,call175,Xki i b c s _ w ((H.grow j).cell 2 Z Z) ((H.grow j).cell 1 Z Z) O⟩)) H λa w F H=>?_
 refine sSr H 0 ?si F Z Z Z ?s1 Z Z ?_
 case si=>exact VT sizeOf58
 case s1=>rfl
 clear H;intro w H
 refine gg 1 λa F=>?_
 replace H:Own w0 none w [.blk g (VZ (zR 0).cells 0 (rlF n λi=>if has s i=true then t&&&QN (n:Int)else 0).cells) 58,.blk c [d8 (t&&&QN (n:Int))] 55,.blk b [d8 s] 55]:=H
 rw[Us (Rl.len _)]at H
 refine gg 1 λa F=>?_
 refine Nf results119 F Z underlying58 Z H 0 Z sizeOf58 Z ?_
 exact⟨Z,H.below⟩
def ofW(l:List Nat):UInt64:=l.foldl (λs i=>s|||bit i) 0
theorem Xfn{b:Nat}:∀(l:List Nat)(z:UInt64),(∀i∈l,i<64)->has (l.foldl (λs i=>s|||bit i) z) b=(has z b||decide (b∈l))
 | [],z,_=>by simp
 |a::l,z,h=>by
  rw[Fa,Xfn l _ (λi c=>h i (by simp[c])),GR,Gx (h a (by simp))]
  by_cases e:a=b
  ·subst e;simp
  ·simp[e,Ne.symm e]
theorem XdP(h:∀i∈l,i<64):has (ofW l) b=decide (b∈l):=by unfold ofW;rw[Xfn l _ h,V8];rfl
theorem XlM:ofW (l++[x])=ofW l|||bit x:=by unfold ofW;rw[Fs];rfl
theorem XlL(A:Option Addr)(C:Nat)(l:List Nat)(w0:World)(u:RowsAt w0 A 1 (Uo l))(D:l.length<=9223372036854775807)(h:∀i∈l,i<64):
 Va 183 #[.slice A l.length C] w0 (.tuple #[d8 (ofW l),Ve 0]):=by
 refine Vb func183 ntmps183 λH a F=>?_
 refine gg 17 λa F=>?_
 refine cLoopS [7,8] (λm d w=>∃(j:Nat)(z:UInt64),m=l.length-j/\d=[(4,d8 z),(9,Ve ((j:Nat):Int))]/\z=ofW (l.take j)/\j<=l.length/\Own w0 none w []) F (l.length) [(4,d8 0),(9,Ve ((0:Nat):Int))] ?_ ?_
 ·exact⟨0,0,Z,Z,Z,O,H⟩
 clear F H;intro m d a w y F
 obtain⟨j,z,rfl,rfl,q,B,H⟩:=y
 refine gg 6 λa F=>zi (λp=>?_) λp=>?_
 ·
  have c:j<l.length:=O
  obtain⟨x,g⟩:∃x,l[j]?=some x:=⟨_,AA c⟩
  have r:=h x (AF g)
  obtain⟨b,o,rfl,s⟩:=u j [Ve (x:Int)] (by unfold Uo;rw[AD,g];rfl)
  refine gg 6 λa F=>?_
  refine zLd F (H.arg (s 0 _ Z)) λa F=>?_
  refine gg 8 λa F=>?_
  refine zSp 15 F (λv F=>?_) λv F=>?_
  ·
   omega
  refine gg 5 λa F=>zi (λn=>?_) λn=>?_
  ·
   omega
  refine gg 4 λa F=>?_
  refine Xh F Z Z (Xef ?_) ?_
  focus omega
  clear F a;intro a F;refine Xh F Z Z (XcF) λa F=>?_
  refine gg 6 λa F=>?_
  refine⟨_,O,_,⟨j+1,z|||bit x,rfl,rfl,?_,O,H⟩,F.tt⟩
  rw[At,g,FW,XlM,q]
 have c:j=l.length:=O
 refine gg 8 λa F=>?_
 refine Gy results183 F Z Z ?_;subst c;rw[FT]at q
 exact⟨by rw[q],H.below⟩
theorem Own.startR(h:Blk w b cs t):Own w (some b) w [.blk b cs t] where
 grown:=UM w _
 pred:=λi r hi=>by
  cases i with
  |zero=>cases hi;exact h
  |succ i=>simp at hi
 foot:=λi r hi c e=>by
  cases i with
  |zero=>
   cases hi
   have e:c=b:=e
   subst e
   exact⟨.inr Z,(FJ.1 h).1⟩
  |succ i=>simp at hi
 apart:=λi j r s hi g d=>by
  cases i with
  |zero=>cases j with
   |zero=>exact absurd Z d
   |succ j=>simp at g
  |succ i=>simp at hi
theorem Xl9(x b k:Nat)(w0:World)(d:Blk w0 b [Ve (k:Int)] 3)(g:k<1000):
 Calls prog 180 #[Ve (x:Int),Vc b 0] w0 λe c=>e=.returned (.bool true)/\Own w0 (some b) c [.blk b [Ve ((k+1:Nat):Int)] 3]:=by
 have H:=Own.startR d
 refine VU func180 Z ntmps180 Z (λa F=>?_)
 refine gg 8 λa F=>?_
 refine zSt H 0 F λw H=>?_
 refine gg 7 λa F=>?_
 exact⟨Z,H⟩
theorem Xj6(s:UInt64)(b o:Nat)(w0:World)(G:Blk w0 b [Ve 0] 3)(D:w0.cell? ⟨o,0,none⟩=some (d8 s))(n:o≠b)(A:Tab6At w0)(u:2≠b):
 Calls prog 224 #[.func (.func 180) #[] #[Vc b 0],Vc o 0] w0 λe C=>(∃v,e=.returned v)/\Own w0 (some b) C [.blk b [Ve ((els s).length:Int)] 3]:=by
 have H:=Own.startR G
 have p:∀w rs,Own w0 (some b) w rs->Tab6At w:=λw rs H i z=>H.old (A i z) (λe=>u (Ac e))
 have B:=@Cg s
 refine VU func224 Z ntmps224 Z (λa F=>?_)
 refine gg 2 λa F=>?_
 refine zLd F (H.old D (λe=>n (Ac e))) λa F=>?_
 refine gg 3 λa F=>?_
 refine cLoopS [0] (λm d w=>∃(r:UInt64)(k:Nat),m=(els r).length/\d=[(3,d8 r)]/\k+(els r).length=(els s).length/\Own w0 (some b) w [.blk b [Ve (k:Int)] 3]) F ((els s).length) [(3,d8 s)] ?_ ?_
 ·exact⟨s,0,Z,Z,As _,H⟩
 clear F H;intro m d a w E F
 obtain⟨r,k,rfl,rfl,j,H⟩:=E
 refine gg 4 λa F=>?_
 refine Xh F Z Z (Be (y:=0)) λa F=>?_
 refine gg 2 λa F=>zi (λc=>?_) λc=>?_
 ·
  have q:=JJ c
  refine gg 7 λa F=>?_
  refine zCa F (XhK r _ c (p _ _ H)) H λa w F H=>?_
  refine Xbn F Z Z Z call180 Z (Xl9 (tzW r) b k _ (H.blk 0 Z) O) ?_;rintro e w ⟨rfl,t⟩
  replace H:=H.turned 0 Z t;clear t
  refine zq λa F=>?_
  refine gg 3 λa F=>zi (λg=>?_) λg=>?_
  ·
   cases g
  refine gg 4 λa F=>?_
  refine Xh F Z Z (XcD (y:=1)) (Ei Z Z Z Z (NI) λa F=>?_)
  refine gg 2 λa F=>?_
  exact⟨_,by rw[q];exact Fc _,_,⟨rst r,k+1,Z,Z,by rw[q]at j;simp at j;omega,H⟩,F.tt⟩
 refine gg 1 λa F=>?_
 refine bEnd results224 F ?_
 refine⟨⟨_,Z⟩,?_⟩
 have c:r=0:=by simpa using c
 rw[c,Jr]at j;rw[<-j]
 exact H
theorem Xjr(s:UInt64)(w0:World)(g:Tab6At w0):Va 127 #[d8 s] w0 (Ve ((els s).length:Int)):=by
 refine Vb func127 ntmps127 λH a F=>?_
 refine gg 6 λa F=>?_
 refine zAl zeroValue3 H F λc a w F H=>?_
 refine zSt H 0 F λw H=>?_
 refine gg 9 λa F=>?_
 refine Xi call177 F Z (Ee s _) ?_;rintro e w ⟨d,rfl,b⟩;replace H:=H.join b;clear b
 refine zq λa F=>?_
 refine gg 1 λa F=>?_
 refine Xbn F Z Z Z call224 Z (Xj6 s c d _ (H.blk 1 Z) (H.cell 0 Z Z) (by have:=H.apart 0 1 _ _ Z Z (by decide) d Z;exact this) (g.own H) (λe=>by
  have j:2<w0.heap.size:=World.block_lt_of_cell? w0 _ (g 0 (by decide))
  rcases(H.foot 1 _ rfl c rfl).1 with q2|q2
  ·omega
  ·cases q2)) ?_
 rintro e w ⟨⟨v,rfl⟩,b⟩
 replace H:=H.turned 1 Z b;clear b
 refine zq λa F=>?_
 refine gg 8 λa F=>?_
 exact⟨Z,H.below⟩
section
variable{P:Program}{l:List Oper}{Q:Exit->Act->World->Prop}{N:Nat}{a:Act}{env:List (Nat×Value)}{rest:List Oper}{d:Tmp}{ty:TypeId}{pos:String}{af:Array Edge}{gu:Option (Nat×Bool)}{w0 w:World}{row:Option Nat}{rs:List Res}{Kt:Act->World->Prop}
theorem CO(C:P.underlying t=some (.slice e))(z:P.info? e=some ti)(b:ti.size=1){k d o:Nat}(p:Blk w g cs e)(D:k<d)(s:d<=cs.length)(E:w.cell? ⟨o,0,none⟩=some v)(G:v.oneCell'=true)(ty:TypeId):(Builtin.append_ #[t,t] ty #[Vd g 0 k d,Vd o 0 1 c]).run P w=.ok (Vd g 0 (k+1) d) (w.setCell ⟨g,k,none⟩ v):=by
 have B:=p.cell k (AA (by omega:k<cs.length))
 have y:=run_firstCells_some (P:=P) w ti.size 1 ⟨o,0,none⟩ 1 c [v] (by rw[b];rfl) (λj u n=>by
  cases j with
  |zero=>simp at n;subst n;exact E
  |succ j=>simp at n)
 rw[b]at y
 have r:=run_storeCells_cells (P:=P) g k [v] 0 w (λq i=>by simp at i;subst i;simp[B]) (λq i=>by simp at i;subst i;exact p.frozen k) (λq i=>by simp at i;subst i;exact G)
 simp only[FF]at r
 have A:(storeCells ⟨g,k,none⟩ [v]).run P w=.ok () (w.setCell ⟨g,k,none⟩ v):=r
 have m:k+1<=d:=D
 simp[Builtin.append_,run_underlying C,sizeOf,typeInfo,z,Builtin.lenOf,m,y,Addr.add_mid,b,A]
theorem oApI{s x:Operand}{k b o:Nat}(H:Own w0 row w rs)(i:Nat)(y:P.underlying t=some (.slice e))(r:∀w,(typeInfo e).run P w=.ok ti w)(j:ti.size=1)(F:Has N a env)(q:Nat.blt d N=true)(hs:ev env s=some (Vd g 0 k b))(p:ev env x=some (Vd o 0 1 c))(n:rs[i]?=some (.blk g cs e))(z:k<b)(m:b<=cs.length)(A:w.cell? ⟨o,0,none⟩=some v)(B:v.oneCell'=true)(K:∀a w,Has N a ((d,Vd g 0 (k+1) b)::env)->Own w0 row w (rs.set i (.blk g (cs.set k v) e))->Kt a w):(Oper.mk (some d) (.call ⟨.builtin .append,#[s,x],#[t,t]⟩) ty pos af gu).wp P a w Kt Q:=
 oV F Z q (Lc (ty':=ty) F hs p (CO y (LG r) j (H.blk i n) z m A B ty)) (λa u=>K a _ u (H.set i n k v))
theorem Xdk{x y:Operand}{z:Value}{b:Nat}{k n:IntKind}(u:P.underlying t=some (.slice e))(q:∀w,(typeInfo e).run P w=.ok ti w)(v:ti.zero=some z)(g:ti.size=1)(m:ti.bytes=b)(i:z.cells=#[z])(F:Has N a env)(p:ev env x=some (.int k 0))(s:ev env y=some (.int n (c:Int)))(hb:b*c<=281474976710656)(r:c<=9223372036854775807)(w:World):
 (execOp a.eval ⟨some d,.makeSlice t x y,ty,pos,af,gu⟩).run P w=.ok (.value (Vd w.heap.size 0 0 c)) (w.alloc (.cells (madeCells #[z] c) e)):=by
 have j:(ti.bytes:Int)*(c:Int)<=281474976710656:=by
  have h:((ti.bytes*c:Nat):Int)<=281474976710656:=by rw[m];omega
  rwa [Iu]at h
 have o:=run_make (P:=P) w t e ti z u (LG q) v k n 0 c (I4 _) O j O
 simp only[Int.toNat_zero,FU,g,FZ,i]at o
 simp only[execOp,F.eval p,F.eval s,Sem.run_bind,o]
 rfl
theorem oMkI{x y:Operand}{z:Value}{bytes:Nat}{k s:IntKind}(H:Own w0 row w rs)(u:P.underlying t=some (.slice e))(p:∀w,(typeInfo e).run P w=.ok ti w)(v:ti.zero=some z)(g:ti.size=1)(m:ti.bytes=bytes)(i:z.cells=#[z])(F:Has N a env)(o:Nat.blt d N=true)(n:ev env x=some (.int k 0))(r:ev env y=some (.int s (c:Int)))(hb:bytes*c<=281474976710656)(j:c<=9223372036854775807)(K:∀b a w,Has N a ((d,Vd b 0 0 c)::env)->Own w0 row w (.blk b (List.replicate c z) e::rs)->Kt a w):(Oper.mk (some d) (.makeSlice t x y) ty pos af gu).wp P a w Kt Q:=
 oV F Z o (Xdk u p v g m i F n r hb j w) (λ_ q=>K _ _ _ q (by have:=H.alloc (madeCells #[z] c) e;rwa [toList_madeCells_one]at this))
end
theorem XhE(b:Nat)(r:Rl)(n:Nat)(w0:World)(c:RelAt w0 b r)(o:OkR r)(j:n<=10000):
 Va 171 #[Vc b 0,Ve (n:Int)] w0 (.bool true):=by
 refine Vb func171 ntmps171 λH a F=>?_
 refine gg 9 λa F=>?_
 refine zSp 7 F (λi F=>?_) λi F=>?_
 ·
  refine gg 4 λa F=>?_
  refine zSp 11 F (λg F=>?_) λg F=>?_
  ·
   refine gg 2 λa F=>?_
   refine zLr F (H.argR c) λa F=>?_
   refine zCa F (G8 r _ o) H λa w F H=>?_
   refine gg 5 λa F=>?_
   exact⟨Z,H.below⟩
  omega
 omega
def Lh(q:Rl):Nat->UInt64->List Nat->List (List Nat)
 |0,_,_=>[]
 |f+1,s,l=>if s=0 then[l]else(els s).flatMap λx=>if q.to x&&&s=0 then Lh q f (del s x) (l++[x])else[]
def Ji(l:List Nat):List Value:=l.map λx:Nat=>.int .i64 (x:Int)
theorem XbG:Ji (l++[x])=Ji l++[Ve (x:Int)]:=by simp[Ji]
theorem XlT(l:List Nat):(Ji l).length=l.length:=by simp[Ji]
theorem Xk7(h:cs.take l.length=Ji l)(b:l.length<cs.length):(cs.set l.length (Ve (x:Int))).take (l++[x]).length=Ji (l++[x]):=by
 rw[XbG,<-h]
 refine Ar λi=>?_
 have c:(l++[x]).length=l.length+1:=by simp
 rw[c,FV]
 rcases F5 i l.length with h1|h1|h1
 ·rw[if_pos O,List.getElem?_set_ne O,AP (by rw[Aj];omega),F7 h1]
 ·subst h1
  rw[if_pos O,AQ (by rw[Aj];omega),Aj,Fv O]
  simp[b]
 ·rw[if_neg O,AV (by rw[AK,Aj];simp;omega)]
theorem Xba(h:cs.take (l++[x]).length=Ji (l++[x])):cs.take l.length=Ji l:=by
 have b:(l++[x]).length=l.length+1:=by simp
 rw[b]at h
 have:=congrArg (List.take l.length) h
 rw[List.take_take,Fv O,XbG,List.take_left' (XlT l)]at this
 exact this
theorem MV{s:UInt64}(h:has s x=true):els (del s x)=(els s).erase x:=by
 have b:=Ca h
 unfold els
 rw[List.Nodup.erase_eq_filter (List.Nodup.sublist List.filter_sublist List.nodup_range)];rw[List.filter_filter]
 refine I3 λi _=>?_
 rw[JD b,Bool.and_comm]
 congr 1
 by_cases e:x=i
 ·subst e;simp
 ·have:i≠x:=λh=>e h.symm
  simp[e,this]
theorem EP{s:UInt64}(h:has s x=true):(els (del s x)).length+1=(els s).length:=by
 have b:=mem_els.2 h
 rw[MV h,List.length_erase_of_mem b]
 have:=Ie b
 omega
def OrdY(x:List Nat)(b:List Value)(c:List Res):Prop:=∃g,b=[.slice (some ⟨g,0,none⟩) x.length x.length]/\c=[.blk g (Ji x) 3]
namespace Md
theorem extend_any(q:Rl)(bb n:Nat)(w0:World)(hT:Tab6At w0)(lp:Nat)(J Jx:List (List Nat)->List Res->Prop)(a5:List (List Nat))(hn:n<=48)(hY:∀(b:List (List Nat)) (x:List Nat) (M:List Value) (yr:List Res) (Q:World) (a1 qs:List Res),J b a1->b++[x] <+: a5->OrdY x M yr->Own w0 none Q (yr++(a1++qs)) ->
  YieldAt Fence.wide 0 prog lp M.toArray Q λe w2=>∃d,Own w0 none w2 (yr++(d++qs))/\((e=.returned (.bool true)/\J (b++[x]) d)\/(e=.returned (.bool false)/\Jx (b++[x]) d))):
 ∀(f:Nat)(s:UInt64)(l:List Nat)(k g:Nat)(cs:List Value) (b:List (List Nat)) (ps qs:List Res) (Q:World),(els s).length<f->(∀i,has s i=true->i<n)->l.length+(els s).length=n->k=l.length->cs.length=n->cs.take l.length=Ji l->b++Lh q f s l <+: a5->J b ps->(∀w,Own w0 none w qs->RelAt w bb q)->Own w0 none Q (.blk g cs 3::(ps++qs)) ->
  Calls prog 223 #[Vc bb 0,d8 s,Vd g 0 k n,.func (.yield lp) #[] #[]] Q λe w'=>∃(c:Bool)(W:List Value)(N:List Res),e=.returned (.bool c)/\W.length=n/\W.take l.length=Ji l/\Own w0 none w' (.blk g W 3::(N++qs))/\((c=true/\J (b++Lh q f s l) N)\/(c=false/\∃z,z <+: Lh q f s l/\Jx (b++z) N)):=by
 intro f
 induction f with
 |zero=>intro s l k g cs b ps qs Q hf;omega
 |succ f ih=>
  intro s l k g cs b ps qs Q hf hs hl hk a2 P p hJ hR H
  obtain⟨o,hG⟩:∃o:Nat->List (List Nat),o=λx=>if q.to x&&&s=0 then Lh q f (del s x) (l++[x])else[]:=⟨_,Z⟩
  have X:s≠0->Lh q (f+1) s l=(els s).flatMap o:=λh=>by rw[Lh,if_neg h,hG]
  refine VU func223 Z ntmps223 Z (λa F=>?_);refine Xp4 F ?_
  refine gg 8 λa F=>?_
  refine Xh F Z Z (XaS (y:=0)) λa F=>?_
  refine gg 2 λa F=>zi (λV=>?_) λV=>?_
  ·
   have r:s=0:=V
   have he:Lh q (f+1) s l=[l]:=by rw[Lh,if_pos r]
   have aC:l.length=n:=by rw[r,Jr]at hl;simpa using hl
   have a9:cs=Ji l:=by rw[<-P,FD O]
   refine gg 1 λa F=>?_
   rw[he]at p;refine wpIn_region_lit ?_;refine iV F Z Z Z (λc h=>by cases h) (rMv F Z) λa F=>?_;refine iV F Z Z Z (λc h=>by cases h) (rMv F Z) λa F=>?_;refine iY F Z Z Z Z (hY b l [Vd g 0 k n] [.blk g cs 3] _ ps qs hJ p ⟨g,by rw[hk,aC],by rw[a9]⟩ H) ?_;rintro e w ⟨d,H2,hc⟩
   obtain⟨c9,rfl,aA⟩:∃c9:Bool,e=.returned (.bool c9)/\((c9=true/\J (b++[l]) d)\/(c9=false/\Jx (b++[l]) d)):=by
    rcases hc with⟨I,v⟩|⟨I,v⟩
    ·exact⟨_,I,.inl ⟨Z,v⟩⟩
    ·exact⟨_,I,.inr ⟨Z,v⟩⟩
   refine zq λa F=>?_
   refine iV F Z Z Z (λc h=>by cases h) (rAs F Z) λa F=>?_;refine iNil ?_
   refine gg 2 λa F=>?_
   (refine⟨c9,cs,d,Z,a2,P,H2,?_⟩
    rw[he]
    rcases aA with⟨I,v⟩|⟨I,v⟩
    ·exact .inl ⟨I,v⟩
    ·exact .inr ⟨I,_,ID _,v⟩)
  have r:s≠0:=V
  refine gg 10 λa F=>?_
  refine zCa F (first_any s _ (hT.own H)) H λa w F H=>?_
  refine gg 7 λa F=>?_
  refine cLoopS [0,1,2,3] (λm a8 w=>∃(z:UInt64)(C:List Nat)(t:List Value)(d:List Res),m=(els z).length/\a8=[(9,d8 z),(10,Ve (JM z:Int)),(11,.bool (z != 0))]/\els s=C++els z/\t.length=n/\t.take l.length=Ji l/\J (b++C.flatMap o) d/\Own w0 none w (.blk g t 3::(d++qs))) F ((els s).length) [(9,d8 s),(10,Ve (JM s:Int)),(11,.bool (s != 0))] ?_ ?_
  ·exact⟨s,[],cs,ps,Z,Z,Z,a2,P,by simpa using hJ,H⟩
  clear F H;intro m a8 a w hI F
  obtain⟨z,C,t,d,rfl,rfl,G,A,D,S,H⟩:=hI
  refine gg 5 λa F=>?_
  refine cIf F Z (λR=>?_) (λR=>?_)
  ·
   have j:z≠0:=by simpa using R
   have aF:JM z=tzW z:=if_neg j
   have T:has s (JM z)=true:=mem_els.1 (by rw[G];exact IG _ (mem_els.2 (N7 j)))
   have aG:=hs _ T
   have hd:=Xj5 T
   have B:els s=(C++[JM z])++els (rst z):=by rw[G,JJ j,aF];simp
   have a4:(els s).flatMap o=(C.flatMap o++o (JM z))++(els (rst z)).flatMap o:=by rw[B,Fl,Fl];simp
   rw[X r,a4]at p
   refine gg 5 λa F=>?_
   refine cRegRO Y H ?_;replace H:=H.drew
   refine gg 5 λa F=>?_
   refine Xe 5 Z F Z Z (λw H=>rLd isAgg55 F Z ((hR _ H.tail.suf).row O)) H qq0 λa F=>?_
   refine gg 1 λa F=>?_
   refine Xb 7 Z F Z (λw=>Gt F Z Z (NI)) H qq0 (Xg 8 Z Z (λa F w=>Gt F Z Z (XaS (y:=0))) H qq0 λa F=>?_)
   refine gg 1 λa F=>?_
   refine zSp 38 F (λa6 F=>?_) λa6 F=>?_
   ·
    have u:o (JM z)=Lh q f (del s (JM z)) (l++[JM z]):=by rw[hG];exact if_pos a6
    refine gg 3 λa F=>?_
    refine Xf (k:=13) (i:=13) Z F Z (λw=>Gt F Z Z (Xef ?_)) H (λ_ _ _ h=>h) ?_
    focus omega
    clear F a;intro a F;refine Xb 14 Z F Z (λw=>Gt F Z Z (Xhc)) H qq0 λa F=>?_
    refine gg 2 λa F=>?_
    refine Xb 19 Z F Z (λw=>rMv F Z) H qq0 λa F=>?_;refine Xd (k:=18) (i:=17) Z F (oBs1 H underlying70 sizeOf3 zeroValue3 Z F Z Z Z λaB a w F H=>?_)
    refine gg 1 λa F=>?_
    refine Xd (k:=19) (i:=18) Z F (oApI H 1 underlying70 typeInfo3 Z F Z Z Z Z O O (H.cell 0 Z Z) Z λa w F H=>?_)
    refine gg 1 λa F=>?_
    refine Xd (k:=20) (i:=20) Z F (UK call223 F Z Z (ih (del s (JM z)) (l++[JM z]) (k+1) g _ (b++C.flatMap o) d (.blk aB [Ve (JM z:Int)] 3::qs) _ O (λi hi=>hs i (by rw[JD O,AJ]at hi;exact hi.1)) (by have:=EP T;simp;omega) (by simp;omega) (by rw[F9];exact A) (by rw[hk];exact Xk7 D O) (by rw[<-u];refine List.IsPrefix.trans ?_ p;rw[AO,AO];exact Io _ |>.2 (by rw[<-AO];exact IF _ _)) S (λw h=>hR w h.tail) (Own.inTail (H.perm (List.Perm.swap _ _ _)))) ?_)
    rintro e w ⟨c9,a3,E,rfl,L,K,H2,a7⟩
    replace H:=Own.outTail H2
    clear H2
    refine zq λa F=>?_
    refine gg 5 λa F=>zi (λaD=>?_) λaD=>?_
    ·
     have U:∃z9,z9 <+: Lh q f (del s (JM z)) (l++[JM z])/\Jx (b++C.flatMap o++z9) E:=by
      rcases a7 with⟨I,_⟩|⟨_,v⟩
      ·simp_all
      ·exact v
     refine gg 6 λa F=>?_
     (obtain⟨z9,aE,hx⟩:=U
      refine⟨false,a3,E,Z,L,Xba K,(H.perm (List.Perm.swap _ _ _)).tail,.inr ⟨Z,C.flatMap o++z9,?_,by rw[<-AO];exact hx⟩⟩
      rw[X r,a4,AO];refine(Io _).2 (aE.trans ?_);rw[u]
      exact IF _ _)
    have U:J (b++C.flatMap o++Lh q f (del s (JM z)) (l++[JM z])) E:=by
     rcases a7 with⟨_,v⟩|⟨I,_⟩
     ·exact v
     ·simp_all
    refine gg 4 λa F=>?_
    refine Xh F Z Z (XcD (y:=1)) (Ei Z Z Z Z (NI) λa F=>?_)
    refine gg 4 λa F=>?_
    refine zCa F (first_any _ _ (hT.own H)) H λa w F H=>?_
    refine gg 6 λa F=>?_
    (exact⟨_,by rw[JJ j];exact Fc _,_,⟨rst z,C++[JM z],a3,E,Z,Z,B,L,Xba K,by rw[Fl];simpa[u,AO]using U,(H.perm (List.Perm.swap _ _ _)).tail⟩,F.toD (by repeat(first|exact trivial|refine Le.cons rfl ?_))⟩)
   have u:o (JM z)=[]:=by rw[hG];exact if_neg a6
   refine gg 14 λa F=>?_
   refine cIfF F Z ?_
   refine gg 4 λa F=>?_
   refine Xh F Z Z (XcD (y:=1)) (Ei Z Z Z Z (NI) λa F=>?_)
   refine gg 4 λa F=>?_
   refine zCa F (first_any _ _ (hT.own H)) H λa w F H=>?_
   refine gg 6 λa F=>?_
   (exact⟨_,by rw[JJ j];exact Fc _,_,⟨rst z,C++[JM z],t,d,Z,Z,B,A,D,by rw[Fl];simpa[u]using S,H⟩,F.toD (by repeat(first|exact trivial|refine Le.cons rfl ?_))⟩)
  have j:z=0:=by simpa using R
  refine gg 7 λa F=>?_
  (rw[j,Jr,Ak]at G
   exact⟨true,t,d,Z,A,D,H,.inl ⟨Z,by rw[X r,G];exact S⟩⟩)
end Md
theorem XpW(r:Rl)(w0:World):
 Calls prog 172 #[.agg r.cells.toArray] w0 λe c=>∃b,e=.returned (.func (.func 222) #[] #[Vc b 0])/\Own w0 none c [.blk b r.cells 58]:=by
 refine Vb func172 ntmps172 λH a F=>?_
 refine gg 2 λa F=>?_
 refine zBx H F λb a w F H=>?_
 refine gg 9 λa F=>?_
 exact⟨_,Z,H⟩
def Xe1(r q:Rl):List (List Nat):=Lh q (r.n+1) (QN (r.n:Int)) []
theorem MU(h:n<=48):els (QN (n:Int))=List.range n:=by
 unfold els
 have c:List.range 64=List.range n++List.range' n (64-n):=by
  rw[IK,IK]
  have:=@List.range'_append 0 n (64-n) 1
  simp only[As,Ht]at this
  rw[show n+(64-n)=64 by omega]at this
  exact this.symm
 rw[c,Fz,List.filter_eq_self.2 (λi b=>by rw[Jp h];simpa using b),F3.2 (λi b=>by
  rw[Jp h]
  obtain⟨q,_,rfl⟩:=List.mem_range'.1 b
  simp),Ak]
theorem Xd0(h:n<=48):(els (QN (n:Int))).length=n:=by
 rw[MU h,Aq]
namespace Md
theorem ord_iter(r q:Rl)(W:IsBack r q)(L:∀d,IsBack r d->Xe1 r d=Xe1 r q)(o:OkR r)(M:Acy r)(w0:World)(A:Tab6At w0)(u:List Res)(y:Nat)(hb:∀w,Own w0 none w u->RelAt w y r):
 Xp2 prog 222 #[Vc y 0] OrdY (Xe1 r q) w0 u:=by
 intro K J U Q E H s S
 have t:=o.n48
 refine callsIn_wide.2 ?_
 show Calls prog 222 #[.func (.yield K) #[] #[],Vc y 0] Q _
 refine VU func222 Z ntmps222 Z (λa F=>?_);refine Xp4 F ?_
 refine gg 3 λa F=>?_
 refine zLr F (hb _ H.suf) λa F=>?_
 refine Xi call77 F Z (Mg r _ o (A.own H)) ?_;rintro e w ⟨R,rfl,B,c⟩
 replace H:=H.grow c;clear c
 refine zq λa F=>?_
 refine gg 3 λa F=>zi (λD=>?_) λD=>?_
 ·
  (have:R=true:=B.2 M);subst this;cases D
 refine gg 3 λa F=>?_
 refine zLr F (hb _ H.suf) λa F=>?_
 refine Xi call122 F Z (M9 r _ o (A.own H)) ?_;rintro e w ⟨d,p,rfl,c⟩
 replace H:=H.grow c;clear c
 refine zq λa F=>?_
 refine zAl zeroValue58 H F λC a w F H=>?_
 refine sSr H 0 ?si F Z Z Z ?s1 Z Z ?_
 case si=>exact VT sizeOf58
 case s1=>rfl
 clear H;intro w H
 refine gg 1 λa F=>?_
 replace H:Own w0 none w (.blk C (VZ (zR 0).cells 0 d.cells) 58::(E++u)):=H
 rw[Us (Rl.len _)]at H;refine cRegRO Y H ?_;replace H:=H.drew
 refine gg 1 λa F=>?_
 refine Xe 1 Z F Z Z (λw H=>rLd isAgg3 F Z ((hb _ H.tail.suf).num)) H qq0 (Xg 3 Z Z (λa F w=>rFa (f:=0) (k:=0) underlying58 Z sizeOf3 Z Z F Z) H qq0 (qT 4 Z Y Z Z Z Z (λa F w H=>rLd isAgg3 F Z ((hb _ H.tail.suf).num)) H qq0 (Xg 6 Z Z (λa F w=>rMv F Z) H qq0 λa F=>?_)))
 refine DU F H [3,15] 7 [true,true,true,true,true,true,true,false] (λrs m w=>∃b,m=[(11,d8 (QN (r.n:Int))),(14,Vd b 0 0 r.n)]/\Own w0 none w ((.blk b (List.replicate r.n (Ve 0)) 3)::rs)) (by repeat(first|exact SubR.nil|(apply SubR.cons;· rfl))) ?_ (λs=>?_)
 rotate_left
 ·
  refine XcR (k:=5) (i:=2) (j:=5) Y F Z Z Z Z ?_ ?_
  ·
   refine UK call120 F Z Z (LU _ _) ?_;rintro e w ⟨rfl,hb⟩;replace H:=H.grow hb;clear hb
   refine zq λa F=>?_
   refine V6 H ?_;refine Xd (k:=6) (i:=5) Z F (oMkI (bytes:=8) H underlying70 typeInfo3 Z Z Z Z F Z Z Z O O λb a w F H=>?_);refine V6 H.tail ?_
   exact eGo s Y _ ⟨b,Z,H⟩ F.tt
  refine oMkI (bytes:=8) H underlying70 typeInfo3 Z Z Z Z F Z Z Z O O λb a w F H=>?_;refine V6 H.tail ?_
  refine zEc 2 F (LU _ _) H λa w F H=>?_
  refine V6 H.tail ?_
  exact eGo s Y _ ⟨b,Z,H⟩ F.tt
 clear F H;intro m a w T F
 obtain⟨b,rfl,H⟩:=T
 refine Xd (k:=7) (i:=7) Z F (UK call223 F Z Z (extend_any d C r.n w0 A K J U (Xe1 r q) t S (r.n+1) (QN (r.n:Int)) [] 0 b (List.replicate r.n (Ve 0)) [] E (.blk C d.cells 58::u) _ (by rw[Xd0 t];omega) (λi I=>by rw[Jp t]at I;simpa using I) (by rw[Xd0 t];simp) Z (by simp) Z (by rw[FI,<-L d p];exact ID _) s (λw h=>h.whole 0 Z) (Own.inTail H)) ?_);rintro e w ⟨X,P,v,rfl,_,_,G,g⟩
 replace H:=Own.outTail G
 clear G
 refine zq λa F=>?_
 refine gg 2 λa F=>?_
 refine bEnd results222 F ?_
 (refine⟨⟨_,Z⟩,v,H.tail.tail,?_⟩
  rw[FI]at g
  have N:Lh d (r.n+1) (QN (r.n:Int)) []=Xe1 r q:=L d p
  rw[N]at g
  rcases g with⟨_,h⟩|⟨_,z,V,h⟩
  ·exact .inl h
  ·exact .inr ⟨z,V,h⟩)
end Md
theorem Uu:∀r∈Uo l,r.length=1:=λr b=>by
 obtain⟨x,_,rfl⟩:=AT.1 b;rfl
theorem Xi6:∀r∈Uo l,r.all (·.oneCell')=true:=λr b=>by
 obtain⟨x,_,rfl⟩:=AT.1 b;rfl
theorem Uz(l:List Nat):(Uo l).length=l.length:=by simp[Uo]
theorem Xg4(A:Option Addr)(C:Nat)(l:List Nat)(w0:World)(g:RowsAt w0 A 1 (Uo l))(t:l.length<=1000000):
 Calls prog 173 #[.slice A l.length C] w0 λe n=>∃i j,e=.returned (.slice i l.length j)/\Own w0 none n [.rws 3 1 (.slice i l.length j) (Uo l)]:=by
 refine Vb func173 ntmps173 λH a F=>?_
 refine gg 8 λa F=>?_
 refine Xh F Z Z (bNil underlying70) λa F=>?_
 refine gg 1 λa F=>?_
 refine cIf F Z (λc=>?_) (λc=>?_)
 ·
  obtain rfl:A=none:=by cases A with|none=>rfl|some a=>cases c
  obtain rfl:l=[]:=by
   cases l with
   |nil=>rfl
   |cons r rs=>
   obtain⟨b,o,m,_⟩:=g 0 _ Z
   cases m
  refine gg 6 λa F=>?_
  exact⟨none,0,Z,H.nilRws 3 1⟩
 obtain⟨d,rfl⟩:∃d,A=some d:=by cases A with|none=>cases c|some a=>exact⟨a,Z⟩
 refine gg 3 λa F=>?_
 refine sBs (cs:=[]) H underlying70 sizeOf3 zeroValue3 Z F Z Z Z Z Z λq a w F H=>?_
 replace H:=H.emptyRws 1
 refine gg 1 λa F=>?_
 refine Xli (bytes:=8) H 0 underlying70 typeInfo3 Z Z Z Z Z Z F Z Z Z Z Z (by simp) (((g.own H).flat Uu)) (Uu) (Xi6) ((by(simp[Uz];omega))) λs p a w F H=>?_
 refine gg 4 λa F=>?_
 (simp only[FI,Uz]at H
  exact⟨_,_,by simp only[FI,Uz],H.pick 0 Z⟩)
structure Ln where
 A:Option Addr
 c:Nat
 l:List Nat
def Ln.hd(x:Ln):List Value:=[.slice x.A x.l.length x.c]
def Ln.part(x:Ln):Res:=.rws 3 1 (.slice x.A x.l.length x.c) (Uo x.l)
theorem Xlk(h:Blk w g (Ji l) t):RowsAt w (some ⟨g,0,none⟩) 1 (Uo l):=λj cs b=>by
 unfold Uo at b
 rw[AD]at b
 obtain⟨x,d,rfl⟩:=FN.1 b
 refine⟨g,0,Z,λk v c=>?_⟩
 cases k with
 |zero=>
  cases c
  have:=h.cell j (v:=Ve (x:Int)) (by unfold Ji;rw[AD,d];rfl)
  simpa using this
 |succ k=>simp at c
theorem Own.addN{α:Type}{part:α->Res}{w0:World}{row:Option Nat}{q:α}{b:List α}{hd:List Res}(H:Own w0 row w (part q::(hd++(b.map part++qs)))):Own w0 row w (hd++((b++[q]).map part++qs)):=by
 refine H.perm ?_
 have e:(b++[q]).map part=b.map part++[part q]:=by simp
 rw[e,AO]
 have d:(hd++(b.map part++([part q]++qs))).Perm (part q::(hd++(b.map part++qs))):=by
  have c:(b.map part++([part q]++qs)).Perm (part q::(b.map part++qs)):=FS
  exact(c.append_left hd).trans FS
 exact d.symm
namespace Md
theorem orders_any(r q:Rl)(hq:IsBack r q)(hu:∀W,IsBack r W->Xe1 r W=Xe1 r q)(o:OkR r)(ha:Acy r)(w0:World)(hT:Tab6At w0)(hm:(Xe1 r q).length<=10000)(y:∀l∈Xe1 r q,l.length<=48):
 Calls prog 118 #[.agg r.cells.toArray,Ve 10000] w0 λe w'=>∃(b:List Ln)(A:Option Addr)(C:Nat),b.map Ln.l=Xe1 r q/\e=.returned (.tuple #[.slice A b.length C,Ve 0])/\Own w0 none w' (.rws 70 1 (.slice A b.length C) (b.map Ln.hd)::b.map Ln.part):=by
 have H:=Own.start w0 none
 refine Ec func118 Z ntmps118 Z (λa F=>?_)
 refine gg 2 λa F=>?_
 refine zBx H F λU a w F H=>?_
 refine zBx H F λT a w F H=>?_
 refine zAl zeroValue97 H F λL a w F H=>?_
 refine zAl zeroValue34 H F λM a w F H=>?_
 refine gg 1 λa F=>?_
 replace H:Own w0 none w [.blk M [Ve 0] 34,.blk L [.slice none 0 0] 97,.blk T [Ve 10000] 3,.blk U r.cells 58]:=H
 refine gg 4 λa F=>?_
 refine zCa F (XhE U r 10000 _ (H.whole 3 Z) o O) H λa w F H=>?_
 refine gg 3 λa F=>zi (λG=>?_) λG=>?_
 ·
  cases G
 refine gg 3 λa F=>?_
 refine zAl zeroValue97 H F λb6 a w F H=>?_
 refine gg 1 λa F=>?_
 replace H:=H.nilRws 70 1
 refine gg 4 λa F=>?_
 refine Xi call172 F Z (XpW r _) ?_;rintro e w ⟨b1,rfl,z⟩;replace H:=H.join z;clear z
 refine zq λa F=>?_
 refine gg 2 λa F=>?_
 have N:=(H.sel [2,1,3,4,5,0,6] Z Z)
 refine Xdm (pl:=[13]) 5 F (by decide) (λ_ _ _ h=>by obtain⟨g,h,_⟩:=h;rw[h];rfl) Z (enters_of func222 Y Z) N (ord_iter r q hq hu o ha w0 hT _ b1 (λw H=>H.whole 0 Z)) (λd t=>∃(b:List Ln)(A:Option Addr)(C:Nat),b.map Ln.l=d/\t=.blk b6 [.slice A b.length C] 97:: .rws 70 1 (.slice A b.length C) (b.map Ln.hd):: .blk M [Ve 0] 34:: .blk L [.slice none 0 0] 97:: .blk T [Ve 10000] 3::b.map Ln.part) (λ_ _ _=>False) (⟨[],_,_,Z,Z⟩) (λV=>[(7,V.headD undef)]) ?_ ?_ ?_ ?_
 ·
  clear N H F a;intro R a w V K P E hK
  obtain⟨v0,rfl⟩:=XgI P
  refine Md.cReg ?_;refine sAs E Z Z Z λa E=>?_
  refine Md.sNil ?_ E
  exact hK _ E
 ·
  clear N H F a;intro R d x X yr w a2 qs a B p J H F
  obtain⟨b,A,C,j,rfl⟩:=B
  obtain⟨g,rfl,rfl⟩:=J
  have a3:b.length=d.length:=by have:=congrArg List.length j;simpa using this
  have a4:d.length<(Xe1 r q).length:=by have:=p.length_le;simp at this;omega
  have a1:x.length<=48:=y x (p.subset (by simp))
  refine gg 10 λa F=>zi (λS=>?_) λS=>?_
  ·
   omega
  refine gg 1 λa F=>?_
  refine cRegRO Y (H.sel [1] Z Z) ?_;replace H:=H.drew;refine Xe 0 Z F Z Z (λw H=>rLd isAgg97 F Z (H.cell 0 Z Z)) (H.sel [1] Z Z) qq0 (Xg 1 Z Z (λa F w=>rMv F Z) (H.sel [1] Z Z) qq0 λa F=>?_);refine Xd (k:=2) (i:=2) Z F (UK call173 F Z Z (Xg4 _ _ x _ (Xlk (H.blk 0 Z)) O) ?_);rintro e w ⟨n,m,rfl,z⟩;replace H:=H.join z;clear z
  refine zq λa F=>?_
  refine V6 (H.sel [2] Z Z) ?_;refine Xd (k:=3) (i:=3) Z F (oBs1 H underlying97 sizeOf70 zeroValue70 Z F Z Z Z λQ a w F H=>?_);refine V6 (H.sel [3] Z Z) ?_
  refine Xd (k:=4) (i:=4) Z F (XlO (bytes:=24) H 4 underlying97 typeInfo70 Z Z Z Z Z Z F Z Z Z Z (H.whole 0 Z) Z ?s1 ?s2 ?_)
  case s1=>rfl
  case s2=>(rw[AH];omega)
  clear F a H;intro u v a w F H
  refine gg 1 λa F=>?_
  refine Xd (k:=5) (i:=5) Z F (oSt H 3 sizeOf97 F Z Z Z Z Z λw H=>?_)
  refine gg 2 λa F=>?_
  repeat(first|rw[if_pos rfl]|rw[if_neg (by decide)])
  obtain⟨I,s⟩:∃I:Ln,I=⟨n,m,x⟩:=⟨_,Z⟩
  replace H:Own w0 none w (.blk Q [.slice n x.length m] 70::Ln.part ⟨n,m,x⟩::([.blk g (Ji x) 3,.blk b6 [.slice u (b.map Ln.hd++[[Value.slice n x.length m]]).length v] 97,.rws 70 1 (.slice u (b.map Ln.hd++[[Value.slice n x.length m]]).length v) (b.map Ln.hd++[[Value.slice n x.length m]]),.blk M [Ve 0] 34,.blk L [.slice none 0 0] 97,.blk T [Ve 10000] 3]++(b.map Ln.part++qs))):=H
  have e9:b.map Ln.hd++[[Value.slice n x.length m]]=(b++[I]).map Ln.hd:=by rw[s];simp[Ln.hd]
  have e8:(b.map Ln.hd++[[Value.slice n x.length m]]).length=(b++[I]).length:=by simp
  rw[e8,e9,<-s]at H
  exact Xbt _ ⟨b++[I],u,v,by rw[Ae,j,s];rfl,Z⟩ (Own.addN H.tail)
 ·
  intro D w t B H
  obtain⟨b,A,C,j,rfl⟩:=B
  refine gg 3 λa F=>?_
  refine zSt H 4 F λw H=>?_
  refine zSt H 3 F λw H=>?_
  refine gg 2 λa F=>?_
  refine XcN ?_;refine LD H 0 Z λw H=>?_;refine Mz results118 F Z Z isAgg97 isAgg34 H 4 3 Z Z ?_
  refine⟨b,A,C,j,Z,?_⟩
  exact Own.front (xs:=_::b.map Ln.part) (H.tail.tail.swapN 1 3).tail.tail.tail
 ·
  intro D c d w t p B H
  exact B.elim
end Md
theorem XpN{q b:Rl}(h:IsBack r q)(c:IsBack r b)(x:Nat):q.to x=b.to x:=Q8 λi _=>(h.has i x).trans (c.has i x).symm
theorem XnQ{q b:Rl}(h:∀x,q.to x=b.to x):∀(f:Nat)(s:UInt64)(l:List Nat),Lh q f s l=Lh b f s l
 |0,_,_=>rfl
 |f+1,s,l=>by
  rw[Lh,Lh]
  split
  ·rfl
  ·congr 1
   funext x
   rw[h x,XnQ h f]
theorem XlK{q b:Rl}(h:IsBack r q)(c:IsBack r b):Xe1 r b=Xe1 r q:=XnQ (XpN c h) _ _ _
def bkR(r:Rl):Rl:=⟨r.n,λb=>ofW ((List.range 48).filter λx=>r.has x b)⟩
theorem XkB(o:OkR r):IsBack r (bkR r):=⟨Z,λx b=>by
 show has (ofW _) x=_
 rw[XdP (λi c=>by have:=Ab.1 (Az.1 c).1;omega)]
 cases e:r.has x b with
 |true=>
  have:=(o.lt x b e).1
  have d:=o.n48
  rw[decide_eq_true];exact Az.2 ⟨Ab.2 O,e⟩
 |false=>exact decide_eq_false λh=>by have:=(Az.1 h).2;rw[e]at this;cases this⟩
def crs(n:Nat):Rl:=rlF n λi=>if has 1 i=true then(QN (n:Int) &&& ~~~(1:UInt64))&&&QN (n:Int)else 0
theorem XjJ(i:Nat):has 1 i=decide (i=0):=by
 have:(1:UInt64)=bit 0:=rfl
 rw[this,Gx (by decide)]
 by_cases h:i=0
 ·subst h;rfl
 ·have:¬0=i:=λe=>h e.symm
  simp[h,this]
theorem D0(g:n<=48):(crs n).has x b=(decide (x=0)&&(decide (0<b)&&decide (b<n))&&decide (x<n)):=by
 show has (if x<n then _ else 0) b=_
 by_cases c:x<n
 ·rw[if_pos c,XjJ]
  by_cases d:x=0
  ·subst d
   rw[if_pos (by simp),JE,Dx,Jp g,XjJ]
   simp only[decide_eq_true c,Bool.and_true,decide_true,IL]
   by_cases e:b=0
   ·subst e;simp
   ·have:0<b:=O
    simp[e,this]
  ·rw[if_neg (by simp[d]),V8];simp[d]
 ·rw[if_neg c,V8];simp[c]
theorem Ck(c:n<=48):OkR (crs n):=⟨c,λx b h=>by
 rw[D0 c]at h
 simp only[AJ,decide_eq_true_eq]at h
 exact⟨h.2,h.1.2.2⟩⟩
theorem XpB(c:n<=48):Acy (crs n):=⟨id,λx b h=>by
 rw[D0 c]at h
 simp only[AJ,decide_eq_true_eq]at h
 show x<b
 omega⟩
def Xds(n:Nat):List (List Nat):=Xe1 (crs n) (bkR (crs n))
theorem XdV{q:Rl}:∀(f:Nat)(s:UInt64)(l o:List Nat),(els s).length<f->o∈Lh q f s l->∃g,o=l++g/\g.Perm (els s)
 |0,_,_,_,h,_=>O
 |f+1,s,l,o,h,d=>by
  rw[Lh]at d
  split at d
  ·rename_i m
   subst m;rw[Ay]at d
   exact⟨[],by simp[d],by rw[Jr]⟩
  ·obtain⟨x,i,b⟩:=Hh.1 d
   split at b
   ·have c:=mem_els.1 i
    have n:=EP c
    obtain⟨g,rfl,j⟩:=XdV f (del s x) (l++[x]) o O b
    refine⟨x::g,by simp,?_⟩
    have e:els (del s x)=(els s).erase x:=MV c
    rw[e]at j
    exact(j.cons x).trans (List.perm_cons_erase i).symm
   ·cases b
theorem Xdr(b:n<=48){o:List Nat}(h:o∈Xds n):o.Perm (List.range n):=by
 obtain⟨d,rfl,c⟩:=XdV _ _ _ _ (by show(els (QN (n:Int))).length<n+1;rw[Xd0 b];omega) h
 have e:els (QN (n:Int))=List.range n:=MU b
 simpa[crs,rlF,e]using c
def XcO{α:Type}(f:α->α)(l:List α)(i:Nat):List α:=(l.take i).map f++l.drop i
section
variable{α:Type}{f:α->α}{l:List α}{i:Nat}{x:α}
theorem Xfe:XcO f l 0=l:=by simp[XcO]
theorem Xjh:XcO f l l.length=l.map f:=by simp[XcO]
theorem Dq(h:l[i]?=some x):XcO f l i=(l.take i).map f++x::l.drop (i+1):=by
 obtain⟨b,rfl⟩:=AB.1 h
 unfold XcO;rw[FA b]
theorem Xff(h:l[i]?=some x):XcO f l (i+1)=(l.take i).map f++f x::l.drop (i+1):=by
 unfold XcO
 rw[At,h,FW,Ae,AO];rfl
theorem XnC(h:l[i]?=some x):(XcO f l i)[i]?=some x:=by
 have b:=(AB.1 h).1
 rw[Dq h,AQ (by simp;omega)]
 simp[Fv (IS b)]
theorem Xo7(h:l[i]?=some x):(XcO f l i).set i (f x)=XcO f l (i+1):=by
 have b:=(AB.1 h).1
 rw[Dq h,Xff h,HM _ _ (by simp;omega)]
 simp[Fv (IS b)]
end
section
variable{w0 w:World}{row:Option Nat}{rs:List Res}
theorem JR{r:Nat}{A:Option Addr}{b:List (List Value)}(H:Own w0 row w rs)(i:Nat)(m:rs[i]?=some (.rws e r (.slice A n c) b))(d:b≠[]):∃g,A=some ⟨g,0,none⟩:=by
 have h:=H.arr i m
 rcases h.2 with⟨j,q⟩|⟨g,o,p,j,_⟩
 ·exact absurd (Al q) d
 ·cases j;exact⟨g,Z⟩
theorem GI{j:Nat}{d:List (List Value)}(H:Own w0 row w rs)(i:Nat)(q:rs[i]?=some (.rws e 1 (.slice (some ⟨g,0,.none⟩) n c) d))(s:∀r∈d,r.length=1)(m:d[j]?=some [v]):w.cell? ⟨g,0+j*1,.none⟩=some v:=by
 obtain⟨b,o,p,h⟩:=H.rowsAt i q s O j _ m
 cases p
 exact h 0 v Z
theorem Own.pull{α:Type}{part:α->Res}{hd:List Res}{xs ys:List α}{x:α}(H:Own w0 row w (hd++((xs++x::ys).map part++qs))):Own w0 row w (part x::(hd++((xs++ys).map part++qs))):=by
 refine H.perm ?_;rw[Ae,FH,Ae,AO,AO]
 have b:(xs.map part++(part x::ys.map part++qs)).Perm (part x::(xs.map part++(ys.map part++qs))):=FS
 exact(b.append_left hd).trans FS
theorem Own.push{α:Type}{part:α->Res}{hd:List Res}{c b:List α}{x:α}(H:Own w0 row w (part x::(hd++((c++b).map part++qs)))):Own w0 row w (hd++((c++x::b).map part++qs)):=by
 refine H.perm ?_
 simp only[Ae,FH,AO]
 have d:(c.map part++(part x::b.map part++qs)).Perm (part x::(c.map part++(b.map part++qs))):=FS
 exact((d.append_left hd).trans FS).symm
end
theorem UQ{i:Nat}(h:l[i]?=some x):(Uo l)[i]?=some [Ve (x:Int)]:=by rw[AD,h];rfl
theorem C8(l:List Nat)(i x:Nat):(Uo l).set i [Ve (x:Int)]=Uo (l.set i x):=by show(l.map _).set i _=(l.set i x).map _;rw[List.map_set]
def Ln.up(b:List Nat)(x:Ln):Ln:=⟨x.A,x.c,x.l.map λk=>b.getD k 0⟩
theorem XnL{b:List Ln}:∀r∈b.map Ln.hd,r.length=1:=λr c=>by
 obtain⟨x,_,rfl⟩:=AT.1 c;rfl
theorem XdB(c:List Nat)(A:Option Addr)(C:Nat)(w0:World)(hA:RowsAt w0 A 1 (Uo c))(h1:1<=c.length)(g:c.length<=48)(hm:(Xds c.length).length<=10000)(hT:Tab6At w0):
 Calls prog 62 #[.slice A c.length C] w0 λe w'=>∃(b:List Ln)(B:Option Addr)(q:Nat),b.map Ln.l=(Xds c.length).map (λo=>o.map λk=>c.getD k 0)/\e=.returned (.slice B b.length q)/\Own w0 none w' (.rws 70 1 (.slice B b.length q) (b.map Ln.hd)::b.map Ln.part):=by
 refine Vb func62 ntmps62 λH a F=>?_
 refine gg 14 λa F=>?_
 refine zCa F (LU _ _) H λa w F H=>?_
 refine Xh F Z Z (Xhc (y:=1)) λa F=>?_
 refine zCa F (Xkj c.length 1 (QN (c.length:Int) &&& ~~~1) _ g) H λa w F H=>?_
 refine Xi call118 F Z (Md.orders_any (crs c.length) (bkR (crs c.length)) (XkB (Ck g)) (λq2 h2=>XlK (XkB (Ck g)) h2) (Ck g) (XpB g) _ (hT.own H) hm (λl hl=>by have:=(Xdr g hl).length_eq;rw[Aq]at this;omega)) ?_;rintro e w ⟨b,B,q,n,rfl,V⟩;replace H:=H.join V
 clear V
 rw[Ak]at H
 replace n:b.map Ln.l=Xds c.length:=n
 have a1:b.length=(Xds c.length).length:=by rw[<-n,AH]
 replace H:Own w0 none w ([.rws 70 1 (.slice B b.length q) (b.map Ln.hd)]++((XcO (Ln.up c) b 0).map Ln.part++[])):=by rw[Xfe,Ak];exact H
 refine zq λa F=>?_
 refine gg 14 λa F=>?_
 refine cLoopS [0,4,21,22] (λm p w=>∃j:Nat,m=b.length-j/\p=[(23,Ve ((j:Nat):Int))]/\j<=b.length/\Own w0 none w ([.rws 70 1 (.slice B b.length q) (b.map Ln.hd)]++((XcO (Ln.up c) b j).map Ln.part++[]))) F (b.length) [(23,Ve ((0:Nat):Int))] ?_ ?_
 ·exact⟨0,Z,Z,O,H⟩
 clear F H;intro m p a w T F
 obtain⟨j,rfl,rfl,hj,H⟩:=T
 refine gg 6 λa F=>zi (λU=>?_) λU=>?_
 ·
  have u:j<b.length:=O
  obtain⟨x,I⟩:∃x,b[j]?=some x:=⟨_,AA u⟩
  have Q:(Xds c.length)[j]?=some x.l:=by rw[<-n,AD,I];rfl
  have J:=Xdr g (AF Q)
  have E:x.l.length=c.length:=by have:=J.length_eq;rwa [Aq]at this
  obtain⟨N,S,rfl,L⟩:=H.rowsAt 0 Z XnL O j x.hd (by rw[AD,I];rfl)
  rw[Dq I]at H
  have P:=H.pull
  clear H
  obtain⟨z,r⟩:=JR P 0 Z (by intro h;have X:x.l.length=0:=by {have:=congrArg List.length h;rwa [Uz]at this};omega)
  obtain⟨xA,D,d⟩:=x
  have r:xA=some ⟨z,0,none⟩:=r
  subst r
  replace E:d.length=c.length:=E
  replace J:d.Perm (List.range c.length):=J
  have H:Own w0 none w (.rws 3 1 (Vd z 0 d.length D) (Uo (XcO (λk=>c.getD k 0) d 0)):: .rws 70 1 (Vd N S b.length q) (b.map Ln.hd)::(((b.take j).map (Ln.up c)++b.drop (j+1)).map Ln.part++[])):=by rw[Xfe];exact P
  clear P
  refine gg 6 λa F=>?_
  refine zLd F (L 0 _ Z) λa F=>?_
  refine gg 9 λa F=>?_
  refine cLoopS [0,4,7,21,22,23,27,28] (λm p w=>∃i:Nat,m=d.length-i/\p=[(29,Ve ((i:Nat):Int))]/\i<=d.length/\Own w0 none w (.rws 3 1 (Vd z 0 d.length D) (Uo (XcO (λk=>c.getD k 0) d i)):: .rws 70 1 (Vd N S b.length q) (b.map Ln.hd)::(((b.take j).map (Ln.up c)++b.drop (j+1)).map Ln.part++[]))) F (d.length) [(29,Ve ((0:Nat):Int))] ?_ ?_
  ·exact⟨0,Z,Z,O,H⟩
  clear F H;intro m p a w T F
  obtain⟨i,rfl,rfl,hi,H⟩:=T
  refine gg 6 λa F=>zi (λt=>?_) λt=>?_
  ·
   have s:i<d.length:=by have X:(i:Int)<(d.length:Int):=t;omega
   obtain⟨k,K⟩:∃k,d[i]?=some k:=⟨_,AA s⟩
   have G:k<c.length:=by have:=J.mem_iff.1 (AF K);simpa using this
   obtain⟨v,W⟩:∃v,c[k]?=some v:=⟨_,AA G⟩
   have M:c.getD k 0=v:=by rw[AS,W];rfl
   obtain⟨bW,oW,rfl,R⟩:=hA k [Ve (v:Int)] (UQ W)
   refine gg 7 λa F=>?_
   refine zLd F (GI H 0 Z Uu (UQ (XnC K))) λa F=>?_
   refine gg 8 λa F=>?_
   refine sIx underlying70 sizeOf3 F Z Z Z Z ?_ ?_
   focus exact G
   clear F a;intro a F
   refine zLd F (H.arg (R 0 _ Z)) λa F=>?_
   refine gg 1 λa F=>?_
   refine sStW H 0 sizeOf3 F Z Z Z Z Z (Uu) ((UQ (XnC K))) ((by decide:0<1)) (O) λw H=>?_
   refine gg 1 λa F=>?_
   replace H:Own w0 none w (.rws 3 1 (Vd z 0 d.length D) ((Uo (XcO (λk=>c.getD k 0) d i)).set i [Ve (v:Int)]):: .rws 70 1 (Vd N S b.length q) (b.map Ln.hd)::(((b.take j).map (Ln.up c)++b.drop (j+1)).map Ln.part++[])):=H
   rw[C8,<-M,Xo7 (f:=λk=>c.getD k 0) K]at H
   refine gg 4 λa F=>?_
   exact⟨_,O,_,⟨i+1,Z,Z,O,H⟩,F.tt⟩
  have s:i=d.length:=by have X:¬(i:Int)<(d.length:Int):=t;omega
  refine gg 5 λa F=>?_
  have HP:=Own.push (x:=Ln.up c ⟨some ⟨z,0,none⟩,D,d⟩) (hd:=[_]) (part:=Ln.part) (by
   rw[s,Xjh]at H
   have e:Ln.part (Ln.up c ⟨some ⟨z,0,none⟩,D,d⟩)=.rws 3 1 (Vd z 0 d.length D) (Uo (d.map λk=>c.getD k 0)):=by simp[Ln.part,Ln.up]
   rw[e];exact H)
  rw[<-Xff I]at HP
  exact⟨_,O,_,⟨j+1,Z,Z,O,HP⟩,F.tt⟩
 have u:j=b.length:=O
 refine gg 8 λa F=>?_
 subst u;rw[Xjh]at H
 have e:b.map Ln.hd=(b.map (Ln.up c)).map Ln.hd:=by rw[Fj];exact H9 λx _=>by simp[Ln.hd,Ln.up]
 have e2:b.length=(b.map (Ln.up c)).length:=by simp
 refine⟨b.map (Ln.up c),B,q,?_,by rw[AH],?_⟩
 ·rw[<-n,Fj,Fj];exact H9 λx _=>rfl
 ·rw[Ak,e,e2]at H
  exact H
def JA:List Nat->List (List Nat)
 | []=>[[]]
 |n::r=>(List.range n).flatMap λd=>(JA r).map (d:: ·)
def Bw:List Nat->List Nat->List (List Nat)
 |n::r,d::c=>(Bw r c).map (d:: ·)++(List.range' (d+1) (n-1-d)).flatMap λb=>(JA r).map (b:: ·)
 |_,_=>[]
def UY(n:Nat):List Nat:=List.replicate n 0
theorem EE:∀(S:List Nat),0∈S->JA S=[]
 | [],h=>by cases h
 |n::r,h=>by
  rw[JA]
  rcases Ap.1 h with h|h
  ·subst h;rfl
  ·rw[EE r h];simp
theorem MG:∀(S:List Nat),0∉S->JA S=UY S.length::Bw S (UY S.length)
 | [],_=>rfl
 |n::r,h=>by
  have g:n≠0:=λe=>h (by simp[e])
  have c:=MG r (λe=>h (by simp[e]))
  obtain⟨k,rfl⟩:∃k,n=k+1:=⟨n-1,O⟩
  show(List.range (k+1)).flatMap (λd=>(JA r).map (d:: ·))=(0::UY r.length)::((Bw r (UY r.length)).map (0:: ·)++(List.range' (0+1) (k+1-1-0)).flatMap λb=>(JA r).map (b:: ·))
  rw[IK,Ir,F4,show k+1-1-0=k by omega]
  have e:(JA r).map (0:: ·)=(0::UY r.length)::(Bw r (UY r.length)).map (0:: ·):=by
   conv=>lhs;rw[c]
   rfl
  rw[e];rfl
def XlX:List Nat->List Nat->Prop
 |n::r,d::b=>d+1=n/\XlX r b
 | [],[]=>True
 |_,_=>False
theorem Bg:∀(S x:List Nat),XlX S x->Bw S x=[]
 | [],[],_=>rfl
 |n::r,d::b,h=>by
  rw[Bw,Bg r b h.2,show n-1-d=0 by have:=h.1;omega];rfl
 | [],_::_,h=>h.elim
 |_::_,[],h=>h.elim
theorem XfR:∀(j g:List Nat)(s d:Nat)(b i:List Nat),j.length=g.length->XlX b i->d+1<s->0∉b ->
 Bw (j++s::b) (g++d::i)=(g++(d+1)::UY b.length)::Bw (j++s::b) (g++(d+1)::UY b.length)
 | [],[],s,d,b,i,_,p,q,o=>by
   obtain⟨k,t⟩:∃k,s-1-d=k+1:=⟨s-1-d-1,O⟩
   show Bw (s::b) (d::i)=((d+1)::UY b.length)::Bw (s::b) ((d+1)::UY b.length)
   rw[Bw,Bg b i p,t,Ir,F4,Bw,show s-1-(d+1)=k by omega]
   have e:(JA b).map ((d+1):: ·)=((d+1)::UY b.length)::(Bw b (UY b.length)).map ((d+1):: ·):=by
    conv=>lhs;rw[MG b o]
    rfl
   rw[e];rfl
 |n::j,c::g,s,d,b,i,m,p,q,o=>by
  have r:=XfR j g s d b i (by simpa using m) p q o
  show Bw (n::(j++s::b)) (c::(g++d::i))=(c::(g++(d+1)::UY b.length))::Bw (n::(j++s::b)) (c::(g++(d+1)::UY b.length))
  rw[Bw,r,Bw];rfl
 | [],_::_,_,_,_,_,m,_,_,_=>by simp at m
 |_::_,[],_,_,_,_,m,_,_,_=>by simp at m
theorem mem_odo:∀{S x:List Nat},x∈JA S↔x.length=S.length/\∀(i d s:Nat),x[i]?=some d->S[i]?=some s->d<s
 | [],x=>by
   rw[JA,Ay]
   constructor
   ·rintro rfl;exact⟨Z,λi d s h=>by simp at h⟩
   ·rintro⟨h,_⟩;exact Al h
 |n::r,x=>by
  rw[JA]
  simp only[Hh,Ab,AT]
  constructor
  ·rintro⟨d,o,y,m,rfl⟩
   obtain⟨j,g⟩:=mem_odo.1 m
   refine⟨by simp[j],λi e s b c=>?_⟩
   cases i with
   |zero=>simp at b c;omega
   |succ i=>exact g i e s (by simpa using b) (by simpa using c)
  ·rintro⟨j,g⟩
   cases x with
   |nil=>simp at j
   |cons d y=>
    exact⟨d,g 0 d n Z Z,y,mem_odo.2 ⟨by simpa using j,λi e s b c=>g (i+1) e s (by simpa using b) (by simpa using c)⟩,Z⟩
end Go.Proofs.YtajfpcgbnflceaaGreatDoor
