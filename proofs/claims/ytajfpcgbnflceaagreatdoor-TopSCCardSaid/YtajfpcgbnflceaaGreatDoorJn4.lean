/- WALK2. slices.Sort at bytes: the two partitions. Conditions: the slice is the caller's own. -/
import Derived.Test.YtajfpcgbnflceaaGreatDoorJn3
set_option linter.unusedSimpArgs false
set_option linter.unusedVariables false
namespace Go.Proofs.YtajfpcgbnflceaaGreatDoor
open Go.Proofs.Tryz
open Go.RowKit
set_option maxRecDepth 100000
set_option maxHeartbeats 8000000
variable{a a0 b b0 c g j n v:Nat}{e:By}{row:Option Nat}{rs:List Res}{w w0:World}
theorem Xgp(g n c:Nat)(d:By)(o u G:Nat)(W:World)(row:Option Nat)(rs:List Res)(w0:World)(H:Own W row w0 (.byt g n c d::rs))(hb:u<=n)(S:n<=1000000)(N:o<=G)(Q:G<u):
 Calls prog 217 #[Vd g 0 n c,Ve (o:Int),Ve (u:Int),Ve (G:Int)] w0 λe R=>∃(m:Nat)(C:By),e=.returned (Ve (m:Int))/\Sm o u d C/\o<m/\m<=u/\C o=d G/\(∀k,o<k->k<m->(C k).toNat<=(C o).toNat)/\(∀k,m<=k->k<u->(C o).toNat<(C k).toNat)/\Own W row R (.byt g n c C::rs):=by
 refine VU func217 Z ntmps217 Z (λa F=>?_)
 refine gg 5 λa F=>?_
 refine zRO H λH=>?_
 refine gg 13 λa F=>?_
 refine Xd (k:=13) (i:=13) Z F (J4 H 0 sizeOf5 F Z Z Z O λw H=>?_)
 refine gg 2 λa F=>?_
 refine Xd (k:=15) (i:=15) Z F (J4 H 0 sizeOf5 F Z Z Z O λw H=>?_)
 refine gg 13 λa F=>?_
 refine cLoopS [0,1] (λm r w=>∃(i j:Nat)(e:By),m=j+1/\r=[(9,Ve ((i:Nat):Int)),(10,Ve ((j:Nat):Int))]/\Pe o u i j e/\e o=d G/\Sm o u d e/\Own W row w (.byt g n c e::rs)) F (u-1+1) [(9,Ve ((o+1:Nat):Int)),(10,Ve ((u-1:Nat):Int))] ?_ ?_
 ·exact⟨o+1,u-1,_,Z,Z,⟨AI _,O,O,λk I B=>O,λk I B=>O⟩,by unfold swp;rw[if_pos Z],Sm.swap d O O O O,Gf H⟩
 clear F H;intro m r a w E F
 obtain⟨i,j,e,rfl,rfl,b,v,y,H⟩:=E
 refine gg 3 λa F=>?_
 refine cLoopS [0,1,10] (λm r w=>∃(i:Nat),m=j+1-i/\r=[(9,Ve ((i:Nat):Int))]/\Pe o u i j e/\Own W row w (.byt g n c e::rs)) F (j+1-i) [(9,Ve ((i:Nat):Int))] ?_ ?_
 ·exact⟨i,Z,Z,b,H⟩
 clear F H;intro m r a w E F
 clear b;obtain⟨i,rfl,rfl,b,H⟩:=E;have T:=b.lo;have J:=b.ij;have K:=b.jb
 refine gg 2 λa F=>?_
 refine zRO H λH=>?_
 refine gg 4 λa F=>?_
 refine zSp 32 F (λP F=>?_) λP F=>?_
 ·
  refine gg 8 λa F=>?_
  refine zEc 12 F (UN (e o) (e i) _) H λa w F H=>?_
  refine gg 5 λa F=>zi (λD=>?_) λD=>?_
  ·
   refine gg 7 λa F=>?_
   have A:¬(e o).toNat<(e i).toNat:=by simpa using D
   exact⟨_,O,_,⟨i+1,Z,Z,b.up O A,H⟩,F.tt⟩
  refine gg 3 λa F=>?_
  refine cLoopS [0,1,9] (λm r w=>∃(q:Nat),m=q+1/\r=[(10,Ve ((q:Nat):Int))]/\Pe o u i q e/\(i<=q->(e o).toNat<(e i).toNat)/\q<=j/\Own W row w (.byt g n c e::rs)) F (j+1) [(10,Ve ((j:Nat):Int))] ?_ ?_
  ·(have A:(e o).toNat<(e i).toNat:=by simpa using D
    exact⟨j,Z,Z,b,λ_=>A,AI _,H⟩)
  clear F H;intro m r a w E F
  clear b J K;obtain⟨q,rfl,rfl,b,z,L,H⟩:=E;have J:=b.ij;have K:=b.jb
  refine gg 2 λa F=>?_
  refine zRO H λH=>?_
  refine gg 4 λa F=>?_
  refine zSp 49 F (λM F=>?_) λM F=>?_
  ·
   refine gg 8 λa F=>?_
   refine zEc 12 F (UN (e o) (e q) _) H λa w F H=>?_
   refine gg 3 λa F=>?_
   refine cIf F Z (λs=>?_) (λs=>?_)
   ·
    refine gg 7 λa F=>?_
    have p:(e o).toNat<(e q).toNat:=by simpa using s
    exact⟨_,O,_,⟨q-1,Z,Z,b.down O p,λh=>z O,O,H⟩,F.tt⟩
   refine gg 9 λa F=>zi (λt=>?_) λt=>?_
   ·
    refine gg 8 λa F=>?_
    exact⟨i,e,Z,y,O,O,v,b.small,λk I B=>b.big k O B,H⟩
   refine gg 2 λa F=>?_
   refine zRO H λH=>?_
   refine gg 13 λa F=>?_
   refine Xd (k:=13) (i:=13) Z F (J4 H 0 sizeOf5 F Z Z Z O λw H=>?_)
   refine gg 2 λa F=>?_
   refine Xd (k:=15) (i:=15) Z F (J4 H 0 sizeOf5 F Z Z Z O λw H=>?_)
   refine gg 13 λa F=>?_
   (have p:¬(e o).toNat<(e q).toNat:=by simpa using s
    exact⟨_,O,_,⟨i+1,q-1,_,Z,Z,b.swap O (z O) p,by unfold swp;rw[if_neg O,if_neg O];exact v,y.trans (Sm.swap e O O O O),Gf H⟩,F.tt⟩)
  refine gg 11 λa F=>?_
  refine cIfF F Z ?_
  refine gg 9 λa F=>zi (λt=>?_) λt=>?_
  ·
   refine gg 8 λa F=>?_
   exact⟨i,e,Z,y,O,O,v,b.small,λk I B=>b.big k O B,H⟩
  refine gg 2 λa F=>?_
  refine zRO H λH=>?_
  refine gg 13 λa F=>?_
  refine Xd (k:=13) (i:=13) Z F (J4 H 0 sizeOf5 F Z Z Z O λw H=>?_)
  refine gg 2 λa F=>?_
  refine Xd (k:=15) (i:=15) Z F (J4 H 0 sizeOf5 F Z Z Z O λw H=>?_)
  refine gg 13 λa F=>?_
  (exfalso;omega)
 refine gg 12 λa F=>?_
 refine cIfF F Z ?_
 refine gg 3 λa F=>?_
 refine cLoopS [0,1,9] (λm r w=>∃(q:Nat),m=q+1/\r=[(10,Ve ((q:Nat):Int))]/\Pe o u i q e/\(i<=q->(e o).toNat<(e i).toNat)/\q<=j/\Own W row w (.byt g n c e::rs)) F (j+1) [(10,Ve ((j:Nat):Int))] ?_ ?_
 ·exact⟨j,Z,Z,b,λh=>O,AI _,H⟩
 clear F H;intro m r a w E F
 clear b J K;obtain⟨q,rfl,rfl,b,z,L,H⟩:=E;have J:=b.ij;have K:=b.jb
 refine gg 2 λa F=>?_
 refine zRO H λH=>?_
 refine gg 4 λa F=>?_
 refine zSp 49 F (λM F=>?_) λM F=>?_
 ·
  refine gg 8 λa F=>?_
  refine zEc 12 F (UN (e o) (e q) _) H λa w F H=>?_
  refine gg 3 λa F=>?_
  refine cIf F Z (λs=>?_) (λs=>?_)
  ·
   refine gg 7 λa F=>?_
   have p:(e o).toNat<(e q).toNat:=by simpa using s
   exact⟨_,O,_,⟨q-1,Z,Z,b.down O p,λh=>z O,O,H⟩,F.tt⟩
  refine gg 9 λa F=>zi (λt=>?_) λt=>?_
  ·
   refine gg 8 λa F=>?_
   exact⟨i,e,Z,y,O,O,v,b.small,λk I B=>b.big k O B,H⟩
  refine gg 2 λa F=>?_
  refine zRO H λH=>?_
  refine gg 13 λa F=>?_
  refine Xd (k:=13) (i:=13) Z F (J4 H 0 sizeOf5 F Z Z Z O λw H=>?_)
  refine gg 2 λa F=>?_
  refine Xd (k:=15) (i:=15) Z F (J4 H 0 sizeOf5 F Z Z Z O λw H=>?_)
  refine gg 13 λa F=>?_
  (have p:¬(e o).toNat<(e q).toNat:=by simpa using s
   exact⟨_,O,_,⟨i+1,q-1,_,Z,Z,b.swap O (z O) p,by unfold swp;rw[if_neg O,if_neg O];exact v,y.trans (Sm.swap e O O O O),Gf H⟩,F.tt⟩)
 refine gg 11 λa F=>?_
 refine cIfF F Z ?_
 refine gg 9 λa F=>zi (λt=>?_) λt=>?_
 ·
  refine gg 8 λa F=>?_
  exact⟨i,e,Z,y,O,O,v,b.small,λk I B=>b.big k O B,H⟩
 refine gg 2 λa F=>?_
 refine zRO H λH=>?_
 refine gg 13 λa F=>?_
 refine Xd (k:=13) (i:=13) Z F (J4 H 0 sizeOf5 F Z Z Z O λw H=>?_)
 refine gg 2 λa F=>?_
 refine Xd (k:=15) (i:=15) Z F (J4 H 0 sizeOf5 F Z Z Z O λw H=>?_)
 refine gg 13 λa F=>?_
 (exfalso;omega)
theorem XeX(g n c:Nat)(d:By)(s u pv:Nat)(W:World)(row:Option Nat)(rs:List Res)(w0:World)(H:Own W row w0 (.byt g n c d::rs))(hb:u<=n)(hn:n<=1000000)(a6:s<=pv)(aA:pv<u):
 Calls prog 218 #[Vd g 0 n c,Ve (s:Int),Ve (u:Int),Ve (pv:Int)] w0 λe w'=>∃(m:Nat)(r:Bool)(d':By),e=.returned (.tuple #[Ve (m:Int),.bool r])/\Sm s u d d'/\Parted s u m d'/\Own W row w' (.byt g n c d'::rs):=by
 refine VU func218 Z ntmps218 Z (λa F=>?_)
 refine gg 6 λa F=>?_
 refine zRO H λH=>?_
 refine gg 13 λa F=>?_
 refine Xd (k:=13) (i:=13) Z F (J4 H 0 sizeOf5 F Z Z Z O λw H=>?_)
 refine gg 2 λa F=>?_
 refine Xd (k:=15) (i:=15) Z F (J4 H 0 sizeOf5 F Z Z Z O λw H=>?_)
 refine gg 11 λa F=>?_
 refine cSeqS [0,1,11] (λq w=>∃(i:Nat)(e:By),q=[(10,Ve ((i:Nat):Int))]/\Pt s u i (u-1) e/\Sm s u d e/\(i<=u-1->¬(e i).toNat<(e s).toNat)/\Own W row w (.byt g n c e::rs)) F ?_ ?_
 ·
  refine gg 1 λa F=>?_
  refine cLoopS [0,1,11] (λm q w=>∃(i:Nat)(e:By),m=u-i/\q=[(10,Ve ((i:Nat):Int))]/\Pt s u i (u-1) e/\Sm s u d e/\Own W row w (.byt g n c e::rs)) F (u-(s+1)) [(10,Ve ((s+1:Nat):Int))] ?_ ?_
  ·exact⟨s+1,_,Z,Z,⟨AI _,O,O,O,λk h1 h2=>O,λk h1 h2=>O⟩,Sm.swap d O O O O,Gf H⟩
  clear F H;intro m q a w B F
  obtain⟨i,e,rfl,rfl,p,C,H⟩:=B;have q1:=p.lo;have I:=p.ij;have q3:=p.jb;have J:=p.aj
  refine gg 2 λa F=>?_
  refine zRO H λH=>?_
  refine gg 4 λa F=>?_
  refine zSp 33 F (λa8 F=>?_) λa8 F=>?_
  ·
   refine gg 8 λa F=>?_
   refine zEc 12 F (UN (e i) (e s) _) H λa w F H=>?_
   refine gg 3 λa F=>?_
   refine cIf F Z (λT=>?_) (λT=>?_)
   ·
    refine gg 7 λa F=>?_
    exact⟨_,O,_,⟨i+1,e,Z,Z,p.up O (of_decide_eq_true T),C,H⟩,F.tt⟩
   refine gg 1 λa F=>?_
   exact⟨_,⟨i,e,Z,p,C,λ_=>of_decide_eq_false T,H⟩,F.tt⟩
  refine gg 11 λa F=>?_
  refine cIfF F Z ?_
  refine gg 1 λa F=>?_
  exact⟨_,⟨i,e,Z,p,C,λh=>absurd h O,H⟩,F.tt⟩
 clear F H
 intro q a w B F
 obtain⟨i,e,rfl,p,C,a2,H⟩:=B;have q1:=p.lo;have I:=p.ij;have q3:=p.jb;have J:=p.aj
 refine cSeqS [0,1,10] (λq w=>∃j:Nat,q=[(11,Ve ((j:Nat):Int))]/\Pt s u i j e/\(i<=j->¬(e i).toNat<(e s).toNat)/\(i<=j->(e j).toNat<(e s).toNat)/\j<u/\Own W row w (.byt g n c e::rs)) F ?_ ?_
 ·
  refine gg 1 λa F=>?_
  refine cLoopS [0,1,10] (λm q w=>∃(j:Nat),m=j+1/\q=[(11,Ve ((j:Nat):Int))]/\Pt s u i j e/\(i<=j->¬(e i).toNat<(e s).toNat)/\j<u/\Own W row w (.byt g n c e::rs)) F (u-1+1) [(11,Ve ((u-1:Nat):Int))] ?_ ?_
  ·exact⟨u-1,Z,Z,p,a2,O,H⟩
  clear F H;intro m q a w B F
  clear p I q3 J;obtain⟨j,rfl,rfl,p,t,S,H⟩:=B;have I:=p.ij;have J:=p.aj
  refine gg 2 λa F=>?_
  refine zRO H λH=>?_
  refine gg 4 λa F=>?_
  refine zSp 49 F (λa7 F=>?_) λa7 F=>?_
  ·
   refine gg 8 λa F=>?_
   refine zEc 12 F (UN (e j) (e s) _) H λa w F H=>?_
   refine gg 5 λa F=>zi (λR=>?_) λR=>?_
   ·
    refine gg 7 λa F=>?_
    have L:¬(e j).toNat<(e s).toNat:=by simpa using R
    exact⟨_,O,_,⟨j-1,Z,Z,p.down O L,λh=>t O,O,H⟩,F.tt⟩
   refine gg 1 λa F=>?_
   exact⟨_,⟨j,Z,p,t,λ_=>of_decide_eq_true R,S,H⟩,F.tt⟩
  refine gg 12 λa F=>?_
  refine cIfF F Z ?_
  refine gg 1 λa F=>?_
  exact⟨_,⟨j,Z,p,t,λh=>absurd h O,S,H⟩,F.tt⟩
 clear F H
 intro q a w B F
 clear p I J;obtain⟨j,rfl,p,t,Q,S,H⟩:=B;have I:=p.ij;have J:=p.aj
 refine gg 8 λa F=>zi (λa3=>?_) λa3=>?_
 ·
  refine gg 1 λa F=>?_
  refine zRO H λH=>?_
  refine gg 13 λa F=>?_
  refine Xd (k:=13) (i:=13) Z F (J4 H 0 sizeOf5 F Z Z Z O λw H=>?_)
  refine gg 2 λa F=>?_
  refine Xd (k:=15) (i:=15) Z F (J4 H 0 sizeOf5 F Z Z Z O λw H=>?_)
  refine gg 9 λa F=>?_
  refine Gy results218 F Z Z ?_
  exact⟨j,true,_,Z,C.trans (Sm.swap e O O O O),p.done O,Gf H⟩
 refine gg 2 λa F=>?_
 refine zRO H λH=>?_
 refine gg 13 λa F=>?_
 refine Xd (k:=13) (i:=13) Z F (J4 H 0 sizeOf5 F Z Z Z O λw H=>?_)
 refine gg 2 λa F=>?_
 refine Xd (k:=15) (i:=15) Z F (J4 H 0 sizeOf5 F Z Z Z O λw H=>?_)
 refine gg 16 λa F=>?_
 have N:i<=j:=O
 have L:(e j).toNat<(e s).toNat:=Q N
 have U:i≠j:=λh=>by
  have:=t N
  rw[h]at this;omega
 have o:=p.swap N U (t N) L
 have y:=C.trans (Sm.swap e (a:=s) (b:=u) (i:=i) (j:=j) O O O O)
 generalize aB:i+1=V at o F
 generalize a9:j-1=E at o F
 replace H:=Gf H
 generalize swp e i j=v at H o y
 clear t p C q1 I J
 refine cLoopS [0,1] (λm q w=>∃(i j:Nat)(e:By),m=j+1/\q=[(10,Ve ((i:Nat):Int)),(11,Ve ((j:Nat):Int))]/\Pt s u i j e/\Sm s u d e/\Own W row w (.byt g n c e::rs)) F (E+1) [(10,Ve ((V:Nat):Int)),(11,Ve ((E:Nat):Int))] ?_ ?_
 ·exact⟨V,E,v,Z,Z,o,y,H⟩
 clear F H;intro m q a w B F
 clear o y;obtain⟨V,E,v,rfl,rfl,o,y,H⟩:=B
 refine gg 1 λa F=>?_
 refine cSeqS [0,1,11] (λq w=>∃z:Nat,q=[(10,Ve ((z:Nat):Int))]/\Pt s u z E v/\(z<=E->¬(v z).toNat<(v s).toNat)/\Own W row w (.byt g n c v::rs)) F ?_ ?_
 ·
  refine gg 1 λa F=>?_
  refine cLoopS [0,1,11] (λm q w=>∃(i:Nat),m=E+1-i/\q=[(10,Ve ((i:Nat):Int))]/\Pt s u i E v/\Own W row w (.byt g n c v::rs)) F (E+1-V) [(10,Ve ((V:Nat):Int))] ?_ ?_
  ·exact⟨V,Z,Z,o,H⟩
  clear F H;intro m q a w B F
  clear o;obtain⟨z,rfl,rfl,o,H⟩:=B;have q1:=o.lo;have I:=o.ij;have q3:=o.jb;have J:=o.aj
  refine gg 2 λa F=>?_
  refine zRO H λH=>?_
  refine gg 4 λa F=>?_
  refine zSp 102 F (λa4 F=>?_) λa4 F=>?_
  ·
   refine gg 8 λa F=>?_
   refine zEc 12 F (UN (v z) (v s) _) H λa w F H=>?_
   refine gg 3 λa F=>?_
   refine cIf F Z (λM=>?_) (λM=>?_)
   ·
    refine gg 7 λa F=>?_
    exact⟨_,O,_,⟨z+1,Z,Z,o.up O (of_decide_eq_true M),H⟩,F.tt⟩
   refine gg 1 λa F=>?_
   exact⟨_,⟨z,Z,o,λ_=>of_decide_eq_false M,H⟩,F.tt⟩
  refine gg 11 λa F=>?_
  refine cIfF F Z ?_
  refine gg 1 λa F=>?_
  exact⟨_,⟨z,Z,o,λh=>absurd h O,H⟩,F.tt⟩
 clear F H
 intro q a w B F
 clear o;obtain⟨z,rfl,o,a1,H⟩:=B;have q1:=o.lo;have I:=o.ij;have q3:=o.jb;have J:=o.aj
 refine cSeqS [0,1,10] (λq w=>∃A:Nat,q=[(11,Ve ((A:Nat):Int))]/\Pt s u z A v/\(z<=A->¬(v z).toNat<(v s).toNat)/\(z<=A->(v A).toNat<(v s).toNat)/\A<=E/\Own W row w (.byt g n c v::rs)) F ?_ ?_
 ·
  refine gg 1 λa F=>?_
  refine cLoopS [0,1,10] (λm q w=>∃(j:Nat),m=j+1/\q=[(11,Ve ((j:Nat):Int))]/\Pt s u z j v/\(z<=j->¬(v z).toNat<(v s).toNat)/\j<=E/\Own W row w (.byt g n c v::rs)) F (E+1) [(11,Ve ((E:Nat):Int))] ?_ ?_
  ·exact⟨E,Z,Z,o,a1,AI _,H⟩
  clear F H;intro m q a w B F
  clear o I J;obtain⟨A,rfl,rfl,o,t,P,H⟩:=B;have I:=o.ij;have J:=o.aj
  refine gg 2 λa F=>?_
  refine zRO H λH=>?_
  refine gg 4 λa F=>?_
  refine zSp 118 F (λa5 F=>?_) λa5 F=>?_
  ·
   refine gg 8 λa F=>?_
   refine zEc 12 F (UN (v A) (v s) _) H λa w F H=>?_
   refine gg 5 λa F=>zi (λK=>?_) λK=>?_
   ·
    refine gg 7 λa F=>?_
    have D:¬(v A).toNat<(v s).toNat:=by simpa using K
    exact⟨_,O,_,⟨A-1,Z,Z,o.down O D,λh=>t O,O,H⟩,F.tt⟩
   refine gg 1 λa F=>?_
   exact⟨_,⟨A,Z,o,t,λ_=>of_decide_eq_true K,P,H⟩,F.tt⟩
  refine gg 12 λa F=>?_
  refine cIfF F Z ?_
  refine gg 1 λa F=>?_
  exact⟨_,⟨A,Z,o,t,λh=>absurd h O,P,H⟩,F.tt⟩
 clear F H
 intro q a w B F
 clear o I J;obtain⟨A,rfl,o,t,Q,P,H⟩:=B;have I:=o.ij;have J:=o.aj
 refine gg 8 λa F=>zi (λX=>?_) λX=>?_
 ·
  refine gg 2 λa F=>?_
  refine zRO H λH=>?_
  refine gg 13 λa F=>?_
  refine Xd (k:=13) (i:=13) Z F (J4 H 0 sizeOf5 F Z Z Z O λw H=>?_)
  refine gg 2 λa F=>?_
  refine Xd (k:=15) (i:=15) Z F (J4 H 0 sizeOf5 F Z Z Z O λw H=>?_)
  refine gg 9 λa F=>?_
  refine Gy results218 F Z Z ?_
  exact⟨A,false,_,Z,y.trans (Sm.swap v O O O O),o.done O,Gf H⟩
 refine gg 2 λa F=>?_
 refine zRO H λH=>?_
 refine gg 13 λa F=>?_
 refine Xd (k:=13) (i:=13) Z F (J4 H 0 sizeOf5 F Z Z Z O λw H=>?_)
 refine gg 2 λa F=>?_
 refine Xd (k:=15) (i:=15) Z F (J4 H 0 sizeOf5 F Z Z Z O λw H=>?_)
 refine gg 13 λa F=>?_
 (have G:z<=A:=O
  have D:(v A).toNat<(v s).toNat:=Q G
  have U:z≠A:=λh=>by
   have:=t G
   rw[h]at this;omega
  exact⟨_,O,_,⟨z+1,A-1,_,Z,Z,o.swap G U (t G) D,y.trans (Sm.swap v O O O O),Gf H⟩,F.tt⟩)
abbrev Res.cnt(b s:Nat):Res:=.blk b [.int .i64 (s:Int)] 3
theorem Lu(g n c:Nat)(d:By)(x y b s:Nat)(W:World)(row:Option Nat)(rs:List Res)(w0:World)(H:Own W row w0 (.cnt b s:: .byt g n c d::rs))(q:x<n)(r:y<n)(t:n<=1000000)(hs:s<=1000):
 Calls prog 245 #[Vd g 0 n c,Ve (x:Int),Ve (y:Int),Vc b 0] w0 λe p=>∃m j o:Nat,e=.returned (.tuple #[Ve (m:Int),Ve (j:Int)])/\(m=x/\j=y\/m=y/\j=x)/\o<=s+1/\Own W row p (.cnt b o:: .byt g n c d::rs):=by
 refine VU func245 Z ntmps245 Z (λa F=>?_)
 refine gg 7 λa F=>?_
 refine zRO H λH=>?_
 refine gg 8 λa F=>?_
 refine zEc 8 F (UN (d y) (d x) _) H λa w F H=>?_
 refine gg 2 λa F=>?_
 refine cIf F Z (λi=>?_) (λi=>?_)
 ·
  refine gg 7 λa F=>?_
  refine zSt H 0 F λw H=>?_
  refine gg 9 λa F=>?_
  refine Gy results245 F Z Z ?_
  exact⟨y,x,s+1,Z,.inr ⟨Z,Z⟩,AI _,H⟩
 refine gg 9 λa F=>?_
 refine Gy results245 F Z Z ?_
 exact⟨x,y,s,Z,.inl ⟨Z,Z⟩,O,H⟩
theorem LB(g n c:Nat)(d:By)(x y z b s:Nat)(W:World)(row:Option Nat)(rs:List Res)(w0:World)(H:Own W row w0 (.cnt b s:: .byt g n c d::rs))(u:x<n)(o:y<n)(G:z<n)(j:n<=1000000)(hs:s<=900):
 Calls prog 237 #[Vd g 0 n c,Ve (x:Int),Ve (y:Int),Ve (z:Int),Vc b 0] w0 λe I=>∃r m:Nat,e=.returned (Ve (r:Int))/\(r=x\/r=y\/r=z)/\m<=s+3/\Own W row I (.cnt b m:: .byt g n c d::rs):=by
 refine VU func237 Z ntmps237 Z (λa F=>?_)
 refine gg 10 λa F=>?_
 refine Xi call245 F Z (Lu g n c d x y b s W row rs _ H u o j O) ?_;rintro e w ⟨p,B,C,rfl,M,J,i⟩
 replace H:=i;clear i
 refine zq λa F=>?_
 refine gg 12 λa F=>?_
 refine Xi call245 F Z (Lu g n c d B z b C W row rs _ H O G j O) ?_;rintro e w ⟨v,P,D,rfl,L,q,i⟩
 replace H:=i;clear i
 refine zq λa F=>?_
 refine gg 12 λa F=>?_
 refine Xi call245 F Z (Lu g n c d p v b D W row rs _ H O O j O) ?_;rintro e w ⟨N,A,t,rfl,K,E,i⟩
 replace H:=i;clear i
 refine zq λa F=>?_
 refine gg 13 λa F=>?_
 exact⟨A,t,Z,O,O,H⟩
theorem QA(g n c:Nat)(d:By)(x b s:Nat)(W:World)(row:Option Nat)(rs:List Res)(w0:World)(H:Own W row w0 (.cnt b s:: .byt g n c d::rs))(o:x+1<n)(p:0<x)(u:n<=1000000)(hs:s<=900):
 Calls prog 236 #[Vd g 0 n c,Ve (x:Int),Vc b 0] w0 λe t=>∃r j:Nat,e=.returned (Ve (r:Int))/\x-1<=r/\r<=x+1/\j<=s+3/\Own W row t (.cnt b j:: .byt g n c d::rs):=by
 refine VU func236 Z ntmps236 Z (λa F=>?_)
 refine gg 13 λa F=>?_
 refine Xi call237 F Z (LB g n c d (x-1) x (x+1) b s W row rs _ H O O o u O) ?_;rintro e w ⟨r,q,rfl,v,i,m⟩
 replace H:=m;clear m
 refine zq λa F=>?_
 refine gg 4 λa F=>?_
 exact⟨r,q,Z,O,O,i,H⟩
theorem Xg8(g n c:Nat)(d:By)(b m:Nat)(W:World)(row:Option Nat)(rs:List Res)(w0:World)(H:Own W row w0 (.byt g n c d::rs))(hb:m<=n)(s:n<=1000000)(G:b+12<m):
 Calls prog 213 #[Vd g 0 n c,Ve (b:Int),Ve (m:Int)] w0 λe S=>∃(p:Nat)(h:Int),e=.returned (.tuple #[Ve (p:Int),Ve h])/\b<=p/\p<m/\Own W row S (.byt g n c d::rs):=by
 refine VU func213 Z ntmps213 Z (λa F=>?_)
 refine gg 14 λa F=>?_
 refine zAl zeroValue3 H F λr a w F H=>?_
 refine gg 5 λa F=>?_
 refine Xh F Z Z (XcE (j:=4) ?_ ?_) ?_
 focus omega
 focus omega
 clear F a;intro a F
 refine Xh F Z Z (XaR (j:=1) ?_) ?_
 focus omega
 clear F a;intro a F
 refine gg 7 λa F=>?_
 refine Xh F Z Z (XcE (j:=4) ?_ ?_) ?_
 focus omega
 focus omega
 clear F a;intro a F
 refine Xh F Z Z (XaR (j:=2) ?_) ?_
 focus omega
 clear F a;intro a F
 refine gg 7 λa F=>?_
 refine Xh F Z Z (XcE (j:=4) ?_ ?_) ?_
 focus omega
 focus omega
 clear F a;intro a F
 refine Xh F Z Z (XaR (j:=3) ?_) ?_
 focus omega
 clear F a;intro a F
 refine gg 10 λa F=>zi (λt=>?_) λt=>?_
 ·
  refine gg 7 λa F=>zi (λu=>?_) λu=>?_
  ·
   refine gg 4 λa F=>?_
   refine Xi call236 F Z (QA g n c d (b+(m-b)/4*1) r 0 W row rs _ H O O s O) ?_;rintro e w ⟨I,N,rfl,D,y,T,i⟩
   replace H:=i;clear i
   refine zq λa F=>?_
   refine gg 6 λa F=>?_
   refine Xi call236 F Z (QA g n c d (b+(m-b)/4*2) r N W row rs _ H O O s O) ?_;rintro e w ⟨L,P,rfl,B,A,J,i⟩
   replace H:=i;clear i
   refine zq λa F=>?_
   refine gg 5 λa F=>?_
   refine Xi call236 F Z (QA g n c d (b+(m-b)/4*3) r P W row rs _ H O O s O) ?_;rintro e w ⟨M,K,rfl,E,z,R,i⟩
   replace H:=i;clear i
   refine zq λa F=>?_
   refine gg 7 λa F=>?_
   refine Xi call237 F Z ((by exact LB g n c d I L M r K W row rs _ H O O O s O)) ?_;rintro e w ⟨p,C,rfl,Q,v,i⟩
   replace H:=i;clear i
   refine zq λa F=>?_
   refine gg 13 λa F=>zi (λo=>?_) λo=>?_
   ·
    refine gg 7 λa F=>?_
    refine Gy results213 F Z Z ?_
    exact⟨p,_,Z,O,O,H.tail⟩
   refine gg 6 λa F=>zi (λq=>?_) λq=>?_
   ·
    refine gg 7 λa F=>?_
    refine Gy results213 F Z Z ?_
    exact⟨p,_,Z,O,O,H.tail⟩
   refine gg 7 λa F=>?_
   refine Gy results213 F Z Z ?_
   exact⟨p,_,Z,O,O,H.tail⟩
  refine gg 6 λa F=>?_
  refine Xi call237 F Z ((by exact LB g n c d (b+(m-b)/4*1) (b+(m-b)/4*2) (b+(m-b)/4*3) r 0 W row rs _ H O O O s O)) ?_;rintro e w ⟨p,C,rfl,Q,v,i⟩
  replace H:=i;clear i
  refine zq λa F=>?_
  refine gg 13 λa F=>zi (λo=>?_) λo=>?_
  ·
   refine gg 7 λa F=>?_
   refine Gy results213 F Z Z ?_
   exact⟨p,_,Z,O,O,H.tail⟩
  refine gg 6 λa F=>zi (λq=>?_) λq=>?_
  ·
   refine gg 7 λa F=>?_
   refine Gy results213 F Z Z ?_
   exact⟨p,_,Z,O,O,H.tail⟩
  refine gg 7 λa F=>?_
  refine Gy results213 F Z Z ?_
  exact⟨p,_,Z,O,O,H.tail⟩
 omega
theorem Own.swp2{r:Res}{i:Nat}{d:By}(H:Own w0 row w (r:: .byt g n c (put (put d i (d j)) j (d i))::rs)):Own w0 row w (r:: .byt g n c (swp d i j)::rs):=by
 rw[XiH]at H;exact H
def TabP(j:Nat)(t:UInt8):Prop:=(0<j->2^t.toNat<=2*j)/\t.toNat<=8
def Xot(s:ByteArray):Bool:=s.size==256&&(List.range 256).all λj=>(j==0||Nat.ble (2^(s.data.toList.getD j 0).toNat) (2*j))&&Nat.ble (s.data.toList.getD j 0).toNat 8
theorem Xpb{s:ByteArray}(h:Xot s=true)(d:j<256):∃h:j<s.size,TabP j (s[j]'h):=by
 unfold Xot at h
 rw[AJ,beq_iff_eq]at h
 have c:=Ah.1 h.2 j (Ab.2 d)
 have b:j<s.size:=O
 refine⟨b,?_⟩
 have e:s.data.toList.getD j 0=s[j]'b:=by
  rw[AS,AA (by simpa using b)]
  rfl
 rw[e,AJ,FM,beq_iff_eq]at c
 refine⟨λg=>?_,FG c.2⟩
 rcases c.1 with h2|h2
 ·omega
 ·exact FG h2
section
variable{P:Program}{l:List Oper}{Q:Exit->Act->World->Prop}{N:Nat}{a:Act}{env:List (Nat×Value)}{rest:List Oper}{d:Tmp}{ty:TypeId}{pos:String}{af:Array Edge}{g:Option (Nat×Bool)}{w:World}
theorem sIdT{t:TypeId}{x i:Operand}{s:ByteArray}{k:IntKind}(o:P.underlying t=some .string)(F:Has N a env)(e:V2 l env g=true)(n:Nat.blt d N=true)(c:ev env x=some (.string s))(q:ev env i=some (.int k (j:Int)))(hs:Xot s=true)(m:j<256)(K:∀(t:UInt8),TabP j t->∀a,Has N a ((d,b8 t)::env)->wpList P l.toArray Q rest a w):wpList P l.toArray Q (⟨some d,.index t x i,ty,pos,af,g⟩::rest) a w:=by
 obtain⟨r,p⟩:=Xpb hs m
 refine UV F e Z n (v:=b8 (s[j]'r)) ?_ (K _ p)
 have b:=run_index_string (P:=P) w t s k (j:Int) o
 rw[dif_pos O]at b
 simp only[execOp,F.eval c,F.eval q,Sem.run_bind,b,Result.andThen_ok,Sem.run_pure]
 rfl
end
theorem Xem(h:n<256):IntKind.u8.wrap (n:Int)=(n:Int):=by
 have:IntKind.u8.wrap (n:Int)=(n:Int)%256:=by simp[IntKind.wrap,IntKind.signed,IntKind.bits]
 rw[this];omega
theorem Du{t x y:Nat}(b:2^t<=2*y)(c:y*2^a<=x):2^(a+t)<=2*x:=by
 rw[Nat.pow_add]
 have d:2^a*2^t<=2^a*(2*y):=Nat.mul_le_mul_left _ b
 have e:2^a*(2*y)=2*(y*2^a):=by rw[IH (2^a),Nat.mul_assoc]
 omega
theorem Xjt(x:Nat)(w0:World)(p:x<4294967296):
 Calls prog 149 #[.int .u64 (x:Int)] w0 λe n=>∃r:Nat,e=.returned (Ve (r:Int))/\(0<x->2^r<=2*x)/\r<=40/\Below w0.heap.size w0 n:=by
 refine Vb func149 ntmps149 λH a F=>?_
 refine gg 11 λa F=>zi (λo=>?_) λo=>?_
 ·
  omega
 refine gg 8 λa F=>zi (λm=>?_) λm=>?_
 ·
  refine gg 3 λa F=>?_
  refine Xh F Z Z (Xm5 (c:=16) ?_) ?_
  focus decide
  clear F a;intro a F
  refine gg 4 λa F=>?_
  refine Xh F Z Z (JN ?_) ?_
  focus omega
  clear F a;intro a F
  refine gg 9 λa F=>zi (λi=>?_) λi=>?_
  ·
   refine gg 3 λa F=>?_
   refine Xh F Z Z (Xm5 (c:=8) ?_) ?_
   focus decide
   clear F a;intro a F
   refine gg 4 λa F=>?_
   refine Xh F Z Z (JN ?_) ?_
   focus omega
   clear F a;intro a F
   refine gg 6 λa F=>?_
   refine sCv Yc Xq F Z Z Z (Xem O) λa F=>?_;refine sIdT XY F Z Z Z Z Y O λd b a F=>?_
   have j:=b.2
   refine gg 1 λa F=>?_
   refine Xh F Z Z (JN ?_) ?_
   focus omega
   clear F a;intro a F
   refine gg 4 λa F=>?_
   exact⟨24+d.toNat,by congr 2<;>omega,λg=>Du (y:=x/2^16/2^8) (b.1 O) O,O,H.below⟩
  refine gg 5 λa F=>?_
  refine sCv Yc Xq F Z Z Z (Xem O) λa F=>?_;refine sIdT XY F Z Z Z Z Y O λd b a F=>?_
  have j:=b.2
  refine gg 1 λa F=>?_
  refine Xh F Z Z (JN ?_) ?_
  focus omega
  clear F a;intro a F
  refine gg 4 λa F=>?_
  exact⟨16+d.toNat,by congr 2<;>omega,λg=>Du (y:=x/2^16) (b.1 O) O,O,H.below⟩
 refine gg 8 λa F=>zi (λi=>?_) λi=>?_
 ·
  refine gg 3 λa F=>?_
  refine Xh F Z Z (Xm5 (c:=8) ?_) ?_
  focus decide
  clear F a;intro a F
  refine gg 4 λa F=>?_
  refine Xh F Z Z (JN ?_) ?_
  focus omega
  clear F a;intro a F
  refine gg 6 λa F=>?_
  refine sCv Yc Xq F Z Z Z (Xem O) λa F=>?_;refine sIdT XY F Z Z Z Z Y O λd b a F=>?_
  have j:=b.2
  refine gg 1 λa F=>?_
  refine Xh F Z Z (JN ?_) ?_
  focus omega
  clear F a;intro a F
  refine gg 4 λa F=>?_
  exact⟨8+d.toNat,by congr 2<;>omega,λg=>Du (y:=x/2^8) (b.1 O) O,O,H.below⟩
 refine gg 5 λa F=>?_
 refine sCv Yc Xq F Z Z Z (Xem O) λa F=>?_;refine sIdT XY F Z Z Z Z Y O λd b a F=>?_
 have j:=b.2
 refine gg 1 λa F=>?_
 refine Xh F Z Z (JN ?_) ?_
 focus omega
 clear F a;intro a F
 refine gg 4 λa F=>?_
 exact⟨d.toNat,by congr 2<;>omega,λg=>b.1 O,O,H.below⟩
theorem Xal(x:Nat)(w0:World)(g:x<4294967296):
 Calls prog 86 #[.int .u64 (x:Int)] w0 λe i=>∃r:Nat,e=.returned (Ve (r:Int))/\(0<x->2^r<=2*x)/\r<=40/\Below w0.heap.size w0 i:=by
 refine Vb func86 ntmps86 λH a F=>?_
 refine gg 5 λa F=>?_
 refine cIfF F Z ?_
 refine gg 4 λa F=>?_
 refine Xi call149 F Z (Xjt x _ g) ?_;rintro e w ⟨r,rfl,c,b,d⟩;replace H:=H.grow d;clear d
 refine zq λa F=>?_
 refine gg 4 λa F=>?_
 exact⟨r,Z,c,b,H.below⟩
theorem Xrj{r:Nat}(h:r<=40):2^r<18446744073709551616:=by
 have:2^r<=2^40:=Iq (by decide) h
 omega
theorem XdD(x:Nat)(w0:World)(b:0<x)(o:x<=1000000):
 Calls prog 196 #[Ve (x:Int)] w0 λe m=>∃r:Nat,e=.returned (.int .u64 (r:Int))/\1<=r/\r<=2*x/\Below w0.heap.size w0 m:=by
 refine Vb func196 ntmps196 λH a F=>?_
 refine gg 7 λa F=>?_
 refine sCv XX underlying180 F Z Z Z (XcT O) λa F=>?_;refine Xi call86 F Z (Xal x _ O) ?_;rintro e w ⟨r,rfl,d,c,g⟩;replace H:=H.grow g;clear g
 refine zq λa F=>?_
 refine Xh F Z Z (XpQ (n:=1) ?_) ?_
 focus omega
 clear F a;intro a F
 refine gg 4 λa F=>?_
 have j:=Xrj c
 have i:0<2^r:=Nat.pow_pos (by decide)
 refine⟨2^r,?_,i,d b,H.below⟩
 rw[Ht,Fg j]
def nx1(v:Nat):Nat:=v^^^(v*2^13%18446744073709551616)
def nx2(v:Nat):Nat:=nx1 v^^^(nx1 v/2^7)
def nx3(v:Nat):Nat:=nx2 v^^^(nx2 v*2^17%18446744073709551616)
theorem Xi0(h:v<18446744073709551616):nx1 v<18446744073709551616:=Iy (n:=64) h (IW _ (by decide))
theorem XnA(h:v<18446744073709551616):nx2 v<18446744073709551616:=Iy (n:=64) (Xi0 h) (Ic (Nat.div_le_self _ _) (Xi0 h))
theorem Xry(h:v<18446744073709551616):nx3 v<18446744073709551616:=Iy (n:=64) (XnA h) (IW _ (by decide))
theorem Xho(b v:Nat)(ty:TypeId)(W:World)(row:Option Nat)(rs:List Res)(w0:World)(H:Own W row w0 (.blk b [.int .u64 (v:Int)] ty::rs))(d:v<18446744073709551616):
 Calls prog 197 #[Vc b 0] w0 λe o=>∃g:Nat,e=.returned (.int .u64 (g:Int))/\g<18446744073709551616/\Own W row o (.blk b [.int .u64 (g:Int)] ty::rs):=by
 have j:=Xi0 d
 have n:=XnA d
 have m:=Xry d
 refine VU func197 Z ntmps197 Z (λa F=>?_)
 refine gg 5 λa F=>?_
 refine zRO H λH=>?_
 refine gg 6 λa F=>?_
 refine Xf (k:=6) (i:=6) Z F Z (λw=>Gt F Z Z (XpQ (c:=13) ?_)) H (λ_ _ _ h=>h) ?_
 focus decide
 clear F a;intro a F
 refine Xf (k:=7) (i:=7) Z F Z (λw=>Gt F Z Z (XpO ?_ ?_)) H (λ_ _ _ h=>h) ?_
 focus exact d
 focus exact IW _ (by decide)
 clear F a;intro a F
 refine gg 1 λa F=>?_
 refine Xd (k:=9) (i:=9) Z F (oSt H 0 sizeOf296 F Z Z Z Z Z λw H=>?_)
 refine gg 3 λa F=>?_
 refine zRO H λH=>?_
 refine gg 6 λa F=>?_
 refine Xf (k:=6) (i:=6) Z F Z (λw=>Gt F Z Z (Xm5 (c:=7) ?_)) H (λ_ _ _ h=>h) ?_
 focus decide
 clear F a;intro a F
 refine Xf (k:=7) (i:=7) Z F Z (λw=>Gt F Z Z (XpO ?_ ?_)) H (λ_ _ _ h=>h) ?_
 focus exact j
 focus exact Ic (Nat.div_le_self _ _) j
 clear F a;intro a F
 refine gg 1 λa F=>?_
 refine Xd (k:=9) (i:=9) Z F (oSt H 0 sizeOf296 F Z Z Z Z Z λw H=>?_)
 refine gg 3 λa F=>?_
 refine zRO H λH=>?_
 refine gg 6 λa F=>?_
 refine Xf (k:=6) (i:=6) Z F Z (λw=>Gt F Z Z (XpQ (c:=17) ?_)) H (λ_ _ _ h=>h) ?_
 focus decide
 clear F a;intro a F
 refine Xf (k:=7) (i:=7) Z F Z (λw=>Gt F Z Z (XpO ?_ ?_)) H (λ_ _ _ h=>h) ?_
 focus exact n
 focus exact IW _ (by decide)
 clear F a;intro a F
 refine gg 1 λa F=>?_
 refine Xd (k:=9) (i:=9) Z F (oSt H 0 sizeOf296 F Z Z Z Z Z λw H=>?_)
 refine gg 11 λa F=>?_
 exact⟨nx3 v,Z,m,H⟩
theorem Xkz(g n c:Nat)(d:By)(b o:Nat)(W:World)(row:Option Nat)(rs:List Res)(w0:World)(H:Own W row w0 (.byt g n c d::rs))(hb:o<=n)(P:n<=1000000)(K:b+12<o):
 Calls prog 212 #[Vd g 0 n c,Ve (b:Int),Ve (o:Int)] w0 λe M=>e=.returned (.tuple #[])/\∃B,Sm b o d B/\Own W row M (.byt g n c B::rs):=by
 refine VU func212 Z ntmps212 Z (λa F=>?_)
 refine gg 13 λa F=>zi (λA=>?_) λA=>?_
 ·
  refine gg 3 λa F=>?_
  refine sCv XX underlying296 F Z Z Z (XcT O) λa F=>?_
  refine zAl zeroValue296 H F λD a w F H=>?_
  refine zSt H 0 F λw H=>?_
  refine gg 4 λa F=>?_
  refine Xi call196 F Z (XdD (o-b) _ O O) ?_;rintro e w ⟨p,rfl,G,J,r⟩
  replace H:=H.grow r;clear r
  refine zq λa F=>?_
  refine gg 6 λa F=>?_
  refine Xh F Z Z (XcE (j:=4) ?_ ?_) ?_
  focus omega
  focus omega
  clear F a;intro a F
  refine Xh F Z Z (XaR (j:=2) ?_) ?_
  focus omega
  clear F a;intro a F
  refine gg 5 λa F=>?_
  refine cLoopS [0,1,6,7,8] (λm t w=>∃(i v:Nat)(e:By),m=b+(o-b)/4*2+2-i/\t=[(9,Ve ((i:Nat):Int))]/\b<=i/\v<18446744073709551616/\Sm b o d e/\Own W row w (.blk D [.int .u64 (v:Int)] 296:: .byt g n c e::rs)) F (b+(o-b)/4*2+2-(b+(o-b)/4*2-1)) [(9,Ve ((b+(o-b)/4*2-1:Nat):Int))] ?_ ?_
  ·exact⟨_,o-b,d,Z,Z,O,O,Sm.refl _ _ _,H⟩
  clear F H;intro m t a w N F
  obtain⟨i,v,e,rfl,rfl,I,L,q,H⟩:=N
  refine gg 6 λa F=>?_
  refine Xh F Z Z (XcE (j:=4) ?_ ?_) ?_
  focus omega
  focus omega
  clear F a;intro a F
  refine Xh F Z Z (XaR (j:=2) ?_) ?_
  focus omega
  clear F a;intro a F
  refine gg 5 λa F=>zi (λy=>?_) λy=>?_
  ·
   refine gg 5 λa F=>?_
   refine Xi call197 F Z (Xho D v 296 W row _ _ H L) ?_;rintro e w ⟨z,rfl,s,E⟩
   replace H:=E;clear E;have C:z&&&(p-1)<=p-1:=Nat.and_le_right
   refine zq λa F=>?_
   refine gg 1 λa F=>?_
   refine Xh F Z Z (bSubU (m:=1) ?_ ?_) ?_
   focus omega
   focus omega
   clear F a;intro a F
   refine Xh F Z Z (bAndG ?_ ?_) ?_
   focus omega
   focus omega
   clear F a;intro a F
   refine gg 11 λa F=>zi (λu=>?_) λu=>?_
   ·
    refine gg 6 λa F=>?_
    refine zRO H λH=>?_
    refine gg 17 λa F=>?_
    refine Xd (k:=17) (i:=17) Z F (J4 H 1 Xr F Z Z Z O λw H=>?_)
    refine gg 2 λa F=>?_
    refine Xd (k:=19) (i:=19) Z F (J4 H 1 Xr F Z Z Z O λw H=>?_)
    refine gg 7 λa F=>?_
    exact⟨_,O,_,⟨i+1,z,_,Z,Z,O,s,q.trans (Sm.swap e O O O O),H.swp2⟩,F.tt⟩
   refine gg 1 λa F=>?_
   refine zRO H λH=>?_
   refine gg 17 λa F=>?_
   refine Xd (k:=17) (i:=17) Z F (J4 H 1 Xr F Z Z Z O λw H=>?_)
   refine gg 2 λa F=>?_
   refine Xd (k:=19) (i:=19) Z F (J4 H 1 Xr F Z Z Z O λw H=>?_)
   refine gg 7 λa F=>?_
   exact⟨_,O,_,⟨i+1,z,_,Z,Z,O,s,q.trans (Sm.swap e O O O O),H.swp2⟩,F.tt⟩
  refine gg 1 λa F=>?_
  refine bEnd results212 F ?_
  exact⟨Z,e,q,H.tail⟩
 omega
theorem Pq.eqs{p m:Nat}{f:By}(h:Pq a0 b0 a b e)(w:0<a)(y:a<=p)(r:p<b)(o:¬(e (a-1)).toNat<(e p).toNat)(hs:Sm a b e f)(t:f a=e p)(d:∀k,a<k->k<m->(f k).toNat<=(f a).toNat):
 ∀i k,a<=i->i<m->a<=k->k<b->(f i).toNat<=(f k).toNat:=λi k z s n q=>by
 have c:∀k,a<=k->k<b->(e (a-1)).toNat<=(e k).toNat:=by
  rcases h.pre with h5|h5
  ·omega
  ·exact h5
 have g:(f a).toNat<=(f k).toNat:=by
  rw[t]
  exact hs.all (p:=λx=>(e p).toNat<=x.toNat) (λk v j=>by have:=c k v j;omega) k n q
 by_cases u:i=a
 ·rw[u];exact g
 ·exact AW (d i O s) g
theorem Pq.preL{m:Nat}(h:Pq a0 b0 a b e)(hm:m<=b):a=0\/∀k,a<=k->k<m->(e (a-1)).toNat<=(e k).toNat:=by
 rcases h.pre with h1|h1
 ·exact .inl h1
 ·exact .inr λk c d=>h1 k c O
theorem Sm.up{d f:By}(h:Sm a0 b0 d e)(g:Sm a b e f)(q:Pq a0 b0 a b e):Sm a0 b0 d f:=h.trans (g.mono q.a0a q.bb0)
theorem XoU(g n c:Nat)(U:n<=1000000)(W:World)(row:Option Nat)(rs:List Res):∀(K B C G:Nat)(d:By)(w0:World),C-B<=K->Own W row w0 (.byt g n c d::rs)->C<=n->B<=C->G<=1000->(B=0\/∀k,B<=k->k<C->(d (B-1)).toNat<=(d k).toNat) ->
 Calls prog 166 #[Vd g 0 n c,Ve (B:Int),Ve (C:Int),Ve (G:Int)] w0 λe w'=>e=.returned (.tuple #[])/\∃d',Sm B C d d'/\Srt B C d'/\Own W row w' (.byt g n c d'::rs):=by
 intro K
 induction K using Nat.strongRecOn with
 |ind K ih=>
  intro B C G d w0 hK H hb aF aB aA
  refine VU func166 Z ntmps166 Z (λa F=>?_)
  refine gg 9 λa F=>?_
  refine cLoopS [0] (λm y w=>∃(a b G:Nat)(wb wp:Bool)(e:By),m=b-a/\y=[(1,Ve ((a:Nat):Int)),(2,Ve ((b:Nat):Int)),(3,Ve ((G:Nat):Int)),(8,.bool wb),(9,.bool wp)]/\G<=1000/\Pq B C a b e/\Sm B C d e/\Own W row w (.byt g n c e::rs)) F (C-B) [(1,Ve ((B:Nat):Int)),(2,Ve ((C:Nat):Int)),(3,Ve ((G:Nat):Int)),(8,.bool true),(9,.bool true)] ?_ ?_
  ·exact⟨B,C,G,true,true,d,Z,Z,aB,Pq.start aF aA,Sm.refl _ _ _,H⟩
  clear F H;intro m y a w hI F
  obtain⟨u,z,Q,wb,wp,e,rfl,rfl,a2,t,i,H⟩:=hI;have q1:=t.a0a;have q2:=t.ab;have q3:=t.bb0
  refine gg 15 λa F=>zi (λaG=>?_) λaG=>?_
  ·
   refine gg 5 λa F=>?_
   refine Xi call210 F Z (XdO g n c e u z W row rs _ H O U q2) ?_;rintro e w ⟨rfl,e9,A,P,q⟩
   replace H:=q;clear q
   refine zq λa F=>?_
   refine gg 2 λa F=>?_
   refine bEndR results166 F ?_
   exact⟨Z,e9,i.up A t,(t.same A).done P,H⟩
  have V:u+12<z:=O
  refine gg 8 λa F=>zi (λaH=>?_) λaH=>?_
  ·
   refine gg 5 λa F=>?_
   refine Xi call211 F Z (Xmi g n c e u z W row rs _ H O U O) ?_;rintro e w ⟨rfl,e9,A,P,q⟩
   replace H:=q;clear q
   refine zq λa F=>?_
   refine gg 2 λa F=>?_
   refine bEndR results166 F ?_
   exact⟨Z,e9,i.up A t,(t.same A).done P,H⟩
  have aV:1<=Q:=O
  refine gg 1 λa F=>?_
  refine cSeqS [0,1,2,8,9,10] (λy w=>∃(r:Nat)(T:By),y=[(3,Ve ((r:Nat):Int))]/\r<=1000/\Pq B C u z T/\Sm B C d T/\Own W row w (.byt g n c T::rs)) F ?_ ?_
  ·
   refine gg 6 λa F=>zi (λaI=>?_) λaI=>?_
   ·
    refine gg 5 λa F=>?_
    refine Xi call212 F Z (Xkz g n c e u z W row rs _ H O U V) ?_;rintro e w ⟨rfl,T,a9,q⟩
    replace H:=q;clear q
    refine zq λa F=>?_
    refine gg 6 λa F=>?_
    exact⟨_,⟨Q-1,T,Z,O,t.same a9,i.up a9 t,H⟩,F.tt⟩
   refine gg 1 λa F=>?_
   exact⟨_,⟨Q,e,Z,a2,t,i,H⟩,F.tt⟩
  clear F H
  intro y a w hI F
  clear t i;obtain⟨r,T,rfl,o,t,i,H⟩:=hI
  refine gg 5 λa F=>?_
  refine Xi call213 F Z (Xg8 g n c T u z W row rs _ H O U V) ?_;rintro e w ⟨p2,h2,rfl,aE,a4,q⟩
  replace H:=q;clear q
  refine zq λa F=>?_
  refine gg 6 λa F=>?_
  refine cSeqS [0,1,2,3,8,9,10] (λy w=>∃(p:Nat)(h:Int)(R:By),y=[(11,Ve ((p:Nat):Int)),(12,Ve h)]/\u<=p/\p<z/\Pq B C u z R/\Sm B C d R/\Own W row w (.byt g n c R::rs)) F ?_ ?_
  ·
   refine gg 6 λa F=>zi (λaK=>?_) λaK=>?_
   ·
    refine gg 5 λa F=>?_
    refine Xi call214 F Z (Xls g n c T u z W row rs _ H O U O) ?_;rintro e w ⟨rfl,R,a8,q⟩
    replace H:=q;clear q
    refine zq λa F=>?_
    refine gg 14 λa F=>?_
    exact⟨_,⟨z-1-(p2-u),1,R,Z,O,O,t.same a8,i.up a8 t,H⟩,F.tt⟩
   refine gg 1 λa F=>?_
   exact⟨_,⟨p2,h2,T,Z,aE,a4,t,i,H⟩,F.tt⟩
  clear F H
  intro y a w hI F
  clear t i;obtain⟨p,aW,R,rfl,hp,S,t,i,H⟩:=hI
  refine cSeqS [0,1,2,3,8,9,10,11] (λy w=>∃(M:By),y=[]/\Pq B C u z M/\Sm B C d M/\Own W row w (.byt g n c M::rs)) F ?_ ?_
  ·
   refine gg 4 λa F=>?_
   refine F.split 62 Z (λaS F=>?_) λaS F=>?_
   ·
    refine gg 3 λa F=>?_
    refine F.split 65 Z (λaT F=>?_) λaT F=>?_
    ·
     refine gg 5 λa F=>zi (λaJ=>?_) λaJ=>?_
     ·
      refine gg 5 λa F=>?_
      refine Xi call215 F Z (Xdy g n c R u z W row rs _ H O U O t.pre) ?_;rintro e w ⟨aR,e9,rfl,A,P,q⟩
      replace H:=q;clear q
      refine zq λa F=>?_
      refine gg 1 λa F=>?_
      refine cIf F Z (λa5=>?_) (λa5=>?_)
      ·
       refine gg 1 λa F=>?_
       refine bEndR results166 F ?_
       exact⟨Z,e9,i.up A t,(t.same A).done (P a5),H⟩
      refine gg 1 λa F=>?_
      exact⟨_,⟨e9,Z,t.same A,i.up A t,H⟩,F.tt⟩
     refine gg 1 λa F=>?_
     exact⟨_,⟨R,Z,t,i,H⟩,F.tt⟩
    refine gg 4 λa F=>?_
    refine cIfF F Z ?_
    refine gg 1 λa F=>?_
    exact⟨_,⟨R,Z,t,i,H⟩,F.tt⟩
   refine gg 7 λa F=>?_
   refine cIfF F Z ?_
   refine gg 1 λa F=>?_
   exact⟨_,⟨R,Z,t,i,H⟩,F.tt⟩
  clear F H
  intro y a w hI F
  clear t i;obtain⟨M,rfl,t,i,H⟩:=hI
  refine gg 2 λa F=>?_
  refine zRO H λH=>?_
  refine gg 3 λa F=>?_
  refine zSp 75 F (λaU F=>?_) λaU F=>?_
  ·
   have aL:0<u:=O
   refine gg 9 λa F=>?_
   refine zEc 12 F (UN (M (u-1)) (M p) _) H λa w F H=>?_
   refine gg 5 λa F=>zi (λa6=>?_) λa6=>?_
   ·
    refine gg 6 λa F=>?_
    refine Xi call217 F Z (Xgp g n c M u z p W row rs _ H O U hp S) ?_;rintro e w ⟨I,e5,rfl,D,aO,a7,aP,aN,aQ,q⟩
    replace H:=q;clear q
    refine zq λa F=>?_
    refine gg 8 λa F=>?_
    (have aC:¬(M (u-1)).toNat<(M p).toNat:=by simpa using a6
     have aD:=t.eqs aL hp S aC D aP aN
     exact⟨_,O,_,⟨I,z,r,wb,wp,e5,Z,Z,o,t.goEq D aO a7 aD,i.up D t,H⟩,F.tt⟩)
   refine gg 7 λa F=>?_
   refine Xi call218 F Z (XeX g n c M u z p W row rs _ H O U hp S) ?_;rintro e w ⟨I,r5,e5,rfl,D,s,q⟩
   replace H:=q;clear q
   have J:=t.same D
   have E:=i.up D t
   have a3:=s.am
   have aM:=s.mb
   refine zq λa F=>?_
   refine gg 25 λa F=>?_
   refine Xh F Z Z (XcE (j:=8) ?_ ?_) ?_
   focus omega
   focus omega
   clear F a;intro a F
   refine gg 9 λa F=>zi (λN=>?_) λN=>?_
   ·
    refine gg 13 λa F=>?_
    refine Xi call166 F Z (ih (I-u) O u I r e5 _ (AI _) H O a3 o (J.preL O)) ?_;rintro e w ⟨rfl,X,v,L,q⟩
    replace H:=q;clear q
    refine zq λa F=>?_
    refine gg 6 λa F=>?_
    exact⟨_,O,_,⟨I+1,z,r,_,_,X,Z,Z,o,J.goRight s v L,E.trans (v.mono O O),H⟩,F.tt⟩
   refine gg 14 λa F=>?_
   refine Xi call166 F Z (ih (z-(I+1)) O (I+1) z r e5 _ (AI _) H O O o (.inr λk h1 h2=>by rw[HQ];exact s.big k O h2)) ?_;rintro e w ⟨rfl,X,v,L,q⟩
   replace H:=q;clear q
   refine zq λa F=>?_
   refine gg 5 λa F=>?_
   exact⟨_,O,_,⟨u,I,r,_,_,X,Z,Z,o,J.goLeft s v L,E.trans (v.mono O O),H⟩,F.tt⟩
  refine gg 13 λa F=>?_
  refine cIfF F Z ?_
  refine gg 7 λa F=>?_
  refine Xi call218 F Z (XeX g n c M u z p W row rs _ H O U hp S) ?_;rintro e w ⟨I,r5,e5,rfl,D,s,q⟩
  replace H:=q;clear q
  have J:=t.same D
  have E:=i.up D t
  have a3:=s.am
  have aM:=s.mb
  refine zq λa F=>?_
  refine gg 25 λa F=>?_
  refine Xh F Z Z (XcE (j:=8) ?_ ?_) ?_
  focus omega
  focus omega
  clear F a;intro a F
  refine gg 9 λa F=>zi (λN=>?_) λN=>?_
  ·
   refine gg 13 λa F=>?_
   refine Xi call166 F Z (ih (I-u) O u I r e5 _ (AI _) H O a3 o (J.preL O)) ?_;rintro e w ⟨rfl,X,v,L,q⟩
   replace H:=q;clear q
   refine zq λa F=>?_
   refine gg 6 λa F=>?_
   exact⟨_,O,_,⟨I+1,z,r,_,_,X,Z,Z,o,J.goRight s v L,E.trans (v.mono O O),H⟩,F.tt⟩
  refine gg 14 λa F=>?_
  refine Xi call166 F Z (ih (z-(I+1)) O (I+1) z r e5 _ (AI _) H O O o (.inr λk h1 h2=>by rw[HQ];exact s.big k O h2)) ?_;rintro e w ⟨rfl,X,v,L,q⟩
  replace H:=q;clear q
  refine zq λa F=>?_
  refine gg 5 λa F=>?_
  exact⟨_,O,_,⟨u,I,r,_,_,X,Z,Z,o,J.goLeft s v L,E.trans (v.mono O O),H⟩,F.tt⟩
theorem XbY(A:Option Addr)(c:Nat)(w0:World):Va 210 #[.slice A 0 c,Ve 0,Ve 0] w0 (.tuple #[]):=by
 refine Vb func210 ntmps210 λH a F=>?_
 refine gg 3 λa F=>?_
 refine Xh F Z Z (JN ?_) ?_
 focus omega
 clear F a;intro a F
 refine gg 3 λa F=>?_
 refine cLoopS [0,1,2] (λm b w=>m=0/\b=[(6,Ve 1)]/\Own w0 none w []) F (0) [(6,Ve 1)] ?_ ?_
 ·exact⟨Z,Z,H⟩
 clear F H;intro m b a w i F
 obtain⟨rfl,rfl,H⟩:=i
 refine gg 8 λa F=>zi (λd=>?_) λd=>?_
 ·
  omega
 refine gg 1 λa F=>?_
 refine bEnd results210 F ?_
 exact⟨Z,H.below⟩
theorem XlF(A:Option Addr)(c:Nat)(v:Int)(w0:World):Va 166 #[.slice A 0 c,Ve 0,Ve 0,Ve v] w0 (.tuple #[]):=by
 refine Vb func166 ntmps166 λH a F=>?_
 refine gg 9 λa F=>?_
 refine cLoopS [0] (λm b w=>m=0/\b=[(1,Ve 0),(2,Ve 0),(3,Ve v),(8,.bool true),(9,.bool true)]/\Own w0 none w []) F (0) [(1,Ve 0),(2,Ve 0),(3,Ve v),(8,.bool true),(9,.bool true)] ?_ ?_
 ·exact⟨Z,Z,H⟩
 clear F H;intro m b a w i F
 obtain⟨rfl,rfl,H⟩:=i
 refine gg 5 λa F=>?_
 refine Xh F Z Z (Mf ?_) ?_
 focus omega
 clear F a;intro a F
 refine gg 9 λa F=>zi (λd=>?_) λd=>?_
 ·
  refine gg 5 λa F=>?_
  refine zCa F (XbY A c _) H λa w F H=>?_
  refine gg 2 λa F=>?_
  refine bEndR results166 F ?_
  exact⟨Z,H.below⟩
 omega
theorem Xh7(A:Option Addr)(c:Nat)(w0:World):Va 108 #[.slice A 0 c] w0 (.tuple #[]):=by
 refine Vb func108 ntmps108 λH a F=>?_
 refine gg 10 λa F=>?_
 refine sCv underlying3 underlying180 F Z Z Z (XcT O) λa F=>?_;refine Xi call86 F Z (Xal 0 _ O) ?_;rintro e w ⟨r,rfl,_,_,b⟩;replace H:=H.grow b;clear b
 refine zq λa F=>?_
 refine zCa F (XlF A c _ _) H λa w F H=>?_
 refine gg 1 λa F=>?_
 refine bEnd results108 F ?_
 exact⟨Z,H.below⟩
theorem Xh6(g n c:Nat)(d:By)(W:World)(row:Option Nat)(rs:List Res)(w0:World)(H:Own W row w0 (.byt g n c d::rs))(s:n<=1000000):
 Calls prog 108 #[Vd g 0 n c] w0 λe q=>e=.returned (.tuple #[])/\∃b,Sm 0 n d b/\Srt 0 n b/\Own W row q (.byt g n c b::rs):=by
 refine VU func108 Z ntmps108 Z (λa F=>?_)
 refine gg 10 λa F=>?_
 refine sCv underlying3 underlying180 F Z Z Z (XcT O) λa F=>?_;refine Xi call86 F Z (Xal n _ O) ?_;rintro e w ⟨r,rfl,_,t,m⟩;replace H:=H.grow m;clear m
 refine zq λa F=>?_
 refine Xi call166 F Z (XoU g n c s W row rs n 0 n r d _ O H (AI _) (AU _) O (.inl Z)) ?_;rintro e w ⟨rfl,p,j,i,o⟩
 replace H:=o;clear o
 refine zq λa F=>?_
 refine gg 1 λa F=>?_
 refine bEnd results108 F ?_
 exact⟨Z,p,j,i,H⟩
theorem G3(z:Array Value)(n:Nat):(Builtin.zeroCells z n).size=n*z.size:=by simp[Builtin.zeroCells]
theorem Xio{e:TypeId}{o:Nat}{d:List (List Value)}(H:Own w0 row w rs)(i:Nat)(p:rs[i]?=some (.rws e o (Vd g 0 n c) d)):
   ∃j:List Value,n=d.length/\n<=c/\c<=maxLen/\j.length=c*o/\j.take (n*o)=d.flatten/\d.flatten.length=n*o/\Own w0 row w (rs.set i (.blk g j e)):=by
 have h:w.ownsRow 0 e o (Vd g 0 n c) d.length d.flatten:=H.pred i _ p
 have z:=H.foot i _ p g Z
 obtain⟨v,⟨m,_⟩|⟨B,r,j,m,_,y,s,t,A,u⟩⟩:=h
 ·cases m
 ·obtain⟨⟨rfl⟩,C,rfl⟩:(g=B)/\n=d.length/\c=r:=by
    simp only[Value.slice.injEq,FE,Addr.mk.injEq]at m
    exact⟨m.1.1,m.2.1,m.2.2⟩
  subst C
  refine⟨j.toList,Z,s,t,by simpa using A,u,v,H.turn i p _ H.grown (AI _) (λ_ _ _=>rfl) (by show Blk w g j.toList e;unfold Blk;simpa using y) (λb q=>?_)⟩
  have q:b=g:=q
  subst q
  exact⟨.inl Z,z.2⟩
theorem blkRws{e:TypeId}{sz:Nat}{d:List Value}{rows:List (List Value)}(H:Own w0 row w rs)(i:Nat)(m:rs[i]?=some (.blk g d e))(t:n=rows.length)(s:n<=c)(hm:c<=maxLen)(o:d.length=c*sz)(p:d.take (n*sz)=rows.flatten)(q:rows.flatten.length=n*sz):
 Own w0 row w (rs.set i (.rws e sz (Vd g 0 n c) rows)):=by
 have r:=H.blk i m
 subst t;refine H.turn i m _ H.grown (AI _) (λ_ _ _=>rfl) ⟨q,.inr ⟨g,c,d.toArray,Z,AU _,r,s,hm,by simpa using o,by simpa using p⟩⟩ (λb j=>?_)
 have j:Value.ownBlock (Vd g 0 rows.length c)=some b:=j
 simp only[Value.ownBlock,FE]at j
 subst j
 exact⟨.inl Z,(H.foot i _ m g Z).2⟩
theorem J9:∀(c b:List Value)(o:Nat),(VZ b o c).length=b.length
 | [],_,_=>rfl
 |v::r,b,o=>by rw[VZ,J9 r,F9]
theorem E4:∀(c b:List Value)(o m:Nat),(VZ b o c).take m=VZ (b.take m) o c
 | [],_,_,_=>rfl
 |v::r,b,o,m=>by rw[VZ,VZ,E4 r,List.take_set]
theorem Lq:∀(c b:List Value)(o m:Nat),m<=o->(VZ b o c).take m=b.take m
 | [],_,_,_,_=>rfl
 |v::r,b,o,m,h=>by
  rw[VZ,Lq r _ _ _ O,List.take_set]
  exact List.set_eq_of_length_le (by rw[Aj];omega)
theorem E1{e:Nat}:∀(b:List (List Value)),(∀r∈b,r.length=e)->∀k,k<=b.length->(b.take k).flatten=b.flatten.take (k*e)
 | [],_,k,c=>by
   have:k=0:=by simpa using c
   subst this;simp
 |r0::rest,d,0,_=>by simp
 |r0::rest,d,k+1,c=>by
  have g:r0.length=e:=d r0 (by simp)
  rw[List.take_succ_cons,FO,FO,E1 rest (λr i=>d r (by simp[i])) k (by simpa using c),List.take_append,FD (l:=r0) (by rw[g,FB];omega),g]
  congr 2
  rw[FB];omega
section
variable{P:Program}{l:List Oper}{Q:Exit->Act->World->Prop}{N:Nat}{a:Act}{env:List (Nat×Value)}{rest:List Oper}{d:Tmp}{ty:TypeId}{pos:String}{af:Array Edge}{g:Option (Nat×Bool)}{w0 w:World}{row:Option Nat}{rs:List Res}
theorem XqD{o:Oper}{v:Value}{w':World}(F:Has N a env)(b:V2 l env o.guard=true)(hd:o.dst=none)(c:(execOp a.eval o).run P w=.ok (.value v) w')(K:wpList P l.toArray Q rest a w'):wpList P l.toArray Q (o::rest) a w:=by
 unfold wpList
 rw[if_pos (UB F b)];refine .inl ?_
 unfold Oper.wp
 rw[c,Oper.upon_value,hd]
 exact K
end
end Go.Proofs.YtajfpcgbnflceaaGreatDoor
